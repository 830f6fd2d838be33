/- A part of the proof of EmitSays. -/
import Derived.Test.YtfbmaffacikgbaaGreatA5
import Derived.Test.YtfbmaffacikgbaaGreatA7
set_option maxRecDepth 100000
set_option maxHeartbeats 4000000
set_option linter.unusedVariables false
set_option linter.unusedSimpArgs false
open Go renaming Calls→O
open Go.Proofs.Tryz renaming prog→U
open Nat renaming le_refl→aA,le_trans→aG,zero_le→aJ
open List renaming getElem?_eq_getElem→aB,length_append→aD,getElem_mem→aE,length_map→aI,take_succ_eq_append_getElem→aL,length_cons→aM,getD_eq_getElem?_getD→aN,length_take→aO,getElem_of_mem→aQ,map_append→aS,length_nil→aT,take_of_length_le→aY,not_mem_nil→aZ,map_cons→bC,mem_cons→bF,getElem_map→cH,all_eq_true→cJ,map_nil→cM
open Go.RowKit.Below renaming refl→aC
open Go.World renaming alloc_heap_new→aH,ownsRow_nil→bE,cell?_alloc_lt→bO
open Go.Lib renaming alloc_old→aR,byteCells→bK
open Bool renaming and_eq_true→aV
open Go.IntWalk renaming i64_in→aX
open Go.Proofs.Tryz renaming underlying3→bG,underlying4→bQ
open Go.ByteArray renaming toList_eq→cK
open Go.Value renaming int→cS
open Go.Value renaming slice→cT
open Go.Value renaming string→cU
open Go.Value renaming bool→cV
open Go.Value renaming pointer→cW
open Go.Value renaming agg→cX
open Go.Obj renaming cells→cY
open Go.Ending renaming returned→cZ
open Go.IntKind renaming i64→dA
namespace Go.Proofs.YtfbmaffacikgbaaGreat
variable {w w' wr:World} {r k i size d co b:Nat} {v:Value} {e:TypeId} {l:List Int} {p:Option Addr} {x:Int}
section
open Go.RowKit Go.Shelf Ob Ty
theorem m7 (t:T) (v:TV) (w:World):O U 118 #[fN v t,cS dA 0] w (RB w (cV (fH 0 t))):=by unfold fN;exact V49
theorem Wp:∀d,d≤10→DF d
 |0,_=>fun t v e w ht=>m7 t v w
 |d+1,h=>fun t v e w ht=>m8 d (Wp d Om) Om t v e w ht
theorem Wo (t:T) (v:TV) (e:Nat) (w:World) (ht:TyAt w e t v):O U 91 #[fN v t] w (RB w (cV (oM t))):=by have hc:=fun w' (hb:dG w w')=>Wp 4 De t v e w' (ht.below hb);obtain⟨b,hb⟩:=Ex (oM t);rw[←hb];unfold oM at hb;rw[←hb]at hc;unfold fN at hc⊢;have HC:=Ih hc;clear hc ht hb;exact V33
theorem Kf (t:T) (v:TV) (e:Nat) (w:World) (ht:TyAt w e t v):O U 36 #[fN v t] w (RB w (cV (mL t))):=by have hc:=fun w' (hb:dG w w')=>Wo t v e w' (ht.below hb);obtain⟨b,hb⟩:=Ex (oM t);obtain⟨r,hr⟩:=Ex (mL t);rw[←hr];have HR:Hid (r=(decide (t.kind=4)&&b)):=Ih (by rw[hr,hb];rfl);rw[←hb]at hc;obtain⟨kd,jT⟩:=Ex t.kind;unfold fN at hc⊢;rw[←jT]at hc HR⊢;have HC:=Ih hc;clear hc ht hb hr jT;by_cases k4:kd=4;(·have Tq:(kd==4)=true:=beq_iff_eq.2 k4;have HF:Hid (r=b):=Ih (by rw[HR.out,decide_eq_true k4];rfl);clear k4;have Z4j:=0;exact V73);(·have Tq:(kd==4)=false:=beq_eq_false_iff_ne.2 k4;have HF:Hid (r=false):=Ih (by rw[HR.out,decide_eq_false k4];rfl);clear k4;exact V533)
theorem Lp (t:T) (v:TV) (e:Nat) (w:World) (ht:TyAt w e t v):O U 35 #[fN v t] w (RB w (cV (sI t))):=by have hc:=fun w' (hb:dG w w')=>Wo t v e w' (ht.below hb);have ZaA:=0;exact V252
theorem Xe (t:T) (v:TV) (w:World) (ht:TyIn w t v):
 O U 117 #[fN v t] w (RB w (cV (Cf t))):=by obtain⟨r,hr⟩:=Ex (Cf t);have sX:=ht.nl;have iU:=ht.pl;have Z6q:=0;exact V135
theorem uh (h:SliceAt w dA p l) (hl:0<l.length):∃b o,p=some ⟨b,o,none⟩∧b<w.heap.size∧∀j (hj:j<l.length),w.cell? ⟨b,o+j,none⟩=some (cS dA l[j]):=by rcases h with h0|⟨b,o,e,hb,hr⟩;(·omega);(·refine⟨b,o,e,hb,fun j hj=>?_⟩;have h1:=hr j hj;rwa[aN,aB hj,Option.getD_some]at h1)
theorem yZ (l:List Int) (p:Option Addr) (n gN:Nat) (regs:Int) (w:World) (hl:l.length=n) (hn:n≤9223372036854775807) (h:SliceAt w dA p l):
 O U 115 #[cT p n gN,cS dA regs] w fun e w'=>e=cZ (cV (Td regs l))∧w=w':=by obtain⟨t,ht⟩:=Ex (Td regs l);rw[←ht];have HT:=Ih ht;have HL:=Ih hl;have HC:=Ih h;clear ht hl h;go_in;go_wp2_with fail;go_loopg[5] n (fun gk i wr=>∃k:Nat,k≤n∧gk=n-k∧i=cS dA k∧w=wr∧∀j (h:j<l.length),j<k→0≤l[j]∧l[j]<regs);(case atStart=>exact⟨0,by omega,rfl,rfl,rfl,fun _ _ h=>absurd h Om⟩);(case round=>have Zdg:=0;exact V309)
theorem zk (l:List Int) (p:Option Addr) (n gN:Nat) (w:World) (hl:l.length=n) (hn:n≤9223372036854775807) (h:SliceAt w dA p l):
 O U 116 #[cT p n gN] w (RB w (cV (!decide l.Nodup))):=by
 obtain⟨t,ht⟩:=Ex (!decide l.Nodup);rw[←ht];have HT:=Ih ht;have HL:=Ih hl;have HC:=Ih h;clear ht hl h;go_in;go_wp2_with fail;go_loopg[3] n (fun gk i wr=>∃k:Nat,k≤n∧gk=n-k∧i=cS dA k∧dG w wr∧(l.take k).Nodup);(case atStart=>exact⟨0,by omega,rfl,rfl,aC _ _,by simp⟩)
 case round=>
  obtain⟨k,hk,hgk,rfl,hb,gZ⟩:=hrel;have HG:=Ih hgk;have HB:=Ih hb;have aa:=Ih gZ;clear hgk hb gZ;by_cases dH:k<n
  ·(have jS:k<l.length:=by rw[HL.out];exact dH);obtain⟨x,hx⟩:=Ex (l[k]);obtain⟨b,o,rfl,hU,hr⟩:=uh HC.out Om;have mN:=Ih hr;have yD:(k:Int)<n:=Om;have HX:=Ih hx;clear hx hr dH;go_wp2_with fail;go_loopg[4] k (fun gk i wr=>∃j:Nat,j≤k∧gk=k-j∧i=cS dA j∧dG w wr∧∀q (h:q<l.length),q<j→l[q]≠x);(case atStart=>exact⟨0,by omega,rfl,rfl,HB.out,fun q h h2=>by omega⟩)
   case round=>
    obtain⟨j,hj,PJ,rfl,eL,fM⟩:=hrel;have nX:=Ih PJ;have gC:=Ih eL;have zQ:=Ih fM;clear PJ eL fM;by_cases FL:j<k
    ·have lA:j<l.length:=Om;obtain⟨y,hy⟩:=Ex (l[j]);have c1:wr.cell? ⟨b,o+k,none⟩=some (cS dA x):=(gC.out.cell (p:=⟨b,o+k,none⟩) hU).trans (by rw[HX.out];exact mN.out k jS);have c2:wr.cell? ⟨b,o+j,none⟩=some (cS dA y):=(gC.out.cell (p:=⟨b,o+j,none⟩) hU).trans (by rw[hy];exact mN.out j lA);have HY:=Ih hy;have Qn:(j:Int)<n:=Om;have hjk2:(j:Int)<k:=Om;clear hy FL;by_cases he:y=x
     ·have hee:(y==x)=true:=beq_iff_eq.2 he
      have HF:Hid (t=true):=Ih (by
       rw[HT.out,decide_eq_false]
       ·rfl
       ·intro gZ
        have:=(List.getElem_inj (h₀:=lA) (h₁:=jS) gZ).1 (by rw[←HY.out,←HX.out];exact he)
        omega)
      have Zl4:=0;exact V530
     (·have hee:(y==x)=false:=beq_eq_false_iff_ne.2 he;have HE:=Ih he;have Zl5:=0;exact V530)
    ·obtain rfl:j=k:=Om
     have pS:Hid ((l.take (j+1)).Nodup):=Ih (Jp jS aa.out (by
      rw[Bool.eq_false_iff]
      intro hm
      rw[List.contains_iff_mem]at hm
      obtain⟨q,hq,e⟩:=aQ hm
      rw[List.getElem_take]at e
      rw[aO]at hq
      exact zQ.out q Om Om (e.trans HX.out.symm)))
     clear FL zQ;go_wp2_with fail;go_roundg (n-(j+1));(case measure=>have:=HG.out;omega);(case rel=>exact⟨j+1,by omega,rfl,Gn,gC.out,pS.out⟩)
  ·have HF:Hid (t=false):=Ih (by
    have h:=aa.out
    rw[aY (by rw[HL.out];omega)]at h
    rw[HT.out,decide_eq_true h]
    rfl)
   exact V201
theorem vD (t:T) (v:TV) (e:Nat) (w:World) (ht:TyAt w e t v) (hf:mL t=true):
 O U 89 #[fN v t] w (RB w (.tuple #[cS dA (eR t:Nat),cS dA (mH t:Nat)])):=by have hp:=fY hf;(have hm:oM t=true:=by unfold mL at hf;rw[aV]at hf;exact hf.2);obtain⟨c,co,gP,hc,dO⟩:=ht.rows Om;have lH:=Ih dO;have lB:=Ih ht.in.pl;have pO:=Ih hm;obtain⟨np,nU⟩:=Ex v.np;obtain⟨n,hn⟩:∃n,np=n+1:=⟨v.np-1,by have:=ht.in.pl;omega⟩;have mE:=ht.in.pb;have Z6D:=0;exact V142
theorem R4 (b:oJ) (v:BV) (o:Ord) (u:OV) (w:World) (hb:BodAt w b v) (ho:OrdAt w o u) (hf:mL b.ty=true) (hk:o.op=7):
 O U 90 #[gG v b,iW u o] w (RB w (cV (eD b o))):=by have Z2I:=0;exact V55
theorem R3 (b:oJ) (v:BV) (o:Ord) (u:OV) (w:World) (hb:BodAt w b v) (ho:OrdAt w o u) (hf:mL b.ty=true) (hk:o.op=8):
 O U 90 #[gG v b,iW u o] w (RB w (cV (eD b o))):=by have Z2J:=0;exact V55
theorem S1 (b:oJ) (v:BV) (o:Ord) (u:OV) (w:World) (hb:BodAt w b v) (ho:OrdAt w o u) (hf:mL b.ty=true) (k1:o.op≠1) (k2:o.op≠2) (k3:o.op≠3) (k4:o.op≠4) (k5:o.op≠5) (k6:o.op≠6) (k7:o.op≠7) (k8:o.op≠8) (k9:o.op≠9) (cm:o.op≠10) (FC:o.op≠11) (uw:o.op≠12) (FB:o.op≠13) (FA:o.op≠14):
 O U 90 #[gG v b,iW u o] w (RB w (cV (eD b o))):=by have Z2K:=0;exact V55
theorem S0 (b:oJ) (v:BV) (o:Ord) (u:OV) (w:World) (hb:BodAt w b v) (ho:OrdAt w o u) (hf:mL b.ty=true) (hk:o.op=1):
 O U 90 #[gG v b,iW u o] w (RB w (cV (eD b o))):=by have Z2y:=0;exact V55
theorem R9 (b:oJ) (v:BV) (o:Ord) (u:OV) (w:World) (hb:BodAt w b v) (ho:OrdAt w o u) (hf:mL b.ty=true) (hk:o.op=2):
 O U 90 #[gG v b,iW u o] w (RB w (cV (eD b o))):=by have Z2z:=0;exact V55
theorem R8 (b:oJ) (v:BV) (o:Ord) (u:OV) (w:World) (hb:BodAt w b v) (ho:OrdAt w o u) (hf:mL b.ty=true) (hk:o.op=3):
 O U 90 #[gG v b,iW u o] w (RB w (cV (eD b o))):=by have Z2A:=0;exact V55
theorem R7 (b:oJ) (v:BV) (o:Ord) (u:OV) (w:World) (hb:BodAt w b v) (ho:OrdAt w o u) (hf:mL b.ty=true) (hk:o.op=4):
 O U 90 #[gG v b,iW u o] w (RB w (cV (eD b o))):=by have Z0d:=0;exact V2
end
end Go.Proofs.YtfbmaffacikgbaaGreat
