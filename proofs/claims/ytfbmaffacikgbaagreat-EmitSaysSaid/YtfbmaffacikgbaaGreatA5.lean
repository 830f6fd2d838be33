/- A part of the proof of EmitSays. -/
import Derived.Test.YtfbmaffacikgbaaGreatA4
set_option maxRecDepth 100000
set_option maxHeartbeats 4000000
set_option linter.unusedVariables false
set_option linter.unusedSimpArgs false
open Go renaming Calls→O
open Go.Proofs.Tryz renaming prog→U
open Nat renaming le_refl→aA,lt_of_lt_of_le→aF,le_trans→aG,zero_le→aJ
open List renaming getElem?_eq_getElem→aB,length_append→aD,getElem_mem→aE,length_map→aI,take_succ_eq_append_getElem→aL,length_cons→aM,getD_eq_getElem?_getD→aN,length_take→aO,getElem_of_mem→aQ,map_append→aS,length_nil→aT,take_of_length_le→aY,not_mem_nil→aZ,map_cons→bC,mem_cons→bF,getElem_map→cH,all_eq_true→cJ,map_nil→cM
open Go.RowKit.Below renaming refl→aC
open Go.World renaming alloc_heap_new→aH,ownsRow_nil→bE,cell?_alloc_lt→bO
open Go.Lib renaming alloc_old→aR,byteCells→bK
open Go.IntWalk renaming i64_in→aX
open Go.ByteArray renaming toList_eq→cK
open Go.Value renaming int→cS
open Go.Value renaming slice→cT
open Go.Value renaming string→cU
open Go.Value renaming bool→cV
open Go.Value renaming pointer→cW
open Go.Value renaming agg→cX
open Go.Obj renaming cells→cY
open Go.Ending renaming returned→cZ
open Go.IntKind renaming i64→dA
namespace Go.Proofs.YtfbmaffacikgbaaGreat
variable {w W w' w1 wr w2:World} {B r k ns i size d bm bp n' k' co b:Nat} {v va v5 v6 v':Value} {e:TypeId} {l:List Int} {a:Act} {P:Program} {p ps:Option Addr} {s:ByteArray} {x:Int}
section
open Go.RowKit Go.Shelf Ob Ty
theorem Ma (s:ByteArray) (p:Option Addr) (n gN:Nat) (l:List ByteArray) (w:World) (hl:l.length=n) (hn:n≤9223372036854775807) (h:StrsAt w p l):
 O U 37 #[cT p n gN,cU s] w fun e w'=>e=cZ (cV ((l.map (·.data.toList)).contains s.data.toList))∧w=w':=by have Z6o:=0;exact V133
theorem StrsAt.take {l:List ByteArray} (h:StrsAt w p l) (k:Nat):StrsAt w p (l.take k):=by rcases h with h|⟨c,co,e,hc,hr⟩;(·exact .inl (by rw[aO];omega));(·exact .inr ⟨c,co,e,hc,fun j hj=>by rw[List.getElem_take];exact hr j (by simp at hj;omega)⟩)
def DF (d:Nat):Prop:=∀(t:T) (v:TV) (e:Nat) (w:World),TyAt w e t v→
 O U 118 #[fN v t,cS dA (d:Nat)] w fun x w'=>x=cZ (cV (fH d t))∧dG w w'
theorem Xh {t:T} (h:fH (d+1) t=true):t.parts.length≤7∧t.names.length≤6∧t.parts.all (fH d)=true:=by have hm:=iL h;refine⟨?_,?_,List.all_eq_true.2 hm.parts⟩;(·by_cases h3:t.kind=3;(·have:=(hm.struct h3).2.2.2.2.1;omega);(·by_cases h4:t.kind=4;(·have:=(hm.fn h4).2;omega);(·have hk:=hm.kind;rw[(hm.plain Om).1];simp)));(·by_cases h3:t.kind=3;(·have:=hm.struct h3;omega);(·rw[(hm.bare h3).2];simp))
theorem m8 (d:Nat) (ih:DF d) (hd:d≤10) (t:T) (v:TV) (e:Nat) (w:World) (ht:TyAt w e t v):O U 118 #[fN v t,cS dA ((d+1:Nat):Int)] w (RB w (cV (fH (d+1) t))):=by obtain⟨r,hr⟩:=Ex (fH (d+1) t);rw[←hr];have mE:=ht.in.pb;have Qj:=ht.in.nb;have HR:=Ih hr;have HT:=Ih ht;have HI:=Ih ih;have lB:=Ih ht.in.pl;have zP:=Ih ht.in.nl;(have H7:Hid (r=true→v.np≤7∧v.nn≤6∧t.parts.all (fH d)=true):=Ih fun h=>by rw[hr]at h;have:=Xh h;rwa[ht.in.pl,ht.in.nl]at this);have Zad:=0;exact V232
def zT (l:List UInt8):ByteArray:=⟨l.toArray⟩
theorem ue {l:List UInt8} (h:s.data.toList=l):s=zT l:=by obtain⟨d⟩:=s;have h:d.toList=l:=h;subst h;rfl
theorem Ee (l:List UInt8):(zT l).size=l.length:=by rw[←nO];rfl
def Uo (d:Nat):Prop:=∀(t:T) (v:TV) (e:Nat) (w:World),TyAt w e t v→fH d t=true→(dN t).length≤1000000→
 O U 11 #[fN v t] w fun x w'=>x=cZ (cU (zT (dN t)))∧dG w w'
theorem Wm (t:T) (v:TV) (w:World) (hk:t.kind=1∨t.kind=2):O U 11 #[fN v t] w (RB w (cU (zT (dN t)))):=by unfold fN;rcases hk with hk|hk;(·have h1:(t.kind==1)=true:=beq_iff_eq.2 hk;have HT:=Ih (qZ hk);exact V492);(·(have h1:(t.kind==1)=false:=by rw[hk];rfl);have h2:(t.kind==2)=true:=beq_iff_eq.2 hk;have HT:=Ih (qY hk);exact V492)
theorem Sg (d:Nat) (ih:Uo d) (t:T) (v:TV) (e:Nat) (w:World) (ht:TyAt w e t v) (hm:fH (d+1) t=true) (hk:t.kind=3) (hl:(dN t).length≤1000000):
 O U 11 #[fN v t] w (RB w (cU (zT (dN t)))):=by have Hm:=iL hm;obtain⟨_,_,nU,hp1,_,_,_,_⟩:=Hm.struct hk;have iU:=ht.in.pl;have sX:=ht.in.nl;have wJ:v.nn=v.np:=Om;have mE:=ht.in.pb;obtain⟨c,co,gP,hc,dO⟩:=ht.rows Om;have lH:=Ih dO;have rM:=Ih (qX hk);have HPM:=Ih Hm.parts;have lB:=Ih iU;have zP:=Ih (sX.trans wJ);have HT:=Ih ht;have P2:=Ih ih;have yo:=Ih hl;have ZhN:=0;exact V444
def qO (k n:Nat) (m:Bool):List UInt8:=if 0<k&&(decide (k<n)||m)then [44]else []
theorem Q9 (d:Nat) (ih:Uo d) (t:T) (v:TV) (e:Nat) (w:World) (ht:TyAt w e t v) (hm:fH (d+1) t=true) (hk:t.kind=4) (hl:(dN t).length≤1000000):
 O U 11 #[fN v t] w (RB w (cU (zT (dN t)))):=by have Hm:=iL hm;have iU:=ht.in.pl;obtain⟨nU,AN⟩:=Hm.fn hk;have mE:=ht.in.pb;obtain⟨c,co,gP,hc,dO⟩:=ht.rows Om;have lH:=Ih dO;have rM:=Ih (Cj hk nU);have HPM:=Ih Hm.parts;have lB:=Ih iU;have HT:=Ih ht;have P2:=Ih ih;have yo:=Ih hl;have ZhO:=0;exact V444
theorem Ei:∀d,Uo d
 |0=>fun t v e w ht hm hl=>by simp[fH]at hm
 |d+1=>fun t v e w ht hm hl=>by
  have hk:=(iL hm).kind
  by_cases h3:t.kind=3
  ·exact Sg d (Ei d) t v e w ht hm h3 hl
  ·by_cases h4:t.kind=4
   ·exact Q9 d (Ei d) t v e w ht hm h4 hl
   ·exact Wm t v w Om
theorem zB (t:T) (v:TV) (e:Nat) (w:World) (ht:TyAt w e t v) (hm:oM t=true):O U 11 #[fN v t] w (RB w (cU (dV t))):=by refine(Ei 4 t v e w ht hm (by have:=Dy 4 t hm;simpa using aG this De)).mono ?_;rintro x w' ⟨rfl,hb⟩;exact⟨by unfold dV Hf zT;rw[hm];rfl,hb⟩
def yx (e:Nat):Prop:=∀(a b:T) (va vb:TV) (e':Nat) (w:World),TyAt w e a va→TyAt w e' b vb→
 O U 39 #[fN va a,fN vb b] w fun x w'=>x=cZ (cV (decide (a=b)))∧dG w w'
theorem Zi {a b:ByteArray} (h:a≠b):(a.toList==b.toList)=false∧(a.toList !=b.toList)=true:=by have h1:(a.toList==b.toList)=false:=beq_eq_false_iff_ne.2 fun e=>h (Pq (by rwa[cK,cK]at e));exact⟨h1,by rw[bne,h1];rfl⟩
theorem T.ext_iff {a b:T}:a=b↔a.kind=b.kind∧a.name=b.name∧a.many=b.many∧a.parts=b.parts∧a.names=b.names:=by obtain⟨k,n,ns,ps,m⟩:=a;obtain⟨k',n',Xd,yA,m'⟩:=b;simp only[T.mk.injEq,T.kind,T.name,T.many,T.parts,T.names];constructor;(·rintro⟨h1,h2,h3,h4,h5⟩;exact⟨h1,h2,h5,h4,h3⟩);(·rintro⟨h1,h2,h3,h4,h5⟩;exact⟨h1,h2,h5,h4,h3⟩)
theorem StrsAt.get {l:List ByteArray} (h:StrsAt w p l) (hl:0<l.length):∃c co,p=some ⟨c,co,none⟩∧c<w.heap.size∧∀j (h:j<l.length),w.cell? ⟨c,co+j,none⟩=some (cU l[j]):=by rcases h with h|h;(·omega);(·exact h)
theorem rx (e:Nat) (ih:yx e) (a b:T) (va vb:TV) (e':Nat) (w:World) (ha:TyAt w (e+1) a va) (hb:TyAt w e' b vb):
 O U 39 #[fN va a,fN vb b] w (RB w (cV (decide (a=b)))):=by
 obtain⟨r,hr⟩:=Ex (decide (a=b));rw[←hr];have HR:Hid (r=true↔a.kind=b.kind∧a.name=b.name∧a.many=b.many∧a.parts=b.parts∧a.names=b.names):=Ih (by rw[hr,decide_eq_true_iff,T.ext_iff])
 have yl:Hid (∀P:Prop,P→(a.kind=b.kind∧a.name=b.name∧a.many=b.many∧a.parts=b.parts∧a.names=b.names→¬P)→r=false):=Ih fun P h1 h2=>by
  cases r with
  |false=>rfl
  |true=>exact absurd h1 (h2 (HR.1 rfl))
 have P2:=Ih ih;have HA:=Ih ha;have Fq:=Ih hb;have rE:=Ih ha.in.pl;have P5:=Ih hb.in.pl;have HAN:=Ih ha.in.nl;have HBN:=Ih hb.in.nl;have hapb:=ha.in.pb;have hanb:=ha.in.nb;unfold fN;obtain⟨ak,hak⟩:=Ex a.kind;obtain⟨bk,xF⟩:=Ex b.kind;obtain⟨an,han⟩:=Ex a.name;obtain⟨bn,xM⟩:=Ex b.name;obtain⟨am,ham⟩:=Ex a.many;obtain⟨bm,oL⟩:=Ex b.many;obtain⟨ap,Ii⟩:=Ex va.pp;obtain⟨bp,Fe⟩:=Ex vb.pp;obtain⟨XI,has⟩:=Ex va.pn;obtain⟨bsn,yJ⟩:=Ex vb.pn;obtain⟨Ri,WK⟩:=Ex va.np;obtain⟨bnp,VZ⟩:=Ex vb.np;obtain⟨dg,WL⟩:=Ex va.nn;obtain⟨bnn,WA⟩:=Ex vb.nn;rw[←hak,←xF,←han,←xM,←ham,←oL,←Ii,←Fe,←has,←yJ,←WK,←VZ,←WL,←WA];rw[←WK]at rE hapb;rw[←WL]at HAN hanb;rw[←VZ]at P5;rw[←WA]at HBN;rw[←hak,←xF,←han,←xM,←ham,←oL]at yl HR;have Iq:=Ih Ii;have HPB:=Ih Fe;have HSA:=Ih has;have MK:=Ih yJ;clear hr ih ha hb hak xF han xM ham oL Ii Fe has yJ WK VZ WL WA;have wU:Hid (dG w ((w.alloc (cY #[cS dA ak,cU an,cT XI dg va.kn,cT ap Ri va.kp,cV am] 45)).alloc (cY #[cS dA bk,cU bn,cT bsn bnn vb.kn,cT bp bnp vb.kp,cV bm] 45))):=Ih (((aC _ _).alloc (aA _) _).alloc Si _)
 have iT:Hid (((w.alloc (cY #[cS dA ak,cU an,cT XI dg va.kn,cT ap Ri va.kp,cV am] 45)).alloc (cY #[cS dA bk,cU bn,cT bsn bnn vb.kn,cT bp bnp vb.kp,cV bm] 45)).heap[w.heap.size]? =some (cY #[cS dA ak,cU an,cT XI dg va.kn,cT ap Ri va.kp,cV am] 45 (0,0))):=
  Ih ((aR _ _ _ Si).trans (aH w _))
 have jQ:=Ih (dF w (cY #[cS dA ak,cU an,cT XI dg va.kn,cT ap Ri va.kp,cV am] 45) (cY #[cS dA bk,cU bn,cT bsn bnn vb.kn,cT bp bnp vb.kp,cV bm] 45));go_in;by_cases h1:ak=bk
 ·subst h1;by_cases h2:an=bn
  ·subst h2;by_cases h3:am=bm
   ·subst h3;by_cases h4:Ri=bnp
    ·subst h4;by_cases h5:dg=bnn
     ·subst h5;clear yl;go_wp2_with fail;go_loopg[5] dg (fun gk v5 wr=>∃k:Nat,k≤dg∧gk=dg-k∧v5=cS dA k∧dG w wr∧wr.heap[w.heap.size]? =some (cY #[cS dA ak,cU an,cT XI dg va.kn,cT ap Ri va.kp,cV am] 45 (0,0))∧wr.heap[w.heap.size+1]? =some (cY #[cS dA ak,cU an,cT bsn dg vb.kn,cT bp Ri vb.kp,cV am] 45 (0,0))∧∀j (hj:j<a.names.length) (mh:j<b.names.length),j<k→a.names[j]=b.names[j]);(case atStart=>exact⟨0,aJ _,rfl,rfl,wU,iT,jQ,fun j hj mh h=>by omega⟩)
      case round=>
       obtain⟨k,hk,hgk,rfl,hb,vN,zI,eT⟩:=hrel;have HG:=Ih hgk;have HB:=Ih hb;have fP:=Ih eT;have Oh:=Ih vN;have Vj:=Ih zI;obtain⟨y0,y1,y2,y3,y4,yy⟩:=fV vN;obtain⟨z0,z1,z2,z3,z4,zz⟩:=fV zI;clear hgk hb eT vN zI;by_cases dH:k<dg
       ·(have hka:k<a.names.length:=by rw[HAN.out];exact dH);(have FK:k<b.names.length:=by rw[HBN.out];exact dH);obtain⟨c1,o1,e1,sY,fK⟩:=HA.in.strs.get Om;obtain⟨c2,o2,e2,sM,iS⟩:=Fq.in.strs.get Om;obtain rfl:XI=some ⟨c1,o1,none⟩:=HSA.trans e1;obtain rfl:bsn=some ⟨c2,o2,none⟩:=MK.trans e2;obtain⟨sa,hsa⟩:=Ex (a.names[k]);obtain⟨sb,ve⟩:=Ex (b.names[k]);have q1:wr.cell? ⟨c1,o1+k,none⟩=some (cU sa):=(HB.cell (p:=⟨c1,o1+k,none⟩) sY).trans (by rw[hsa];exact fK k hka);have q2:wr.cell? ⟨c2,o2+k,none⟩=some (cU sb):=(HB.cell (p:=⟨c2,o2+k,none⟩) sM).trans (by rw[ve];exact iS k FK);have DZ:=Ih hsa;have J9:=Ih ve;have yD:(k:Int)<dg:=Om;clear e1 e2 sY sM fK iS hsa ve dH;by_cases he:sa=sb
        ·subst he;go_wp2_with fail;go_quiet (fail);have gC:Hid (Below w.heap.size w (wr.drewN nq)):=Ih ⟨HB.out.os,HB.out.tape,HB.out.output,HB.out.size,HB.out.block⟩;go_wp2_with fail;go_roundg (dg-(k+1));(case measure=>have:=HG.out;omega)
         case rel=>exact⟨k+1,by omega,rfl,Gn,gC,Oh,Vj,fun j hj mh h=>by
          by_cases ej:j<k
          ·exact fP j hj mh ej
          ·obtain rfl:j=k:=Om
           rw[←DZ.out,←J9.out]⟩
        ·obtain⟨hn,oN⟩:=Zi he
         have HF:Hid (r=false):=Ih (by
          cases r with
          |false=>rfl
          |true=>
           have h:=(HR.1 rfl).2.2.2.2
           exact absurd (by rw[DZ.out,J9.out];simp only[h]) he)
         clear he;go_wp2_with fail;go_quiet (fail);have gC:Hid (Below w.heap.size w (wr.drewN nq)):=Ih ⟨HB.out.os,HB.out.tape,HB.out.output,HB.out.size,HB.out.block⟩;exact V22
       ·obtain rfl:k=dg:=Om;have zQ:Hid (a.names=b.names):=Ih (List.ext_getElem (by rw[HAN.out,HBN.out]) fun j h1 h2=>fP j h1 h2 (by rw[HAN.out]at h1;exact h1));clear dH fP HG y0 y1 y2 y3 y4 yy z0 z1 z2 z3 z4 zz;obtain⟨y0,y1,y2,y3,y4,yy⟩:=fV Oh;obtain⟨z0,z1,z2,z3,z4,zz⟩:=fV Vj;go_wp2_with fail;go_loopg[6] Ri (fun gk v6 wr=>∃i:Nat,i≤Ri∧gk=Ri-i∧v6=cS dA i∧dG w wr∧wr.heap[w.heap.size]? =some (cY #[cS dA ak,cU an,cT XI k va.kn,cT ap Ri va.kp,cV am] 45 (0,0))∧wr.heap[w.heap.size+1]? =some (cY #[cS dA ak,cU an,cT bsn k vb.kn,cT bp Ri vb.kp,cV am] 45 (0,0))∧∀j (hj:j<a.parts.length) (mh:j<b.parts.length),j<i→a.parts[j]=b.parts[j]);(case atStart=>exact⟨0,aJ _,rfl,rfl,HB,Oh,Vj,fun j hj mh h=>by omega⟩)
        case round=>
         obtain⟨i,hi,hgk,rfl,hb,vN,zI,eT⟩:=hrel;have HG:=Ih hgk;have kU:=Ih hb;have fP:=Ih eT;have HW1:=Ih vN;have HW2:=Ih zI;clear y0 y1 y2 y3 y4 yy z0 z1 z2 z3 z4 zz;obtain⟨y0,y1,y2,y3,y4,yy⟩:=fV vN;obtain⟨z0,z1,z2,z3,z4,zz⟩:=fV zI;clear hgk hb eT vN zI;by_cases dH:i<Ri
         ·(have hka:i<a.parts.length:=by rw[rE.out];exact dH);(have FK:i<b.parts.length:=by rw[P5.out];exact dH);obtain⟨c1,o1,e1,sY,et,d1,wj,Qe,ht1⟩:=HA.part hka;obtain rfl:e=d1:=Om;obtain⟨c2,o2,e2,sM,RU,d2,hd2,Ew,ht2⟩:=Fq.part FK;obtain rfl:ap=some ⟨c1,o1,none⟩:=Iq.trans e1;obtain rfl:bp=some ⟨c2,o2,none⟩:=HPB.trans e2;obtain⟨pa,Qi⟩:=Ex (a.parts[i]);obtain⟨pb,mE⟩:=Ex (b.parts[i]);rw[←Qi]at Qe ht1;rw[←mE]at Ew ht2;obtain⟨p0,p1,p2,p3,p4⟩:=lU kU sY Qe;obtain⟨q0,q1,q2,q3,q4⟩:=lU kU sM Ew;have l1:=aF sY kU.size;have l2:=aF sM kU.size;have l3:=dB HW1;have l4:=dB HW2;obtain⟨g,hg⟩:=Ex (decide (pa=pb));have eO:=fun w' hb=>P2 pa pb et RU d2 w' ((ht1.below kU).below hb) ((ht2.below kU).below hb);rw[←hg]at eO;unfold fN at eO;have DZ:=Ih Qi;have J9:=Ih mE;have Mq:=Ih hg;have yD:(i:Int)<Ri:=Om;have HC:=Ih eO;clear e1 e2 Qe Ew ht1 ht2 Qi mE hg eO dH wj hd2;go_upto_region 11 with fail;refine eY (Below wr.heap.size wr) Kr Kr (dD _) ?_;intro ι _ F HD HE;have k3:∀n,(F n).cell? ⟨w.heap.size,3,none⟩=some (cT (some ⟨c1,o1,none⟩) Ri va.kp):=fun n=>((HD n).cell (p:=⟨w.heap.size,3,none⟩) l3).trans y3;have m3:∀n,(F n).cell? ⟨w.heap.size+1,3,none⟩=some (cT (some ⟨c2,o2,none⟩) Ri vb.kp):=fun n=>((HD n).cell (p:=⟨w.heap.size+1,3,none⟩) l4).trans z3;have pF0:∀n,(F n).cell? ⟨c1,o1+i*5,none⟩=some (cS dA pa.kind):=fun n=>((HD n).cell (p:=⟨c1,o1+i*5,none⟩) l1).trans p0;have pF1:∀n,(F n).cell? ⟨c1,o1+i*5+1,none⟩=some (cU pa.name):=fun n=>((HD n).cell (p:=⟨c1,o1+i*5+1,none⟩) l1).trans p1;have pF2:∀n,(F n).cell? ⟨c1,o1+i*5+2,none⟩=some (cT et.pn et.nn et.kn):=fun n=>((HD n).cell (p:=⟨c1,o1+i*5+2,none⟩) l1).trans p2;have pF3:∀n,(F n).cell? ⟨c1,o1+i*5+3,none⟩=some (cT et.pp et.np et.kp):=fun n=>((HD n).cell (p:=⟨c1,o1+i*5+3,none⟩) l1).trans p3;have pF4:∀n,(F n).cell? ⟨c1,o1+i*5+4,none⟩=some (cV pa.many):=fun n=>((HD n).cell (p:=⟨c1,o1+i*5+4,none⟩) l1).trans p4;have qF0:∀n,(F n).cell? ⟨c2,o2+i*5,none⟩=some (cS dA pb.kind):=fun n=>((HD n).cell (p:=⟨c2,o2+i*5,none⟩) l2).trans q0;have qF1:∀n,(F n).cell? ⟨c2,o2+i*5+1,none⟩=some (cU pb.name):=fun n=>((HD n).cell (p:=⟨c2,o2+i*5+1,none⟩) l2).trans q1;have qF2:∀n,(F n).cell? ⟨c2,o2+i*5+2,none⟩=some (cT RU.pn RU.nn RU.kn):=fun n=>((HD n).cell (p:=⟨c2,o2+i*5+2,none⟩) l2).trans q2;have qF3:∀n,(F n).cell? ⟨c2,o2+i*5+3,none⟩=some (cT RU.pp RU.np RU.kp):=fun n=>((HD n).cell (p:=⟨c2,o2+i*5+3,none⟩) l2).trans q3;have qF4:∀n,(F n).cell? ⟨c2,o2+i*5+4,none⟩=some (cV pb.many):=fun n=>((HD n).cell (p:=⟨c2,o2+i*5+4,none⟩) l2).trans q4;have nA:=Ih fun n=>eG HE ((HC _ (HD n)).mono fun _ _ ⟨e,hb⟩=>⟨e,eW (HD n) hb (HD n).size⟩);clear HC p0 p1 p2 p3 p4 q0 q1 q2 q3 q4 y0 y1 y2 y3 y4 yy z0 z1 z2 z3 z4 zz;(repeat(go_big_quiet_step (exact nA _)));refine wpQuiet_nil ?_;intro w2 eL;have nT:=Ih (Tm kU eL);have QM:=Ih ((eL.block _ l3).trans HW1);have HV2:=Ih ((eL.block _ l4).trans HW2);clear eL nA HD HE;cases g
          ·have HF:Hid (r=false):=Ih (by
            cases r with
            |false=>rfl
            |true=>
             have h:=(HR.1 rfl).2.2.2.1
             exact absurd (by rw[DZ.out,J9.out];simp only[h]) (of_decide_eq_false Mq.symm))
           go_wp2_with fail;go_ret;exact⟨by rw[HF.out];rfl,nT⟩
          ·go_wp2_with fail;go_roundg (Ri-(i+1));(case measure=>have:=HG.out;omega)
           case rel=>exact⟨i+1,by omega,rfl,Gn,nT,QM,HV2,fun j hj mh h=>by
            by_cases ej:j<i
            ·exact fP j hj mh ej
            ·obtain rfl:j=i:=Om
             rw[←DZ.out,←J9.out]
             exact of_decide_eq_true Mq.symm⟩
         (·obtain rfl:i=Ri:=Om;have HT:Hid (r=true):=Ih (HR.2 ⟨trivial,trivial,trivial,List.ext_getElem (by rw[rE.out,P5.out]) fun j h1 h2=>fP j h1 h2 (by rw[rE.out]at h1;exact h1),zQ⟩);clear dH;go_wp2_with fail;go_ret;exact⟨by rw[HT.out];rfl,kU⟩)
     (·have HF:=Ih (yl _ h5 (fun h e=>e (by rw[←HAN.out,←HBN.out,h.2.2.2.2])));(have hn:((dg:Int)==(bnn:Int))=false:=by rw[uL];exact beq_eq_false_iff_ne.2 h5);(have oN:((dg:Int) !=(bnn:Int))=true:=by rw[bne,hn];rfl);clear h5 yl;exact V36)
    (·have HF:=Ih (yl _ h4 (fun h e=>e (by rw[←rE.out,←P5.out,h.2.2.2.1])));(have hn:((Ri:Int)==(bnp:Int))=false:=by rw[uL];exact beq_eq_false_iff_ne.2 h4);(have oN:((Ri:Int) !=(bnp:Int))=true:=by rw[bne,hn];rfl);clear h4 yl;exact V36)
   (·have HF:=Ih (yl _ h3 (fun h e=>e h.2.2.1));have hn:(am==bm)=false:=beq_eq_false_iff_ne.2 h3;(have oN:(am !=bm)=true:=by rw[bne,hn];rfl);clear h3 yl;exact V36)
  (·have HF:=Ih (yl _ h2 (fun h e=>e h.2.1));obtain⟨hn,oN⟩:=Zi h2;clear h2 yl;exact V36)
 (·have HF:=Ih (yl _ h1 (fun h e=>e h.1));have hn:(ak==bk)=false:=beq_eq_false_iff_ne.2 h1;(have oN:(ak !=bk)=true:=by rw[bne,hn];rfl);clear h1 yl;exact V36)
theorem Rj:∀e,yx e
 |0=>fun a b va vb e' w ha hb=>ha.elim
 |e+1=>fun a b va vb e' w ha hb=>rx e (Rj e) a b va vb e' w ha hb
end
section
open Go.RowKit
theorem R1:(U.info? 123).map (fun i=>(i.zero,i.size,i.bytes))=some (some (cX #[cS dA 0,cU ⟨#[]⟩,cU ⟨#[]⟩,cV false]),4,48):=by kernel_rfl
theorem R0 (w:World):
 O U 94 #[] w fun e w'=>(∃v,e=cZ v∧w'.ownsRow w.heap.size 123 4 v 25 (Cp.cellsTo 25))∧dG w w':=by
 obtain⟨i0,hi0,hz0,hz1,M0⟩:=info_parts R1;go_in;go_wp2_with fail
 have hI:World.ownsRow (World.alloc (w.alloc (cY (Cp.cellsTo 13).toArray 123)) (cY Cp.names 9)) w.heap.size 123 4 (cT (some ⟨w.heap.size,0,none⟩) 13 13) 13 (Cp.cellsTo 13):=
  (World.ownsRow_lit w (Cp.cellsTo 13).toArray 13 (aA _) De rfl).alloc _
 have hN:(World.alloc (w.alloc (cY (Cp.cellsTo 13).toArray 123)) (cY Cp.names 9)).heap[w.heap.size+1]? =some (cY Cp.names 9 (0,0)):=dF w _ _;have hB:dG w (World.alloc (w.alloc (cY (Cp.cellsTo 13).toArray 123)) (cY Cp.names 9)):=((aC _ _).alloc (aA _) _).alloc Si _
 go_loopg[3,1] 12 (fun gk i v wr=>∃k:Nat,k≤12∧gk=12-k∧i=cS dA k∧wr.ownsRow w.heap.size 123 4 v (13+k) (Cp.cellsTo (13+k))∧
  wr.heap[w.heap.size+1]? =some (cY Cp.names 9 (0,0))∧dG w wr)
 (case atStart=>exact⟨0,by omega,rfl,rfl,hI,hN,hB⟩)
 case round=>
  clear hI hN hB;obtain⟨k,hk,hg,rfl,dU,hN,hB⟩:=hrel;have HG:=Ih hg;clear hg;by_cases dH:k<12
  ·have hc:wr.cell? ⟨w.heap.size+1,k,none⟩=some (cU (Cp.nameK k)):=(cell_of_row wr _ k _ _ _ hN).trans (Cp.names_at k dH);have HN:=Ih hN;clear hN
   go_wp2_with (first
    |(at_builtin;refine wpList_append_own _ rfl _ _ 190 rfl w.heap.size 123 i0 _ 4 48 Tryz.underlying190 hi0 hz0 hz1 M0 rfl De _ _ _ rfl (dU.alloc _) ⟨wr.heap.size,0,none⟩ 1 1 [.int .i64 (4+(k:Int)),.string (Cp.nameK k),.string ⟨#[65,66,67]⟩,.bool false] rfl rfl ?c1 ?c2 ?c3 ?c4 ?c5 ?_))
   (case c1=>exact XC _ _ _ _ _);(case c2=>intro u hu;simp only[bF,aZ,or_false]at hu;rcases hu with rfl|rfl|rfl|rfl<;>rfl);(case c3=>unfold maxLen;omega);(case c4=>omega);(case c5=>simp;exact Nat.le_succ_of_le hB.size);intro v' w1 Xv oF _;have fM:=kA dU HN De;(have hN':w1.heap[w.heap.size+1]? =some (cY Cp.names 9 (0,0)):=by have hl:=dB HN;rw[oF.block _ Sv fM,Below.heap_alloc _ _ _ hl];exact HN);have hB':dG w w1:=(hB.alloc hB.size _).grown oF (by simp;exact Nat.le_succ_of_le hB.size) (fun g hg=>(dU.lt g hg).1);(have Gl:w1.ownsRow w.heap.size 123 4 v' (13+(k+1)) (Cp.cellsTo (13+(k+1))):=by rw[show 13+(k+1)=13+k+1 from rfl,Cp.cellsTo_succ (13+k) Om,Cp.row_at k dH];exact Xv);have HN':=Ih hN';clear dU Xv oF hN' fM hB HN hc;go_wp2_with fail;go_roundg (12-(k+1));(case measure=>have:=HG.out;omega);(case rel=>exact⟨k+1,dH,rfl,Gn,Gl,HN',hB'⟩)
  (·obtain rfl:k=12:=Om;have HB:=Ih hB;have HO:=Ih dU;clear hB dU hN;go_wp2_with fail;go_ret;exact⟨⟨_,rfl,HO⟩,HB⟩)
open Go.RowKit
theorem Yv (op:Int) (w:World):
 O U 44 #[cS dA op] w (RB w (.tuple #[Cp.rowV op,cV (Cp.find op).isSome])):=by
 obtain⟨rv,vh⟩:=Ex (Cp.rowV op);obtain⟨tv,Ti⟩:=Ex ((Cp.find op).isSome);rw[←vh,←Ti];have J7:=Ih vh;have HTV:=Ih Ti;clear vh Ti;go_in;go_wp2_with fail;refine(R0 _).mono ?_;rintro e w1 ⟨⟨v,rfl,dU⟩,hb⟩;have hR:w1.heap[w.heap.size]? =some (cY #[cS dA 0,cU ⟨#[]⟩,cU ⟨#[]⟩,cV false] 123 (0,0)):=(hb.block w.heap.size Si).trans (heap_alloc_new w _);have hB:dG w w1:=((aC _ _).alloc (aA _) _).trans (hb.mono Si);rcases dU.2 with⟨_,h⟩|⟨g,gN,mU,rfl,zY,_⟩;(·omega);have hx:∀j,j<100→w1.cell? ⟨g,j,none⟩=(Cp.cellsTo 25)[j]?:=fun j hj=>dU.cellAt j Om;(have hg:w.heap.size<g:=by simp at zY;omega);clear dU hb zY;have HX:=Ih hx;have HR:=Ih hR;have HB:=Ih hB;clear hx hR hB;go_wp2_with fail;go_loopg[5] 25 (fun gk i wr=>∃k:Nat,k≤25∧gk=25-k∧i=cS dA k∧wr=w1∧∀j,j<k→Cp.opAt j≠op);(case atStart=>exact⟨0,by omega,rfl,rfl,rfl,fun _ h=>absurd h Om⟩)
 case round=>
  obtain⟨k,hk,hgk,rfl,rfl,lE⟩:=hrel;have HG:=Ih hgk;have HN:=Ih lE;clear hgk lE;by_cases dH:k<25
  ·have JH:=(HX.out (k*4) Om).trans (Cp.cells_at k dH).1;by_cases he:Cp.opAt k=op
   ·have vN:=(HX.out (k*4+1) (by omega)).trans (Cp.cells_at k dH).2.1;have zI:=(HX.out (k*4+2) Om).trans (Cp.cells_at k dH).2.2.1;have SW:=(HX.out (k*4+3) Om).trans (Cp.cells_at k dH).2.2.2;obtain⟨q0,q1,q2,q3,qz⟩:=Fh HR.out;subst he;(have ht:(Cp.opAt k==Cp.opAt k)=true:=by simp);(obtain rfl:tv=true:=by rw[HTV.out,Cp.find_opAt k dH];rfl);have vh:=J7.out;rw[Cp.rowV_opAt k dH]at vh;subst vh;go_wp2_with fail
    refine bodyPost_ret (v:=.tuple #[cX #[cS dA (Cp.opAt k),cU ⟨(Cp.rowOf (Cp.opAt k)).1.toArray⟩,cU ⟨(Cp.rowOf (Cp.opAt k)).2.1.toArray⟩,cV (Cp.rowOf (Cp.opAt k)).2.2],cV true])
     (by simp[results,Tryz.results44,go_sem,q0,q1,q2,q3]) rfl ⟨rfl,?_⟩
    have hB:=HB.out;clear q0 q1 q2 q3 qz JH vN zI SW;(repeat(first|(with_reducible assumption)|refine Below.setCell ?_ (by simp<;>try omega) _))
   ·(have ht:(Cp.opAt k==op)=false:=by simp[he]);have HE:=Ih he;clear he;go_wp2_with fail;go_roundg (25-(k+1));(case measure=>have:=HG.out;omega)
    case rel=>exact⟨k+1,dH,rfl,Gn,rfl,fun j hj=>by
     by_cases e:j=k
     ·subst e;exact HE.out
     ·exact HN.out j Om⟩
  ·obtain rfl:k=25:=Om;have hf:Cp.find op=none:=Cp.find_none_of op HN.out;(obtain rfl:tv=false:=by rw[HTV.out,hf];rfl);(obtain rfl:rv=cX #[cS dA 0,cU ⟨#[]⟩,cU ⟨#[]⟩,cV false]:=by rw[J7.out];unfold Cp.rowV;rw[hf]);clear hf;obtain⟨q0,q1,q2,q3,qz⟩:=Fh HR.out;go_wp2_with fail
   refine bodyPost_ret (v:=.tuple #[cX #[cS dA 0,cU ⟨#[]⟩,cU ⟨#[]⟩,cV false],cV false])
    (by simp[results,Tryz.results44,go_sem,q0,q1,q2,q3]) rfl ⟨rfl,?_⟩
   have hB:=HB.out;clear q0 q1 q2 q3 qz;(repeat(first|(with_reducible assumption)|refine Below.setCell ?_ (by simp<;>try omega) _))
open Go.RowKit
theorem LG (s:ByteArray) (c:Int) (t:Bool) (w:World) (hs:s.size≤9223372036854775807) (h0:0≤c) (h1:c<256) (ht:s.data.toList.contains c.toNat.toUInt8=t):
 O U 45 #[cU s,cS .u8 c] w fun e w'=>e=cZ (cV t)∧w=w':=by
 have HT:=Ih ht;clear ht;go_in;go_wp2_with fail;go_loopg[5] s.size (fun gk i wr=>∃k:Nat,k≤s.size∧gk=s.size-k∧i=cS dA k∧w=wr∧∀j,j<k→s.data.toList[j]?≠some c.toNat.toUInt8);(case atStart=>exact⟨0,by omega,rfl,rfl,rfl,fun _ h=>absurd h Om⟩)
 case round=>
  obtain⟨k,hk,hgk,rfl,rfl,lE⟩:=hrel;have HG:=Ih hgk;have HN:=Ih lE;clear hgk lE;by_cases dH:k<s.size
  ·(have hb:(s[k].toNat:Int)<256:=by have:=s[k].toNat_lt;omega);(have hg:s.data.toList[k]? =some s[k]:=by rw[aB (by simpa using dH)];rfl);have nX:=Ih hg;clear hg;by_cases he:(s[k].toNat:Int)=c;(·(have JM:((s[k].toNat:Int)==c)=true:=by simp[he]);(obtain rfl:t=true:=by rw[←HT.out,List.contains_iff_mem];refine List.mem_of_getElem? (i:=k) ?_;rw[nX.out,←he];simp);clear he;go_wp2_with fail;go_ret;exact⟨rfl,rfl⟩)
   ·(have JM:((s[k].toNat:Int)==c)=false:=by simp[he]);have HE:=Ih he;clear he;go_wp2_with fail;go_roundg (s.size-(k+1));(case measure=>have:=HG.out;omega)
    case rel=>exact⟨k+1,dH,rfl,Gn,rfl,fun j hj=>by
     by_cases e:j=k
     ·subst e
      rw[nX.out]
      intro hx
      apply HE
      have:=congrArg (fun o=>o.map UInt8.toNat) hx
      simp at this
      omega
     ·exact HN j Om⟩
  (·(obtain rfl:t=false:=by rw[←HT.out,Bool.eq_false_iff];intro hc;rw[List.contains_iff_mem]at hc;obtain⟨j,hj⟩:=List.getElem?_of_mem hc;refine HN j ?_ hj;have:=(List.getElem?_eq_some_iff.1 hj).1;simp at this;omega);go_wp2_with fail;go_ret;exact⟨rfl,rfl⟩)
theorem Yk (f:ByteArray) (x:Int) (t:Bool) (hs:f.size≤9223372036854775807) (h0:0≤x) (h1:x<256) (ht:f.data.toList.contains x.toNat.toUInt8=t) (w:World):
 O U 45 #[cU f,cS .u8 x] w fun e w'=>e=cZ (cV t)∧w=w':=LG f x t w hs h0 h1 ht
theorem LO (op x n:Int) (nm f:ByteArray) (s:Bool) (w:World) (hs:f.size≤9223372036854775807) (h0:0≤x) (h1:x<256) (ht:f.data.toList.contains x.toNat.toUInt8=false):
 O U 95 #[cX #[cS dA op,cU nm,cU f,cV s],cS .u8 x,cS dA n] w (RB w (cV (decide (n=0)))):=by have HC:=Ih (Yk f x false hs h0 h1 ht);clear ht;go_in;have Z2u:=0;exact V53
theorem CD (op x n:Int) (nm f:ByteArray) (s:Bool) (w:World) (hs:f.size≤9223372036854775807) (h0:0≤x) (h1:x<256) (ht:f.data.toList.contains x.toNat.toUInt8=true) (hx:x≠73):
 O U 95 #[cX #[cS dA op,cU nm,cU f,cV s],cS .u8 x,cS dA n] w (RB w (cV (decide (0≤n∧n≤15)))):=by have HC:=Ih (Yk f x true hs h0 h1 ht);clear ht;(have vN:(x !=73)=true:=by simp[hx]);clear hx;go_in;by_cases g1:0≤n;(·by_cases g2:n≤15;(·have Z2v:=0;exact V53);(·exact V34));(·exact V34)
theorem CC (op x n:Int) (nm f:ByteArray) (w:World) (hs:f.size≤9223372036854775807) (h0:0≤x) (h1:x<256) (ht:f.data.toList.contains x.toNat.toUInt8=true) (hx:x=73):
 O U 95 #[cX #[cS dA op,cU nm,cU f,cV true],cS .u8 x,cS dA n] w (RB w (cV (decide (-32768≤n∧n≤32767)))):=by have HC:=Ih (Yk f x true hs h0 h1 ht);clear ht;(have vN:(x !=73)=false:=by simp[hx]);clear hx;go_in;by_cases g1:-32768≤n;(·by_cases g2:n≤32767;(·have Z2v:=0;exact V53);(·exact V34));(·exact V34)
theorem CE (op x n:Int) (nm f:ByteArray) (w:World) (hs:f.size≤9223372036854775807) (h0:0≤x) (h1:x<256) (ht:f.data.toList.contains x.toNat.toUInt8=true) (hx:x=73):
 O U 95 #[cX #[cS dA op,cU nm,cU f,cV false],cS .u8 x,cS dA n] w (RB w (cV (decide (0≤n∧n≤65535)))):=by have HC:=Ih (Yk f x true hs h0 h1 ht);clear ht;(have vN:(x !=73)=false:=by simp[hx]);clear hx;go_in;by_cases g1:0≤n;(·by_cases g2:n≤65535;(·have Z2v:=0;exact V53);(·exact V34));(·exact V34)
theorem CF (op x n:Int) (nm f:ByteArray) (s:Bool) (w:World) (hs:f.size≤9223372036854775807) (h0:0≤x) (h1:x<256):
 O U 95 #[cX #[cS dA op,cU nm,cU f,cV s],cS .u8 x,cS dA n] w fun e w'=>
  e=cZ (cV (Cp.okV f.data.toList (Cp.loOf s) (Cp.hiOf s) x n))∧dG w w':=by
 unfold Cp.okV
 cases hc:f.data.toList.contains x.toNat.toUInt8 with
  |false=>simpa using LO op x n nm f s w hs h0 h1 hc
  |true=>
   by_cases hx:x=73
   ·cases s with
    |true=>simpa[hx,Cp.loOf,Cp.hiOf]using CC op x n nm f w hs h0 h1 hc hx
    |false=>simpa[hx,Cp.loOf,Cp.hiOf]using CE op x n nm f w hs h0 h1 hc hx
   ·simpa[hx]using CD op x n nm f s w hs h0 h1 hc hx
def ChkAt (B J:Nat) (cI cR:Array Value) (W wr:World):Prop:=
 wr.heap[B]? =some (cY cI 76 (0,0))∧wr.heap[J]? =some (cY cR 123 (0,0))∧Below B W wr
theorem ChkAt.step {J:Nat} {cI cR:Array Value} (h:ChkAt B J cI cR W wr) (hb:dG wr w'):ChkAt B J cI cR W w':=
 ⟨(hb.block B (dB h.1)).trans h.1,(hb.block J (dB h.2.1)).trans h.2.1,h.2.2.trans (hb.mono (by have:=dB h.1;omega))⟩
theorem qy (op a b c i:Int) (w:World)
 (ho:∀w,O U 44 #[cS dA op] w (RB w (.tuple #[cX #[cS dA 0,cU ⟨#[]⟩,cU ⟨#[]⟩,cV false],cV false]))):
 O U 46 #[cX #[cS dA op,cS dA a,cS dA b,cS dA c,cS dA i]] w (RB w (cS dA 2)):=by have HO:=Ih ho;clear ho;go_in;go_wp2_with fail;refine(HO _).mono ?_;rintro e w1 ⟨rfl,hb⟩;have hB:dG w w1:=((aC _ _).alloc (aA _) _).trans (hb.mono Si);clear hb;go_wp2_with fail;go_ret;exact⟨rfl,hB.alloc hB.size _⟩
theorem rh (op a b c i:Int) (nm F:ByteArray) (s:Bool) (w:World)
 (ho:∀w,O U 44 #[cS dA op] w (RB w (.tuple #[cX #[cS dA op,cU nm,cU F,cV s],cV true])))
 (h0:∀w,O U 95 #[cX #[cS dA op,cU nm,cU F,cV s],cS .u8 65,cS dA a] w (RB w (cV false))):
 O U 46 #[cX #[cS dA op,cS dA a,cS dA b,cS dA c,cS dA i]] w (RB w (cS dA 6)):=by have HO:=Ih ho;clear ho;have H0:=Ih h0;clear h0;have Z12:=0;exact V9
theorem rf (op a b c i:Int) (nm F:ByteArray) (s:Bool) (w:World)
 (ho:∀w,O U 44 #[cS dA op] w (RB w (.tuple #[cX #[cS dA op,cU nm,cU F,cV s],cV true])))
 (h0:∀w,O U 95 #[cX #[cS dA op,cU nm,cU F,cV s],cS .u8 65,cS dA a] w (RB w (cV true)))
 (h1:∀w,O U 95 #[cX #[cS dA op,cU nm,cU F,cV s],cS .u8 66,cS dA b] w (RB w (cV false))):
 O U 46 #[cX #[cS dA op,cS dA a,cS dA b,cS dA c,cS dA i]] w (RB w (cS dA 6)):=by have HO:=Ih ho;clear ho;have H0:=Ih h0;clear h0;have H1:=Ih h1;clear h1;have Z13:=0;exact V9
theorem re (op a b c i:Int) (nm F:ByteArray) (s:Bool) (w:World)
 (ho:∀w,O U 44 #[cS dA op] w (RB w (.tuple #[cX #[cS dA op,cU nm,cU F,cV s],cV true])))
 (h0:∀w,O U 95 #[cX #[cS dA op,cU nm,cU F,cV s],cS .u8 65,cS dA a] w (RB w (cV true)))
 (h1:∀w,O U 95 #[cX #[cS dA op,cU nm,cU F,cV s],cS .u8 66,cS dA b] w (RB w (cV true)))
 (h2:∀w,O U 95 #[cX #[cS dA op,cU nm,cU F,cV s],cS .u8 67,cS dA c] w (RB w (cV false))):
 O U 46 #[cX #[cS dA op,cS dA a,cS dA b,cS dA c,cS dA i]] w (RB w (cS dA 6)):=by have HO:=Ih ho;clear ho;have H0:=Ih h0;clear h0;have H1:=Ih h1;clear h1;have H2:=Ih h2;clear h2;have Z14:=0;exact V9
theorem rd (op a b c i:Int) (nm F:ByteArray) (s:Bool) (w:World)
 (ho:∀w,O U 44 #[cS dA op] w (RB w (.tuple #[cX #[cS dA op,cU nm,cU F,cV s],cV true])))
 (h0:∀w,O U 95 #[cX #[cS dA op,cU nm,cU F,cV s],cS .u8 65,cS dA a] w (RB w (cV true)))
 (h1:∀w,O U 95 #[cX #[cS dA op,cU nm,cU F,cV s],cS .u8 66,cS dA b] w (RB w (cV true)))
 (h2:∀w,O U 95 #[cX #[cS dA op,cU nm,cU F,cV s],cS .u8 67,cS dA c] w (RB w (cV true)))
 (h3:∀w,O U 95 #[cX #[cS dA op,cU nm,cU F,cV s],cS .u8 73,cS dA i] w (RB w (cV false))):
 O U 46 #[cX #[cS dA op,cS dA a,cS dA b,cS dA c,cS dA i]] w (RB w (cS dA 6)):=by exact V342
theorem rc (op a b c i:Int) (nm F:ByteArray) (s:Bool) (w:World)
 (ho:∀w,O U 44 #[cS dA op] w (RB w (.tuple #[cX #[cS dA op,cU nm,cU F,cV s],cV true])))
 (h0:∀w,O U 95 #[cX #[cS dA op,cU nm,cU F,cV s],cS .u8 65,cS dA a] w (RB w (cV true)))
 (h1:∀w,O U 95 #[cX #[cS dA op,cU nm,cU F,cV s],cS .u8 66,cS dA b] w (RB w (cV true)))
 (h2:∀w,O U 95 #[cX #[cS dA op,cU nm,cU F,cV s],cS .u8 67,cS dA c] w (RB w (cV true)))
 (h3:∀w,O U 95 #[cX #[cS dA op,cU nm,cU F,cV s],cS .u8 73,cS dA i] w (RB w (cV true))):
 O U 46 #[cX #[cS dA op,cS dA a,cS dA b,cS dA c,cS dA i]] w (RB w (cS dA 0)):=by exact V342
theorem I1 (op a b c i:Int) (w:World):
 O U 46 #[cX #[cS dA op,cS dA a,cS dA b,cS dA c,cS dA i]] w (RB w (cS dA (Cp.mayE op a b c i))):=by
 have ho:=fun w=>Yv op w;unfold Cp.mayE;rcases hf:Cp.find op with _|⟨n,f,s⟩;(·(have hv:Cp.rowV op=cX #[cS dA 0,cU ⟨#[]⟩,cU ⟨#[]⟩,cV false]:=by unfold Cp.rowV;rw[hf]);rw[hf,hv]at ho;exact qy op a b c i w ho)
 ·(have hv:Cp.rowV op=cX #[cS dA op,cU ⟨n.toArray⟩,cU ⟨f.toArray⟩,cV s]:=by unfold Cp.rowV;rw[hf]);rw[hf,hv]at ho;(have hs:(⟨f.toArray⟩:ByteArray).size≤9223372036854775807:=by have:=Cp.fields_short op;rw[hf]at this;simp only at this;show f.toArray.size≤_;rw[List.size_toArray];omega);have h:=fun(x m:Int) (h0:0≤x) (h1:x<256) w=>CF op x m ⟨n.toArray⟩ ⟨f.toArray⟩ s w hs h0 h1;simp only at h⊢;unfold Cp.okAll;have hA:=h 65 a Om Om;have hB:=h 66 b Om Om;have hC:=h 67 c Om Om;have hI:=h 73 i Om Om;clear h
  cases eA:Cp.okV f (Cp.loOf s) (Cp.hiOf s) 65 a with
   |false=>simp only[eA]at hA;simpa using rh op a b c i _ _ s w ho hA
   |true=>
    simp only[eA]at hA
    cases eB:Cp.okV f (Cp.loOf s) (Cp.hiOf s) 66 b with
    |false=>simp only[eB]at hB;simpa using rf op a b c i _ _ s w ho hA hB
    |true=>
     simp only[eB]at hB
     cases eC:Cp.okV f (Cp.loOf s) (Cp.hiOf s) 67 c with
     |false=>simp only[eC]at hC;simpa using re op a b c i _ _ s w ho hA hB hC
     |true=>
      simp only[eC]at hC
      cases eI:Cp.okV f (Cp.loOf s) (Cp.hiOf s) 73 i with
      |false=>simp only[eI]at hI;simpa using rd op a b c i _ _ s w ho hA hB hC hI
      |true=>simp only[eI]at hI;simpa using rc op a b c i _ _ s w ho hA hB hC hI
end
end Go.Proofs.YtfbmaffacikgbaaGreat
