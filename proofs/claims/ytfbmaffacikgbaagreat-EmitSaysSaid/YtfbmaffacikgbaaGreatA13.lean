/- A part of the proof of EmitSays. -/
import Derived.Test.YtfbmaffacikgbaaGreatA4
import Derived.Test.YtfbmaffacikgbaaGreatA7
import Derived.Test.YtfbmaffacikgbaaGreatA12
set_option maxRecDepth 100000
set_option maxHeartbeats 4000000
set_option linter.unusedVariables false
set_option linter.unusedSimpArgs false
open Go renaming Calls→O
open Go.Proofs.Tryz renaming prog→U
open Nat renaming le_refl→aA,lt_of_lt_of_le→aF,le_trans→aG,zero_le→aJ
open List renaming getElem?_eq_getElem→aB,length_append→aD,getElem_mem→aE,length_map→aI,mem_singleton→aK,take_succ_eq_append_getElem→aL,length_cons→aM,getD_eq_getElem?_getD→aN,length_take→aO,mem_cons_of_mem→aP,getElem_of_mem→aQ,map_append→aS,length_nil→aT,mem_cons_self→aU,take_of_length_le→aY,not_mem_nil→aZ,map_cons→bC,getElem?_append_right→bD,mem_cons→bF,getElem?_map→bH,append_assoc→bP,set_cons_succ→bS,setIfInBounds_toArray→bX,mem_singleton_self→bY,set_cons_zero→bZ,replicate→cC,flatMap_cons→cL,map_nil→cM,length_set→cQ
open Go.RowKit.Below renaming refl→aC,heap_setCell→bV
open Go.World renaming alloc_heap_new→aH,ownsRow_nil→bE,frozen?→bN,cell?_of_block→bT,setCell→cN
open Go.Lib renaming alloc_old→aR
open Go.Value renaming slice→aW,int→bL,string→cE,ownBlock→cO
open Go.IntWalk renaming i64_in→aX
open Go.Proofs.Tryz renaming underlying3→bG,underlying4→bQ,underlying9→bW
open And renaming intro→bM
open Go.Value renaming int→cS
open Go.Value renaming slice→cT
open Go.Value renaming string→cU
open Go.Value renaming bool→cV
open Go.Value renaming pointer→cW
open Go.Value renaming agg→cX
open Go.Obj renaming cells→cY
open Go.Ending renaming returned→cZ
open Go.IntKind renaming i64→dA
namespace Go.Proofs.YtfbmaffacikgbaaGreat
variable {w W w' w1 wr w2 wx:World} {B r k ns i base size d bm n' k' co bg b:Nat} {v va vj v1 v0 v2 v3 v6 vc vr v7 vp vl v':Value} {e:TypeId} {chg:List TypeId} {xs vs:List Value} {l:List Int} {a:Act} {P:Program} {p pc pr ps:Option Addr} {bs:List Nat} {L:List (List Int)} {cs:Array Value} {s:ByteArray} {mx x:Int}
section
open Go.RowKit Go.Shelf Ob Ty
theorem Sy (l:List Lc):(fC l).length=l.length*2:=by
 unfold fC
 induction l with
  |nil=>rfl
  |cons x l ih=>rw[cL,aD,ih];show 2+_=_;rw[aM];omega
theorem sV (l:List Lc) (i:Nat) (h:i<l.length):(fC l)[i*2]? =some (cV l[i].1)∧(fC l)[i*2+1]? =some (cS dA (l[i].2:Nat)):=by
 unfold fC
 induction l generalizing i with
  |nil=>simp at h
  |cons x l ih=>
   rw[cL]
   cases i with
   |zero=>exact⟨rfl,rfl⟩
   |succ i=>
    obtain⟨h1,h2⟩:=ih i (by simpa using h)
    rw[show(i+1)*2=2+i*2 by omega,show 2+i*2+1=2+(i*2+1)by omega]
    rw[bD (by show 2≤_;omega),bD (by show 2≤_;omega)]
    rw[show 2+i*2-(zG x).length=i*2 by show 2+i*2-2=_;omega,show 2+(i*2+1)-(zG x).length=i*2+1 by show 2+(i*2+1)-2=_;omega]
    exact⟨h1,h2⟩
theorem Sx (l:List Lc) (i:Nat) (h:i<l.length) (x:Lc):((fC l).set (i*2) (cV x.1)).set (i*2+1) (cS dA (x.2:Nat))=fC (l.set i x):=by
 unfold fC
 induction l generalizing i with
  |nil=>simp at h
  |cons y l ih=>
   rw[cL]
   cases i with
   |zero=>rfl
   |succ i=>
    have h1:=ih i (by simpa using h)
    rw[bS,cL,←h1]
    rw[show(i+1)*2=2+i*2 by omega,show 2+i*2+1=2+(i*2+1)by omega]
    show((zG y++_).set _ _).set _ _=_
    rw[List.set_append_right _ _ (by show 2≤_;omega),List.set_append_right _ _ (by show 2≤_;omega)]
    rw[show 2+i*2-(zG y).length=i*2 by show 2+i*2-2=_;omega,show 2+(i*2+1)-(zG y).length=i*2+1 by show 2+(i*2+1)-2=_;omega]
theorem B8 (n:Nat):(madeCells (Value.agg #[cV false,cS dA 0]).cells (n*2)).toList=fC (cC n (false,0)):=by apply List.ext_getElem?;intro j;by_cases hj:j<n*2;(·(have hl:j/2<(cC n ((false,0):Lc)).length:=by rw[List.length_replicate];omega);obtain⟨h1,h2⟩:=sV (cC n (false,0)) (j/2) hl;rw[List.getElem_replicate]at h1 h2;(have e:(madeCells (Value.agg #[cV false,cS dA 0]).cells (n*2)).toList[j]? =some ((Value.agg #[cV false,cS dA 0]).cells[j%2]!):=by unfold madeCells;simp[hj];rfl);rw[e];rcases(show j=j/2*2∨j=j/2*2+1 by omega)with h|h;(·rw[show j%2=0 by omega];(conv=>rhs;rw[h]);rw[h1];rfl);(·rw[show j%2=1 by omega];(conv=>rhs;rw[h]);rw[h2];rfl));(·rw[List.getElem?_eq_none (by rw[Array.length_toList,size_madeCells];omega),List.getElem?_eq_none (by rw[Sy,List.length_replicate];omega)])
section
variable {w wr w':World} {base bg n:Nat} {va vl:Value} {bs:List Nat} {L:List (List Int)}
theorem GrAt.fr (h:GrAt w base bg n va vl bs L) (f:EFr B chg w w') (h1:147∉chg) (h2:4∉chg) (h3:144∉chg):GrAt w' base bg n va vl bs L:=
 ⟨f.obj h.box h1,h.og,h.sets.fr f h3,h.long.imp fun l hl=>f.row hl h2⟩
theorem GrAt.only {l:List Nat} (h:GrAt w base bg n va vl bs L) (ho:Only l w w') (hc:lG w l) (hl:∀x∈bs,x∉l):GrAt w' base bg n va vl bs L:=
 ⟨ho.obj' hc h.box,h.og,h.sets.only ho hl fun x hx cs fz=>hc x hx cs _ fz,h.long.imp fun q hq=>ho.row' hc hq⟩
theorem GrAt.nomap (h:GrAt w base bg n va vl bs L) {m cnt:Nat} {done:List Int} (hr:RgAt w b r m l done cnt):r∉bs:=by exact V546
structure ColAt (w wr:World) (bg n:Nat) (bc:Array Value) (va vl vo:Value) (bs:List Nat) (L:List (List Int)) (os:List Lc):Prop where
 bel:dG w wr
 body:wr.heap[w.heap.size]? =some (cY bc 48 (0,0))
 gr:GrAt wr w.heap.size bg n va vl bs L
 out:wr.ownsRow w.heap.size 149 2 vo n (fC os)
variable {bc:Array Value} {vo:Value} {os:List Lc}
theorem ColAt.old (h:ColAt w wr bg n bc va vl vo bs L os) (hb:dG wr w'):ColAt w w' bg n bc va vl vo bs L os:=
 ⟨Tm h.bel hb,Kb hb h.body,h.gr.old hb,dR h.out fun g cs e=>hb.block g (dB e)⟩
theorem ColAt.only {l:List Nat} (h:ColAt w wr bg n bc va vl vo bs L os) (ho:Only l wr w') (hc:lG wr l) (hl:∀x∈l,w.heap.size≤x∧x∉bs):ColAt w w' bg n bc va vl vo bs L os:=
 ⟨h.bel.trans (ho.below (fun x hx=>(hl x hx).1) h.bel.size),ho.obj' hc h.body,h.gr.only ho hc (fun x hx hm=>(hl x hm).2 hx),ho.row' hc h.out⟩
theorem ColAt.set {go ko:Nat} (h:ColAt w wr bg n bc va vl (cT (some ⟨go,0,none⟩) n ko) bs L os) (i:Nat) (hi:i<os.length) (x:Lc):
 ColAt w ((wr.setCell ⟨go,i*2,none⟩ (cV x.1)).setCell ⟨go,i*2+1,none⟩ (cS dA (x.2:Nat))) bg n bc va vl (cT (some ⟨go,0,none⟩) n ko) bs L (os.set i x):=by
 obtain⟨h1,g1⟩:=h.out.stored (i*2) (cV x.1);obtain⟨h2,g2⟩:=h1.stored (i*2+1) (cS dA (x.2:Nat));rw[Sx os i hi x]at h2;(have f1:EFr w.heap.size [149] wr (wr.setCell ⟨go,i*2,none⟩ (cV x.1)):=EFr.grown g1 fun g e=>by injection e with e;subst e;obtain⟨h1,cs,fz,h2⟩:=lC h.out go rfl;exact⟨h1,cs,_,fz,h2,by simp⟩)
 have f2:=f1.trans (EFr.grown (B:=w.heap.size) (chg:=[149]) g2 fun g e=>by
  injection e with e
  subst e
  obtain⟨h1,cs,fz,h2⟩:=lC h1 go rfl
  exact⟨h1,cs,_,fz,h2,by simp⟩)
 exact⟨h.bel.trans (f2.below h.bel.size),f2.obj h.body De,h.gr.fr f2 De De De,h2⟩
end
def LY (n:Nat) (l:Lc):Prop:=(l.1=false→l.2<12)∧(l.1=true→l.2≤n)
structure ColTo (n:Nat) (L:List (List Int)) (os:List Lc) (i:Nat):Prop where
 ol:os.length=n
 ok:∀l∈os,LY n l
 ne:∀r q:Nat,r<i→q<r→(q:Int)∈L.getD r []→os[q]?≠os[r]?
def wY (os:List Lc) (x:Int):Lc:=os.getD x.toNat (false,0)
theorem GrAt.lower {Gw n:Nat} (h:GrAt w base bg n va vl bs L) (hb:Gw≤base):GrAt w Gw bg n va vl bs L:=
 ⟨h.box,aG hb h.og,⟨mB h.sets.row hb,h.sets.bl,h.sets.ll,h.sets.nb,fun i hi=>⟨aG hb (h.sets.sets i hi).1,(h.sets.sets i hi).2⟩,h.sets.rng⟩,h.long.imp fun l hl=>mB hl hb⟩
theorem Ek {os:List Lc} {x:Nat} (h:x<os.length):os[x]? =some (wY os x):=by unfold wY;rw[Int.toNat_natCast,aN,aB h];rfl
theorem ColTo.pair {n:Nat} {os:List Lc} (h:ColTo n L os n) {y:Int} (h1:y∈L.getD x.toNat []) (h2:x∈L.getD y.toNat []) (hx:Cb n x) (hy:Cb n y) (fM:x≠y):wY os x≠wY os y:=by obtain⟨a,rfl⟩:∃a:Nat,x=a:=⟨x.toNat,by have:=hx.1;omega⟩;obtain⟨c,rfl⟩:∃c:Nat,y=c:=⟨y.toNat,by have:=hy.1;omega⟩;rw[Int.toNat_natCast]at h1 h2;(have ha:a<n:=by have:=hx.2;omega);(have hc:c<n:=by have:=hy.2;omega);intro e;rcases Nat.lt_trichotomy a c with hl|hl|hl;(·exact h.ne c a hc hl h2 (by rw[Ek (x:=a) (by rw[h.ol];exact ha),Ek (x:=c) (by rw[h.ol];exact hc),e]));(·exact fM (by rw[hl]));(·exact h.ne a c ha hl h1 (by rw[Ek (x:=c) (by rw[h.ol];exact hc),Ek (x:=a) (by rw[h.ol];exact ha),e]))
theorem ColTo.snoc {n:Nat} {os:List Lc} {l:Lc} (h:ColTo n L os i) (hi:i<n) (hl:LY n l) (fM:∀q:Nat,q<i→(q:Int)∈L.getD i []→os[q]?≠some l):ColTo n L (os.set i l) (i+1):=by refine⟨by rw[cQ];exact h.ol,fun x hx=>?_,fun r q hr hq hm=>?_⟩;(·rcases List.mem_or_eq_of_mem_set hx with hx|rfl;(·exact h.ok x hx);(·exact hl));(·rw[List.getElem?_set_ne Om];by_cases e:r=i;(·subst e;rw[List.getElem?_set_self (by rw[h.ol];exact hi)];exact fM q hq hm);(·rw[List.getElem?_set_ne Om];exact h.ne r q Om hq hm))
theorem qq (b:oJ) (v:BV) (n:Nat) (mx:Int) (w:World) (hb:BodAt w b v) (hmx:Mx mx w) (pJ:nV b=true) (kC:b.regs=(n:Nat)) (hn:n≤200) (FI:0<v.nc) (jA:v.nc≤200)
 (sL:∀(i:Nat) (o:Ty.Ord),b.code[i]? =some o→∀k∈jD o i,0≤k∧k<b.code.length) (hs:∀(i:Nat) (o:Ty.Ord),b.code[i]? =some o→∀r∈o.s,Cb n r) (hd:∀(i:Nat) (o:Ty.Ord),b.code[i]? =some o→∀r∈o.d,Cb n r):
 O U 28 #[gG v b] w fun x w'=>∃vo os,x=cZ (.tuple #[vo,cS dA 0])∧w'.ownsRow w.heap.size 149 2 vo n (fC os)∧os.length=n∧(∀l∈os,LY n l)∧(∀x y,Live b.code 0 x→Live b.code 0 y→x≠y→wY os x≠wY os y)∧
  (∀(i:Nat) (o:Ty.Ord),b.code[i]? =some o→∀x∈o.d,∀y∈o.d,x≠y→wY os x≠wY os y)∧dG w w':=by
 have Rt:Hid (∀w',dG w w'→O U 57 #[gG v b] w' fun x gL=>∃bg va vl bs L,x=cZ (cW (some ⟨bg,0,none⟩))∧GrAt gL w'.heap.size bg n va vl bs L∧(∀x y,Live b.code 0 x→Live b.code 0 y→x≠y→y∈L.getD x.toNat [])∧
  (∀(i:Nat) (o:Ty.Ord),b.code[i]? =some o→∀x∈o.d,∀y∈o.d,x≠y→y∈L.getD x.toNat [])∧dG w' gL):=Ih fun w' h=>I4 b v n w' (hb.below h) kC hn FI jA sL hs hd
 (have GE:Hid (∀w',dG w w'→O U 50 #[gG v b] w' (RB w' (cV true))):=Ih fun w' h=>by rw[←pJ];exact Be b v mx w' (hb.below h) (hmx.below h));unfold gG at Rt GE⊢;rw[kC]at Rt GE⊢;obtain⟨code,vQ⟩:=Ex b.code;rw[←vQ]at Rt⊢;obtain⟨nm,fG⟩:=Ex b.name;obtain⟨XF,hbst⟩:=Ex b.static;obtain⟨bk,xF⟩:=Ex b.ty.kind;obtain⟨XG,hbnm⟩:=Ex b.ty.name;obtain⟨bm,oL⟩:=Ex b.ty.many;obtain⟨bt,Fd⟩:=Ex v.tv;obtain⟨nc,wJ⟩:=Ex v.nc;obtain⟨kc,oU⟩:=Ex v.kc;obtain⟨pc,gP⟩:=Ex v.pc;rw[←fG,←hbst,←xF,←hbnm,←oL,←Fd,←wJ,←oU,←gP]at Rt GE⊢;have ny:dG w (w.alloc (cY #[cU nm,cV XF,cS dA bk,cU XG,cT bt.pn bt.nn bt.kn,cT bt.pp bt.np bt.kp,cV bm,cS dA (n:Nat),cT pc nc kc] 48)):=(aC _ _).alloc (aA _) _;have nz:(w.alloc (cY #[cU nm,cV XF,cS dA bk,cU XG,cT bt.pn bt.nn bt.kn,cT bt.pp bt.np bt.kp,cV bm,cS dA (n:Nat),cT pc nc kc] 48)).heap[w.heap.size]? =some (cY #[cU nm,cV XF,cS dA bk,cU XG,cT bt.pn bt.nn bt.kn,cT bt.pp bt.np bt.kp,cV bm,cS dA (n:Nat),cT pc nc kc] 48 (0,0)):=aH w _;obtain⟨W,hW⟩:=Ex (w.alloc (cY #[cU nm,cV XF,cS dA bk,cU XG,cT bt.pn bt.nn bt.kn,cT bt.pp bt.np bt.kp,cV bm,cS dA (n:Nat),cT pc nc kc] 48));rw[←hW]at ny nz;have mG:=Ih ny;have wU:=Ih nz;have QL:=Ih hW;clear hb hmx pJ kC FI jA sL hs hd vQ fG hbst xF hbnm oL Fd wJ oU gP ny nz hW;go_in;go_upto_region 1 with fail;rw[←QL.out];have z0:=jV wU;go_wp2_with fail;refine(GE _ mG).mono ?_;rintro y w2 ⟨rfl,eL⟩;have mW:=Ih (Tm mG eL);have gC:=Ih (Kb eL wU);clear z0 eL GE QL wU mG;have z0:=jV gC;go_wp2_with fail;refine(Rt _ mW).mono ?_;rintro y w3 ⟨bg,va,vl,bs,L,rfl,nI,uC,hdd,hZ⟩;have mF:=Ih (Tm mW hZ);have kU:=Ih (Kb hZ gC);obtain⟨pa,ka,rfl,VC,KC⟩:=dI nI.sets.row;have HGR:=Ih (nI.lower mW.size);have yp:=Ih uC;have HDD:=Ih hdd;clear z0 hZ Rt gC mW nI uC hdd;have z0:=jV kU;go_wp2_with (at_make;go_loud (refine Ka QA _ _ Rf Rf w.heap.size n Rf Rf Om mF.size ?_);intro w4 z hz hown4 hgr4);obtain rfl:z=cX #[cV false,cS dA 0]:=uS hz Kr;rw[B8]at hown4
 have ZN:Hid (ColAt w w4 bg n #[cU nm,cV XF,cS dA bk,cU XG,cT bt.pn bt.nn bt.kn,cT bt.pp bt.np bt.kp,cV bm,cS dA (n:Nat),cT pc nc kc] (cT pa n ka) vl (cT (some ⟨w3.heap.size,0,none⟩) n n) bs L (cC n (false,0))):=Ih (by
  have hb:dG w3 w4:=⟨hgr4.os,hgr4.tape,hgr4.output,hgr4.size,fun k hk=>hgr4.block k hk Si⟩
  exact⟨Tm mF hb,Kb hb kU,HGR.old hb,hown4⟩)
 obtain⟨go,hgo⟩:=Ex w3.heap.size;rw[←hgo]at ZN⊢;have Qk:=@run_makeMap U;unfold maxLen at KC;clear z0 hz hown4 hgr4 hgo HGR kU mF;go_wp2_with fail;go_loopg[19] n (fun gk v19 wx=>∃(i:Nat) (os:List Lc),i≤n∧gk=n-i∧v19=cS dA i∧ColAt w wx bg n #[cU nm,cV XF,cS dA bk,cU XG,cT bt.pn bt.nn bt.kn,cT bt.pp bt.np bt.kp,cV bm,cS dA (n:Nat),cT pc nc kc] (cT pa n ka) vl (cT (some ⟨go,0,none⟩) n n) bs L os∧ColTo n L os i);(case atStart=>exact⟨0,_,aJ _,rfl,rfl,ZN,⟨List.length_replicate,fun l hl=>by rw[List.eq_of_mem_replicate hl];exact⟨fun _=>by decide,fun h=>by cases h⟩,fun r q hr=>absurd hr (Nat.not_lt_zero _)⟩⟩)
 case round=>
  obtain⟨i,os,hi,hgk,rfl,BK,TH⟩:=hrel;have HG:=Ih hgk;have HC:=Ih BK;have dj:=Ih TH;clear hgk BK TH ZN;by_cases dH:i<n
  ·have hU:=HC.gr.sets.bl;have eZ:i<bs.length:=Om;obtain⟨ga,ca,BG,-,-,-,hgal,Qr⟩:=eN HC.gr.sets.row Om;injection BG with BG _ KQ;subst BG KQ;have Dv:=Qr i _ (by rw[bH,aB eZ];rfl);unfold Cu at Dv;have Bv:=(HC.gr.sets.sets i eZ).2;obtain⟨bi,hbi⟩:=Ex (bs[i]);have bw:Hid (bi∈bs):=Ih (by rw[hbi];exact aE eZ);obtain⟨li,hli⟩:=Ex (L.getD i []);rw[←hbi]at Dv Bv;rw[←hli]at Bv;have HRL:Hid (∀r∈li,Cb n r):=Ih (by rw[hli];exact HC.gr.sets.rng i);have HLI:=Ih hli;have qA:(i:Int)<n:=Om;have zV:(n:Int)≤ka:=Om;have g0:=qV HC.gr.box;have KN:=dB HC.gr.box;obtain⟨FSq,LC⟩:=Ex wr.heap.size;have WC:dG wr (wr.alloc (.map #[] 0)):=(aC _ _).alloc (aA _) _;have K5:=Ih (gT Bv (WC.block _ (dS Bv).1));have nA:=Ih (HC.old WC);have YS:Hid (mM (wr.alloc (.map #[] 0)) FSq 0 []):=Ih (by rw[LC];exact Py wr);(have hbml:w.heap.size≤FSq:=by rw[LC];exact HC.bel.size);(have E8:FSq∉bs:=fun hm=>by obtain⟨j,hj,e⟩:=aQ hm;have:=(dS (HC.gr.sets.sets j hj).2).1;omega);clear hU eZ Qr hbi hli Bv dH WC;go_wp2_with (at_range;go_loud (refine Ej K5 _ Rf Rf Rf ?_);intro w5 cnt mD Tr hs5);have WD:Below (wr.alloc (.map #[] 0)).heap.size (wr.alloc (.map #[] 0)) w5:=⟨Tr.os,Tr.tape,Tr.output,Tr.size,fun k hk=>Tr.block k hk Si⟩;have QS:=Ih mD;have ZM:=Ih (nA.old WD);have HLS5:=Ih (rG YS (WD.block _ (jL YS).1));(have gO:(wr.alloc (.map #[] 0)).heap.size=wr.heap.size+1:=by simp);rw[gO]at QS;obtain⟨r0,mZ⟩:=Ex (wr.heap.size+1);have TP:w.heap.size≤r0:=Om;(have hrm:r0≠FSq:=fun e=>by omega);rw[←mZ]at QS;rw[←mZ,←LC];clear gO mD Tr hs5 WD mZ LC K5 nA YS g0 Dv;go_loopg[] cnt (fun gk wx=>∃(done:List Int) (ls:List Lc) (m:Nat),RgAt wx bi r0 n li done gk∧ColAt w wx bg n #[cU nm,cV XF,cS dA bk,cU XG,cT bt.pn bt.nn bt.kn,cT bt.pp bt.np bt.kp,cV bm,cS dA (n:Nat),cT pc nc kc] (cT (some ⟨ga,0,none⟩) n ka) vl (cT (some ⟨go,0,none⟩) n n) bs L os∧mM wx FSq m ls∧done.Nodup∧(∀x∈done,Cb n x)∧m≤done.length∧ls.length≤done.length∧(∀x∈ls,zZ x)∧∀q:Nat,(q:Int)∈done→q<i→wY os q∈ls);(case atStart=>exact⟨[],[],0,QS,ZM,HLS5,List.nodup_nil,fun x h=>(by cases h),aA _,aA _,fun x h=>(by cases h),fun q h=>(by cases h)⟩)
   case round=>
    obtain⟨done,ls,m,mD,BK,zJ,gZ,KR,hm,M6,hlin,xD⟩:=hrel;have HR:=Ih mD;have HC:=Ih BK;have aq:=Ih zJ;have aa:=Ih gZ;have P4:=Ih KR;have YT:=Ih hlin;have Fm:=Ih xD;have Qq:done.length≤n:=nodup_range gZ KR;clear mD BK zJ gZ KR hlin xD;go_wp2_with (at_next;refine Ps HR _ Rf Rf Rf ?_ ?_)
    ·intro eT;have fP:=Ih eT;have HPK:=Ih (S8 w.heap.size bg n (cT (some ⟨ga,0,none⟩) n ka) vl bs L i FSq m ls wr HC.gr Om aq YT Om);clear eT;go_wp2_with fail;refine HPK.mono ?_;rintro y w7 ⟨l,rfl,dc,Qt⟩;have ZL:=Ih (HC.old Qt);(have hoil:i<os.length:=by rw[dj.out.ol];omega);have HC8:=Ih (ZL.set i hoil l)
     have HTO8:Hid (ColTo n L (os.set i l) (i+1)):=Ih (dj.snoc Om ⟨dc.2.1,fun h=>aG (dc.2.2 h) Om⟩ fun q hq hm e=>dc.1 (by
      have h1:=Fm q (fP _ (by rw[HLI.out];exact hm)) hq
      rw[Ek Om]at e
      injection e with e
      rwa[e]at h1))
     obtain⟨go',FQ,mo,-,-,-,hgol,vQ⟩:=eN ZL.out.out (by omega);injection mo with mo _ VO;injection mo with mo;injection mo with mo;subst mo;obtain⟨ZZ,ZY⟩:=sV os i hoil;have sY:=vQ _ _ ZZ;have sM:=vQ _ _ ZY;have vz:=ZL.out.out.frozenAt (i*2);have hfz2:=ZL.out.out.frozenAt (i*2+1);obtain⟨ls0,ls1⟩:=l;unfold sF;simp only at HC8⊢;clear dc Qt HPK vQ ZZ ZY VO;go_wp2_with fail;go_roundg (n-(i+1));(case measure=>have:=HG.out;omega);(case rel=>exact⟨i+1,_,by omega,rfl,Gn,HC8,HTO8⟩)
    (·intro x c6 w6 H4 hx Y6 Xs Xy PK hs6 hen6;have C7:=HRL x hx;have Zg9:=0;exact V404)
  (·obtain rfl:n=i:=Om;clear dH Qk;go_wp2_with fail;go_ret2;have Tn:∀x y:Int,y∈L.getD x.toNat []→x∈L.getD y.toNat []→x≠y→wY os x≠wY os y:=fun x y h1 h2 fM=>dj.pair h1 h2 (HC.gr.sets.rng _ _ h2) (HC.gr.sets.rng _ _ h1) fM;exact⟨_,os,rfl,HC.out.out,dj.out.ol,dj.out.ok,fun x y hx hy fM=>Tn x y (yp.out x y hx hy fM) (yp.out y x hy hx (Ne.symm fM)) fM,fun i o ho x hx y hy fM=>Tn x y (HDD.out i o ho x hx y hy fM) (HDD.out i o ho y hy x hx (Ne.symm fM)) fM,HC.out.bel⟩)
abbrev Mv:=Lc×Lc
def fB (m:Mv):List Value:=[cV m.1.1,cS dA (m.1.2:Nat),cV m.2.1,cS dA (m.2.2:Nat)]
def dK (l:List Mv):List Value:=l.flatMap fB
def IsPl (l:Lc):Prop:=(l.1=true→l.2≤999)∧(l.1=false→l.2≤15)
theorem IsPl.lc {l:Lc} (h:IsPl l):zZ l:=by obtain⟨s,n⟩:=l;unfold zZ;cases s;(·have:=h.2 rfl;simp only at this⊢;omega);(·have:=h.1 rfl;simp only at this⊢;omega)
def MvsAt (w:World) (p:Option Addr) (l:List Mv):Prop:=l.length=0∨∃c co,p=some ⟨c,co,none⟩∧c<w.heap.size∧∀j (h:j<l.length),w.cell? ⟨c,co+j*4,none⟩=some (cV l[j].1.1)∧w.cell? ⟨c,co+j*4+1,none⟩=some (cS dA (l[j].1.2:Nat))∧w.cell? ⟨c,co+j*4+2,none⟩=some (cV l[j].2.1)∧w.cell? ⟨c,co+j*4+3,none⟩=some (cS dA (l[j].2.2:Nat))
theorem MvsAt.below {l:List Mv} (h:MvsAt w p l) (hb:dG w w'):MvsAt w' p l:=by rcases h with h|⟨c,co,rfl,hc,hr⟩;(·exact .inl h);(·refine .inr ⟨c,co,rfl,aF hc hb.size,fun j hj=>?_⟩;obtain⟨h1,h2,h3,h4⟩:=hr j hj;exact⟨(hb.cell (p:=⟨c,co+j*4,none⟩) hc).trans h1,(hb.cell (p:=⟨c,co+j*4+1,none⟩) hc).trans h2,(hb.cell (p:=⟨c,co+j*4+2,none⟩) hc).trans h3,(hb.cell (p:=⟨c,co+j*4+3,none⟩) hc).trans h4⟩)
theorem Lx {t:TypeId} (h:w.heap[b]? =some (cY #[v0,v1,v2,v3] t (0,0))):w.cell? ⟨b,0,none⟩=some v0∧w.cell? ⟨b,1,none⟩=some v1∧w.cell? ⟨b,2,none⟩=some v2∧w.cell? ⟨b,3,none⟩=some v3∧∀o,w.frozen? ⟨b,o,none⟩=false:=
 ⟨cell_of_row w b 0 _ _ _ h,cell_of_row w b 1 _ _ _ h,cell_of_row w b 2 _ _ _ h,cell_of_row w b 3 _ _ _ h,fun o=>by simp[bN,h]⟩
theorem Y0 (l:Lc) (h:IsPl l) (w:World):O U 138 #[sF l] w (RB w (cV true)):=by obtain⟨s,n⟩:=l;obtain⟨h1,h2⟩:=h;simp only at h1 h2;unfold sF;have h0:decide ((0:Int)≤(n:Int))=true:=decide_eq_true Om;cases s;(·have h3:=h2 rfl;have h4:decide ((n:Int)≤15)=true:=decide_eq_true Om;clear h1 h2;exact V49);(·have h3:=h1 rfl;have h4:decide ((n:Int)≤999)=true:=decide_eq_true Om;clear h1 h2;exact V49)
theorem A9 (l:List Mv) (p:Option Addr) (n k tmp:Nat) (w:World) (hl:l.length=n) (zV:n≤k) (hk:k≤9223372036854775807) (jU:MvsAt w p l) (hn:n≤100) (Bv:∀m∈l,IsPl m.1∧IsPl m.2) (gZ:(l.map (·.2)).Nodup) (Tj:∀m∈l,m.1≠(false,tmp)∧m.2≠(false,tmp)) (ht:tmp≤15):
 O U 130 #[cT p n k,cS dA (tmp:Nat)] w (RB w (cS dA 0)):=by
 have HL:=Ih hl;have Ce:=Ih jU;have EG:=Ih Bv;have aa:=Ih gZ;have HTM:=Ih Tj;have Ns:(n:Int)≤100:=Om;have oN:¬(100:Int)<n:=Om;have hn3:decide ((100:Int)<n)=false:=decide_eq_false oN;have ht1:decide ((tmp:Int)<0)=false:=decide_eq_false Om;have ht2:decide ((15:Int)<tmp)=false:=decide_eq_false Om;have Qk:=@run_makeMap U;clear hl jU Bv gZ Tj oN;go_in;go_wp2_with fail;go_loopg[6,7,17] n (fun gk v6 v7 v17 wx=>∃j m:Nat,j≤n∧gk=n-j∧v6=cV false∧v7=cV false∧v17=cS dA j∧m≤j∧mM wx w.heap.size m ((l.take j).map (·.2))∧dG w wx);(case atStart=>exact⟨0,0,aJ _,rfl,rfl,rfl,rfl,aA _,Py w,(aC _ _).alloc (aA _) _⟩)
 case round=>
  obtain⟨j,m,hj,hgk,rfl,rfl,rfl,hm,zJ,dJ⟩:=hrel;have HG:=Ih hgk;have aq:=Ih zJ;have HB:=Ih dJ;clear hgk zJ dJ Qk;by_cases dH:j<n
  ·(have lA:j<l.length:=by rw[HL.out];exact dH);rcases Ce with h0|⟨c,co,hp,hc,hr⟩;(·omega);obtain rfl:=hp;obtain⟨r1,r2,r3,r4⟩:=hr j lA;obtain⟨x,hx⟩:=Ex (l[j]);(have hxm:x∈l:=by rw[hx];exact aE lA);rw[←hx]at r1 r2 r3 r4;have wP:Hid (l.take (j+1)=l.take j++[x]):=Ih (by rw[List.take_add_one,aB lA,←hx];rfl);have K5:=Ih fun w=>Y0 x.1 (EG x hxm).1 w;have Ro:=Ih fun w=>Y0 x.2 (EG x hxm).2 w;have dt:=Ih (EG x hxm).2.lc;have HXT:=Ih (HTM x hxm);(have pR:Hid (x.2∉(l.take j).map (·.2)):=Ih fun Cx=>by have h1:=aa;rw[←List.take_append_drop (j+1) l,wP.out,aS,aS,bP,List.nodup_append]at h1;exact h1.2.2 _ Cx x.2 Si rfl);(have Fm:Hid (∀y∈(l.take j).map (·.2),zZ y):=Ih fun y hy=>by obtain⟨z,hz,rfl⟩:=List.mem_map.1 hy;exact(EG z (List.mem_of_mem_take hz)).2.lc);obtain⟨⟨xf,xn⟩,⟨yf,yn⟩⟩:=x;unfold sF at K5 Ro;simp only at K5 Ro dt HXT pR r1 r2 r3 r4;have c1:=(HB.cell (p:=⟨c,co+j*4,none⟩) hc).trans r1;have c2:=(HB.cell (p:=⟨c,co+j*4+1,none⟩) hc).trans r2;have c3:=(HB.cell (p:=⟨c,co+j*4+2,none⟩) hc).trans r3;have c4:=(HB.cell (p:=⟨c,co+j*4+3,none⟩) hc).trans r4;have Qn:(j:Int)<n:=Om;have qS:=aF hc HB.size;clear hr r1 r2 r3 r4 hx hxm lA dH;go_wp2_with fail;have oV:dG wr (wr.alloc (.cells #[.bool xf,.int .i64 (xn:Nat),.bool yf,.int .i64 (yn:Nat)] 175)):=(aC _ _).alloc (aA _) _;have fT:(wr.alloc (.cells #[.bool xf,.int .i64 (xn:Nat),.bool yf,.int .i64 (yn:Nat)] 175)).heap[wr.heap.size]? =some (.cells #[.bool xf,.int .i64 (xn:Nat),.bool yf,.int .i64 (yn:Nat)] 175 (0,0)):=aH wr _;refine(K5 _).mono ?_;rintro y w2 ⟨rfl,eL⟩;have hb2':=Tm oV eL;have Hx:=Ih (Kb eL fT);have q0:=Lx Hx;clear oV fT eL c1 c2 c3 c4;go_wp2_with fail;refine(Ro _).mono ?_;rintro y w3 ⟨rfl,hZ⟩;have yU:=Ih (Kb hZ Hx);have Yi:=Tm hb2' hZ;have kU:=Ih (Tm HB Yi);have HLS3:=Ih (rG aq (Yi.block _ (jL aq).1));(have E7:w.heap.size<wr.heap.size:=by have:=(jL aq).1;omega);clear q0 hZ Yi hb2' K5 Ro Hx;have q0:=Lx yU;have gJ:=En HLS3 Fm dt;(have KV:((l.take j).map (·.2)).contains (yf,yn)=false:=by rw[Bool.eq_false_iff];exact fun e=>pR (List.contains_iff_mem.1 e));rw[KV]at gJ;unfold sF at gJ;simp only at gJ;go_wp2_with (at_mapUpdate;go_loud (refine wpList_mapUpdate_own (H:=Unit) _ rfl _ _ _ 143 rfl 149 4 Kd Tryz.underlying143 _ w.heap.size m _ rfl HLS3 (by unfold maxLen;omega) _ _ (Hg (yf,yn)) rfl rfl (Er dt) (.lit (.bool true)) [] (plainElem_bool bQ true) ?_);intro w8 hown8 hgrow8;go_loud (have HBX8:=Ih ((hgrow8.block wr.heap.size (dB yU) Sv).trans yU));have y0:=Lx HBX8;have hbl8:=dB HBX8)
   all_goals first
    |exact absurd (Prod.ext (Bool.eq_false_iff.2 ‹¬xf=true›) (show xn=tmp by omega)) HXT.1
    |exact absurd (Prod.ext (Bool.eq_false_iff.2 ‹¬yf=true›) (show yn=tmp by omega)) HXT.2
    |(
     have MX:Hid (mM w8 w.heap.size (m+1) ((l.take (j+1)).map (·.2))):=Ih (by rw[wP.out,aS];show mM w8 _ _ (_++[_]);unfold mM;rw[Px];exact hown8)
     have Ae:Hid (dG w w8):=Ih (kU.trans ⟨hgrow8.os,hgrow8.tape,hgrow8.output,hgrow8.size,fun b hb=>hgrow8.block b (aF hb kU.size) Sv⟩)
     go_roundg (n-(j+1))
     case measure=>have:=HG.out;omega
     case rel=>exact⟨j+1,m+1,by omega,rfl,rfl,rfl,Gn,by omega,rG MX (aR _ _ _ (jL MX).1),Ae.alloc Ae.size _⟩)
  (·obtain rfl:n=j:=Om;clear dH;go_wp2_with fail;go_ret;exact⟨rfl,HB⟩)
def OwnW (w:World) (base:Nat) (e:TypeId) (size:Nat) (v:Value) (n:Nat) (xs:List Value):Prop:=
 xs.length=n*size∧((v=cT none 0 0∧n=0)∨∃g gN,v=cT (some ⟨g,0,none⟩) n gN∧base≤g∧n≤gN∧gN≤maxLen∧(∃mU,w.heap[g]? =some (cY mU e (0,0)))∧∀j u,xs[j]? =some u→w.cell? ⟨g,j,none⟩=some u)
theorem OwnW.of {n:Nat} (h:w.ownsRow base e size v n xs):OwnW w base e size v n xs:=by refine⟨h.1,?_⟩;rcases h.2 with h'|⟨g,gN,mU,rfl,hb,hh,h1,h2,_,_⟩;(·exact .inl h');(·refine .inr ⟨g,gN,rfl,hb,h1,h2,⟨mU,hh⟩,fun j u hu=>?_⟩;have:=h.cells (g:=g) rfl j u hu;rwa[Fj]at this)
theorem OwnW.keep {n:Nat} (h:OwnW w base e size v n xs) (hb:∀(g:Nat) (cs:Array Value),w.heap[g]? =some (Obj.cells cs e (0,0))→w'.heap[g]? =w.heap[g]?):OwnW w' base e size v n xs:=by refine⟨h.1,?_⟩;rcases h.2 with h'|⟨g,gN,rfl,h0,h1,h2,⟨mU,hh⟩,hc⟩;(·exact .inl h');(·have hq:=hb g mU hh;exact .inr ⟨g,gN,rfl,h0,h1,h2,⟨mU,hq.trans hh⟩,fun j u hu=>(bT (a:=⟨g,j,none⟩) hq).trans (hc j u hu)⟩)
theorem OwnW.sl {n:Nat} (h:OwnW w base e size v n xs):∃p k,v=cT p n k∧n≤k∧k≤maxLen:=by rcases h.2 with⟨rfl,rfl⟩|⟨g,gN,rfl,_,h1,h2,_⟩;(·exact⟨none,0,rfl,aA _,by unfold maxLen;omega⟩);(·exact⟨_,_,rfl,h1,h2⟩)
theorem OwnW.get {n:Nat} (h:OwnW w base e size v n xs) (hn:0<n):∃g gN,v=cT (some ⟨g,0,none⟩) n gN∧n≤gN∧gN≤maxLen∧base≤g∧g<w.heap.size∧(∃mU,w.heap[g]? =some (cY mU e (0,0)))∧∀j u,xs[j]? =some u→w.cell? ⟨g,j,none⟩=some u:=by rcases h.2 with⟨rfl,rfl⟩|⟨g,gN,rfl,h0,h1,h2,⟨mU,hh⟩,hc⟩;(·omega);(·exact⟨g,gN,rfl,h1,h2,h0,dB hh,⟨mU,hh⟩,hc⟩)
theorem IB {t ty:TypeId} (E:tL P t e size) {g n gN cx:Nat} {ax:Addr} (LF:n-(i+1)≠0→ax=⟨g,(i+1)*size,none⟩) (dU:OwnW w base e size (cT (some ⟨g,0,none⟩) n gN) n xs) (hi:i<n) (h1:∀u∈xs,u.oneCell'=true) (hn:n≤1000000) (oH:base≤w.heap.size):
 ∃v' w',(Builtin.append_ #[t,t] ty #[cT (some ⟨g,0,none⟩) i i,cT (some ax) (n-(i+1)) cx]).run P w=.ok v' w'∧OwnW w' base e size v' (n-1) (xs.take (i*size)++xs.drop ((i+1)*size))∧dG w w'∧(v'.ownBlock=some g∨v'.ownBlock=some w.heap.size):=by
 obtain⟨ti,z,ht,mm,hz,hs,Tu,Y4,h0⟩:=E;subst hs;obtain⟨g',CR,he,jA,Dv,hb,eS,⟨mU,hh⟩,hc⟩:=dU.get Om;injection he with he _ FP;injection he with he;injection he with he;subst he FP;have Qc:=dU.1;have hmul:∀a b:Nat,a≤b→a*ti.size≤b*ti.size:=fun a b h=>Nat.mul_le_mul_right _ h;(have hd:(xs.drop ((i+1)*ti.size)).length=(n-(i+1))*ti.size:=by rw[List.length_drop,Qc,Nat.sub_mul]);(have Vb:(xs.take (i*ti.size)).length=i*ti.size:=by rw[aO,Qc];exact Nat.min_eq_left (hmul _ _ Om))
 have hsrc:Src P ti.size t (cT (some ax) (n-(i+1)) cx) (n-(i+1)) (xs.drop ((i+1)*ti.size)) w:=
  Src.ofSlice _ ht _ _ _ _ hd (fun j u hu=>by
   have fM:n-(i+1)≠0:=fun e=>by
    have h2:=(List.getElem?_eq_some_iff.1 hu).1
    rw[hd,e,Nat.zero_mul]at h2
    omega
   rw[LF fM]
   rw[List.getElem?_drop]at hu
   have:=hc _ _ hu
   rw[Addr.add_lit]
   exact this) fun u hu=>h1 u (List.mem_of_mem_drop hu)
 by_cases hm:n-(i+1)=0;(·refine⟨cT (some ⟨g,0,none⟩) i i,w,?_,⟨?_,.inr ⟨g,i,by rw[show n-1=i by omega],hb,by omega,by omega,⟨mU,hh⟩,fun j u hu=>hc j u ?_⟩⟩,aC _ _,.inl rfl⟩;(·rw[run_append_room_src w t t ty e ti ht mm g 0 i i _ _ _ hsrc Om (fun j hj=>by rw[hd,hm]at hj;simp at hj) (fun j hj=>by rw[hd,hm]at hj;simp at hj)];have:xs.drop ((i+1)*ti.size)=[]:=List.eq_nil_of_length_eq_zero (by rw[hd,hm,Nat.zero_mul]);rw[this,hm];rfl);(·rw[aD,Vb,hd,hm,show n-1=i by omega,Nat.zero_mul,Nat.add_zero]);(·have:xs.drop ((i+1)*ti.size)=[]:=List.eq_nil_of_length_eq_zero (by rw[hd,hm,Nat.zero_mul]);rw[this,List.append_nil,List.getElem?_take]at hu;split at hu;(·exact hu);(·cases hu)))
 ·have Qj:(i+(n-(i+1)))*ti.bytes≤140737488355328:=aG (Nat.mul_le_mul (by omega:i+(n-(i+1))≤1000001) Tu) De
  have hr:=run_append_grow_src (P:=P) w t t ty e ti z ht mm hz (some ⟨g,0,none⟩) i i (xs.take (i*ti.size)) (run_firstCells_some w.drew ti.size i ⟨g,0,none⟩ i i _ Vb (fun j u hu=>by
   rw[List.getElem?_take]at hu
   split at hu
   ·have:=hc _ _ hu
    rw[Fj]
    exact this
   ·cases hu)) _ _ _ hsrc Om Om (growslice_fits Om Qj)
  (have sK:(xs.take (i*ti.size)++xs.drop ((i+1)*ti.size)).length=(n-1)*ti.size:=by rw[aD,Vb,hd,←Nat.add_mul];congr 1;omega);refine⟨_,_,hr,?_,(dD w).alloc (aA _) _,.inr rfl⟩;have hq:i+(n-(i+1))=n-1:=Om;have Vh:=grownCap_ge w (i+(n-(i+1))) i e;have sL:=grownCap_le_maxLen w (i+(n-(i+1))) i e (by unfold maxLen;omega);rw[hq]at Vh sL⊢;refine⟨sK,.inr ⟨_,_,rfl,oH,Vh,sL,⟨_,heap_alloc_new w.drew _⟩,fun j u hu=>?_⟩⟩;have hj:j<(xs.take (i*ti.size)++xs.drop ((i+1)*ti.size)).length:=(List.getElem?_eq_some_iff.1 hu).1;refine(cell_of_row _ _ j _ _ _ (heap_alloc_new w.drew _)).trans ?_;rw[Array.getElem?_append_left (by simpa using hj)];simpa using hu
theorem ec {ops:Array Oper} {rest:List Oper} {o:Oper} {Q:Exit→Act→World→Prop} {t:TypeId} (E:tL P t e size) (s x:Operand) (KM:o.guard=none)
 (ho:o.op=.call {callee:=.builtin .append,args:=#[s,x],argTypes:=#[t,t]}) (base g n gN i cx:Nat) (ax:Addr) (LF:n-(i+1)≠0→ax=⟨g,(i+1)*size,none⟩) (xs:List Value) (dU:OwnW w base e size (cT (some ⟨g,0,none⟩) n gN) n xs) (hi:i<n) (h1:∀u∈xs,u.oneCell'=true) (hn:n≤1000000) (oH:base≤w.heap.size)
 (hs:a.eval s=cT (some ⟨g,0,none⟩) i i) (hx:a.eval x=cT (some ax) (n-(i+1)) cx)
 (h:∀v' w',OwnW w' base e size v' (n-1) (xs.take (i*size)++xs.drop ((i+1)*size))→dG w w'→(v'.ownBlock=some g∨v'.ownBlock=some w.heap.size)→wpList P ops Q rest (a.put o.dst v') w'):wpList P ops Q (o::rest) a w:=by refine wpList_plain KM fun K hK=>?_;obtain⟨v',w',hr,h2,h3,h4⟩:=IB (ty:=o.type) E (ax:=ax) LF dU (cx:=cx) hi h1 hn oH;unfold Oper.wp execOp;simp only[ho,resolve,invoke,builtin,Sem.run_bind,Sem.run_pure,Result.andThen_ok,List.map_toArray,bC,cM,hs,hx,hr];exact hK _ _ (h v' w' h2 h3 h4)
theorem oC (l:List Mv):(dK l).length=l.length*4:=by
 unfold dK
 induction l with
  |nil=>rfl
  |cons x l ih=>rw[cL,aD,ih];show 4+_=_;rw[aM];omega
theorem fF (l r:List Mv):dK (l++r)=dK l++dK r:=by unfold dK;rw[List.flatMap_append]
theorem St (l:List Mv):∀u∈dK l,u.oneCell'=true:=by intro u hu;unfold dK at hu;obtain⟨m,_,hm⟩:=List.mem_flatMap.1 hu;unfold fB at hm;simp only[bF,aZ,or_false]at hm;rcases hm with rfl|rfl|rfl|rfl<;>rfl
theorem Su (l:List Mv) (i:Nat) (hi:i<l.length):(dK l).take (i*4)++(dK l).drop ((i+1)*4)=dK (l.eraseIdx i):=by(have e:l=l.take i++l[i]::l.drop (i+1):=by rw[List.getElem_cons_drop,List.take_append_drop]);(have ht:(dK (l.take i)).length=i*4:=by rw[oC,aO];congr 1;omega);rw[List.eraseIdx_eq_take_drop_succ,fF];(conv=>lhs;rw[e]);rw[fF,List.take_left' ht];congr 1;rw[show l[i]::l.drop (i+1)=[l[i]]++l.drop (i+1)from rfl,fF,←bP];exact List.drop_left' (by rw[aD,ht];show i*4+4=_;omega)
theorem nQ (l:List Mv) (i:Nat) (h:i<l.length):(dK l)[i*4]? =some (cV l[i].1.1)∧(dK l)[i*4+1]? =some (cS dA (l[i].1.2:Nat))∧(dK l)[i*4+2]? =some (cV l[i].2.1)∧(dK l)[i*4+3]? =some (cS dA (l[i].2.2:Nat)):=by(have e:l=l.take i++([l[i]]++l.drop (i+1)):=by show l=l.take i++(l[i]::l.drop (i+1));rw[List.getElem_cons_drop,List.take_append_drop]);(have ht:(dK (l.take i)).length=i*4:=by rw[oC,aO];congr 1;omega);(have hg:∀k,k<4→(dK l)[i*4+k]? =(fB l[i])[k]?:=fun k hk=>by(conv=>lhs;rw[e]);rw[fF,bD (by rw[ht];omega),ht,Nat.add_sub_cancel_left,fF,List.getElem?_append_left (by show k<4;exact hk)];rfl);exact⟨hg 0 Om,hg 1 Om,hg 2 Om,hg 3 Om⟩
theorem Ss (l:List Mv) (i:Nat) (h:i<l.length) (x:Lc):((dK l).set (i*4) (cV x.1)).set (i*4+1) (cS dA (x.2:Nat))=dK (l.set i (x,l[i].2)):=by
 induction l generalizing i with
  |nil=>simp at h
  |cons y l ih=>
   cases i with
   |zero=>rfl
   |succ i=>
    have hi:i<l.length:=by simpa using h
    have h1:=ih i hi
    show((fB y++dK l).set _ _).set _ _=fB y++dK (l.set i (x,l[i].2))
    rw[←h1,show(i+1)*4=4+i*4 by omega,show 4+i*4+1=4+(i*4+1)by omega]
    rw[List.set_append_right _ _ (by show 4≤_;omega),List.set_append_right _ _ (by show 4≤_;omega)]
    rw[show 4+i*4-(fB y).length=i*4 by show 4+i*4-4=_;omega,show 4+(i*4+1)-(fB y).length=i*4+1 by show 4+(i*4+1)-4=_;omega]
theorem OwnW.stored {n g gN:Nat} (h:OwnW w base e size (cT (some ⟨g,0,none⟩) n gN) n xs) (hn:0<n) (j:Nat) (hj:j<xs.length) (u:Value):
 OwnW (w.setCell ⟨g,j,none⟩ u) base e size (cT (some ⟨g,0,none⟩) n gN) n (xs.set j u)∧w.grownBy (w.setCell ⟨g,j,none⟩ u) (some g):=by obtain⟨g',CR,he,jA,Dv,hb,eS,⟨mU,hh⟩,hc⟩:=h.get hn;injection he with he _ FP;injection he with he;injection he with he;subst he FP;have hs:=eF hh j u;refine⟨⟨by rw[cQ];exact h.1,.inr ⟨g,gN,rfl,hb,jA,Dv,⟨_,hs⟩,fun k y hk=>?_⟩⟩,⟨rfl,rfl,rfl,by simp[cN],fun k hk oE=>bV _ _ _ k (fun e=>oE (by rw[show k=g from e]))⟩⟩;rw[cell_of_row _ g k _ _ _ hs];by_cases ek:j=k;(·subst ek;rw[List.getElem?_set_self hj]at hk;have VU:=hc j _ (aB hj);rw[cell_of_row w g j _ _ _ hh]at VU;(have hjs:j<mU.size:=by rcases Nat.lt_or_ge j mU.size with h|h;(·exact h);(·rw[Array.getElem?_eq_none h]at VU;cases VU));rw[←hk];simp[hjs]);(·rw[List.getElem?_set_ne ek]at hk;have qT:=hc k _ hk;rw[cell_of_row w g k _ _ _ hh]at qT;rw[←qT];simp[Array.getElem?_setIfInBounds,ek])
def vW (ms:List Mv) (q:Lc):Bool:=ms.any fun m=>decide (m.1=q)
theorem I6 (ms:List Mv) (base bl n:Nat) (vl:Value) (q:Lc) (w:World) (jE:w.heap[bl]? =some (cY #[vl] 173 (0,0))) (dU:OwnW w base 175 4 vl n (dK ms)) (hn:n≤1000):
 O U 131 #[sF q,cW (some ⟨bl,0,none⟩)] w (RB w (cV (vW ms q))):=by
 obtain⟨p,k,rfl,vP,oE⟩:=dU.sl;(have hl:ms.length=n:=by have:=dU.1;rw[oC]at this;omega);obtain⟨r,hr⟩:=Ex (vW ms q);rw[←hr];obtain⟨tf,tn⟩:=q;have HR:=Ih hr;have HO:=Ih dU;have HL:=Ih hl;have hU:=dB jE;obtain⟨z0,zf⟩:=dE jE;unfold sF;simp only;unfold maxLen at oE;have HZ:=Ih z0;clear hr dU hl jE;go_in;go_wp2_with fail;go_loopg[8] n (fun gk v8 wx=>∃j:Nat,j≤n∧gk=n-j∧v8=cS dA j∧dG w wx∧wx.heap[w.heap.size]? =some (cY #[cV tf,cS dA (tn:Nat)] 149 (0,0))∧vW (ms.take j) (tf,tn)=false);(case atStart=>exact⟨0,aJ _,rfl,rfl,(aC _ _).alloc (aA _) _,aH w _,rfl⟩)
 case round=>
  obtain⟨j,hj,hgk,rfl,dJ,fT,lE⟩:=hrel;have HG:=Ih hgk;have HB:=Ih dJ;have eH:=Ih fT;have mV:=Ih lE;clear hgk dJ fT lE;by_cases dH:j<n
  ·(have lA:j<ms.length:=by rw[HL.out];exact dH);obtain⟨g,gN,he,-,-,-,eS,-,hc⟩:=HO.get Om;injection he with he _ KQ;subst he KQ;obtain⟨r1,r2,r3,r4⟩:=nQ ms j lA;obtain⟨x,hx⟩:=Ex (ms[j]);rw[←hx]at r1 r2 r3 r4;have wP:Hid (ms.take (j+1)=ms.take j++[x]):=Ih (by rw[List.take_add_one,aB lA,←hx];rfl);have MB:Hid (x∈ms):=Ih (by rw[hx];exact aE lA);obtain⟨⟨xf,xn⟩,⟨yf,yn⟩⟩:=x;simp only at r1 r2 r3 r4;have c1:=(HB.cell (p:=⟨g,j*4,none⟩) eS).trans (hc _ _ r1);have c2:=(HB.cell (p:=⟨g,j*4+1,none⟩) eS).trans (hc _ _ r2);have c3:=(HB.cell (p:=⟨g,j*4+2,none⟩) eS).trans (hc _ _ r3);have c4:=(HB.cell (p:=⟨g,j*4+3,none⟩) eS).trans (hc _ _ r4);have b0:=qV eH;have Qn:(j:Int)<n:=Om;have cu:=dB eH;have jS:(n:Int)≤k:=Om;clear hc r1 r2 r3 r4 hx lA dH;by_cases e:(xf,xn)=(tf,tn);(·injection e with e1 e2;subst e1 e2;(have JP:r=true:=by rw[HR.out];exact List.any_eq_true.2 ⟨_,MB,by simp⟩);subst JP;go_wp2_with fail;go_ret;exact⟨rfl,HB.alloc HB.size _⟩)
   ·have HE:=Ih e;clear e;go_wp2_with fail
    all_goals first
     |exact absurd (Prod.ext (show xf=tf by assumption) (show xn=tn by omega)) HE
     |(
      go_roundg (n-(j+1))
      case measure=>have:=HG.out;omega
      case rel=>exact⟨j+1,by omega,rfl,by go_num,HB.out.alloc HB.out.size _,pF _ eH.out,by rw[wP.out];unfold vW at*;rw[List.any_append,mV.out];simpa using HE.out⟩)
  (·obtain rfl:n=j:=Om;(have hrf:r=false:=by rw[HR.out];have:=mV;rw[←HL.out,List.take_length]at this;exact this);subst hrf;clear dH;go_wp2_with fail;go_ret;exact⟨rfl,HB⟩)
def mI (m:Mv):Nat:=if m.1.1&&m.2.1 then 2 else 1
def Al (ms:List Mv):Bool:=ms.any fun m=>!vW ms m.2
structure RowSt (Q:Lc→Prop) (tmp n:Nat) (left out:List Mv) (R H:Nat):Prop where
 ql:∀m∈left,Q m.1∧Q m.2∧m.2≠(false,tmp)
 qo:∀m∈out,Q m.1∧Q m.2
 len:R+left.length≤n
 cost:(out.map mI).sum≤2*R+H
 ol:out.length≤R+H
 hold:H≤R+(if Al left=true then 1 else 0)
theorem B3 (m:Mv):mI m≤2:=by unfold mI;split<;>omega
theorem RowSt.take {Q:Lc→Prop} {tmp n R H:Nat} {left out:List Mv} (h:RowSt Q tmp n left out R H) (hi:i<left.length):RowSt Q tmp n (left.eraseIdx i) (out++[left[i]]) (R+1) H:=by have hm:=h.ql left[i] (aE hi);refine⟨fun m hm=>h.ql m (List.mem_of_mem_eraseIdx hm),fun m Du=>?_,?_,?_,?_,?_⟩;(·rcases List.mem_append.1 Du with Du|Du;(·exact h.qo m Du);(·rw[aK]at Du;rw[Du];exact⟨hm.1,hm.2.1⟩));(·rw[List.length_eraseIdx_of_lt hi];have:=h.len;omega);(·have h1:=h.cost;have h2:=B3 left[i];simp only[aS,bC,cM,List.sum_append,List.sum_cons,List.sum_nil];omega);(·have:=h.ol;simp only[aD,List.length_singleton];omega);(·have:=h.hold;split at this<;>omega)
theorem RowSt.small {Q:Lc→Prop} {tmp n R H:Nat} {left out:List Mv} (h:RowSt Q tmp n left out R H):out.length≤2*n+1:=by have h1:=h.hold;have h2:=h.len;have h3:=h.ol;split at h1<;>omega
def lN (q t:Lc) (m:Mv):Mv:=if m.1=q then(t,m.2)else m
theorem RowSt.kept {Q:Lc→Prop} {tmp n R H:Nat} {left out:List Mv} (h:RowSt Q tmp n left out R H) (hQ:Q (false,tmp)) (h0:0<left.length) (lE:Al left=false):
 RowSt Q tmp n (left.map (lN left[0].2 (false,tmp))) (out++[(left[0].2,(false,tmp))]) R (H+1)∧Al (left.map (lN left[0].2 (false,tmp)))=true:=by obtain⟨q,hq⟩:=Ex (left[0].2);have h0q:=h.ql left[0] (aE h0);rw[←hq]at h0q⊢;(have hna:Al (left.map (lN q (false,tmp)))=true:=by refine List.any_eq_true.2 ⟨lN q (false,tmp) left[0],List.mem_map.2 ⟨_,aE h0,rfl⟩,?_⟩;(have e2:(lN q (false,tmp) left[0]).2=q:=by unfold lN;split<;>exact hq.symm);rw[e2];(have:vW (left.map (lN q (false,tmp))) q=false:=by unfold vW;rw[List.any_eq_false];intro m hm;obtain⟨x,_,rfl⟩:=List.mem_map.1 hm;unfold lN;split;(·simpa using fun e=>h0q.2.2 e.symm);(·rename_i hx;simpa using hx));rw[this];rfl);refine⟨⟨fun m hm=>?_,fun m hm=>?_,by rw[aI];exact h.len,?_,?_,?_⟩,hna⟩;(·obtain⟨x,hx,rfl⟩:=List.mem_map.1 hm;have:=h.ql x hx;unfold lN;split;(·exact⟨hQ,this.2⟩);(·exact this));(·rcases List.mem_append.1 hm with hm|hm;(·exact h.qo m hm);(·rw[aK]at hm;rw[hm];exact⟨h0q.2.1,hQ⟩));(·have h1:=h.cost;(have h2:mI (q,(false,tmp))=1:=by unfold mI;simp);simp only[aS,bC,cM,List.sum_append,List.sum_cons,List.sum_nil,h2];omega);(·have:=h.ol;simp only[aD,List.length_singleton];omega);(·have:=h.hold;rw[lE]at this;rw[hna];simp at this⊢;exact this)
theorem RowSt.done {Q:Lc→Prop} {tmp n R H:Nat} {out:List Mv} (h:RowSt Q tmp n [] out R H):(∀m∈out,Q m.1∧Q m.2)∧(out.map mI).sum≤3*n∧out.length≤2*n:=by have h1:=h.hold;have h2:=h.len;have h3:=h.cost;have h4:=h.ol;rw[show Al []=false from rfl]at h1;simp at h1 h2;exact⟨h.qo,by omega,by omega⟩
def lM (q t:Lc) (i:Nat) (l:List Mv):List Mv:=(l.take i).map (lN q t)++l.drop i
theorem Ws (q t:Lc) (l:List Mv):lM q t 0 l=l:=rfl
theorem nE (q t:Lc) (i:Nat) (l:List Mv):(lM q t i l).length=l.length:=by unfold lM;rw[aD,aI,aO,List.length_drop];omega
theorem o4 (q t:Lc) (i:Nat) (l:List Mv):(lM q t i l)[i]? =l[i]?:=by unfold lM;rw[bD (by rw[aI,aO];omega),aI,aO,List.getElem?_drop];by_cases h:i≤l.length;(·congr 1;omega);(·rw[List.getElem?_eq_none Om,List.getElem?_eq_none Om])
theorem Wt (q t:Lc) (i:Nat) (l:List Mv) (h:i<l.length):lM q t (i+1) l=(lM q t i l).set i (lN q t l[i]):=by apply List.ext_getElem?;intro j;unfold lM;rw[List.getElem?_set];by_cases e:i=j;(·subst e;rw[if_pos rfl,if_pos (by rw[aD,aI,aO,List.length_drop];omega),List.getElem?_append_left (by rw[aI,aO];omega),bH,List.getElem?_take,if_pos Om,aB h];rfl);(·rw[if_neg e];by_cases hj:j<i;(·rw[List.getElem?_append_left (by rw[aI,aO];omega),List.getElem?_append_left (by rw[aI,aO];omega),bH,bH,List.getElem?_take,List.getElem?_take,if_pos Om,if_pos hj]);(·rw[bD (by rw[aI,aO];omega),bD (by rw[aI,aO];omega),List.getElem?_drop,List.getElem?_drop,aI,aI,aO,aO];congr 1;omega))
theorem Jg {α:Type} (l:List α) (i:Nat) (x:α) (h:l[i]? =some x):l.set i x=l:=by apply List.ext_getElem?;intro j;rw[List.getElem?_set];split;(·rename_i e;subst e;split;(·exact h.symm);(·rename_i hn;rw[List.getElem?_eq_none Om]at h;cases h));(·rfl)
theorem below_drewN (w:World) (n:Nat):dG w (w.drewN n):=⟨rfl,rfl,rfl,aA _,fun _ _=>rfl⟩
theorem sA:tL U 173 175 4:=kP (z:=.agg #[.bool false,.int .i64 0,.bool false,.int .i64 0]) (bytes:=32) Tryz.underlying173 Kr De De De
structure MvSt (w wx:World) (bl:Nat) (vl vo:Value) (left out:List Mv):Prop where
 bel:dG w wx
 box:wx.heap[bl]? =some (cY #[vl] 173 (0,0))
 hb:w.heap.size≤bl
 left:OwnW wx w.heap.size 175 4 vl left.length (dK left)
 out:wx.ownsRow w.heap.size 175 4 vo out.length (dK out)
 ap:∀g,vl.ownBlock=some g→vo.ownBlock≠some g
section
variable {w wx w':World} {bl:Nat} {vl vo vo':Value} {left out:List Mv}
theorem MvSt.old (h:MvSt w wx bl vl vo left out) (hb:dG wx w'):MvSt w w' bl vl vo left out:=
 ⟨Tm h.bel hb,Kb hb h.box,h.hb,h.left.keep fun g cs e=>hb.block g (dB e),dR h.out fun g cs e=>hb.block g (dB e),h.ap⟩
theorem OwnW.blk {n:Nat} (h:OwnW w base e size v n xs):∀g,v.ownBlock=some g→base≤g∧g<w.heap.size∧∃cs,w.heap[g]? =some (cY cs e (0,0)):=by intro g hg;rcases h.2 with⟨rfl,_⟩|⟨g',gN,rfl,h0,h1,h2,⟨mU,hh⟩,hc⟩;(·simp[cO]at hg);(·(obtain rfl:g'=g:=by simpa[cO]using hg);exact⟨h0,dB hh,_,hh⟩)
theorem MvSt.app (h:MvSt w wx bl vl vo left out) {m:Mv} (ha:App wx w' w.heap.size 175 4 vo vo' out.length (dK out) (fB m)):MvSt w w' bl vl vo' left (out++[m]):=by have f:EFr w.heap.size [175] wx w':=ha.fr h.out (aA _) Si;refine⟨h.bel.trans (f.below h.bel.size),f.obj h.box De,h.hb,?_,?_,fun g hg=>?_⟩;(·rcases h.left.2 with⟨e1,e2⟩|⟨g,gN,rfl,h0,h1,h2,⟨mU,hh⟩,hc⟩;(·exact⟨h.left.1,.inl ⟨e1,e2⟩⟩);(·have hq:=ha.grow.block g (dB hh) (h.ap g rfl).symm;exact⟨h.left.1,.inr ⟨g,gN,rfl,h0,h1,h2,⟨mU,hq.trans hh⟩,fun j u hu=>(bT (a:=⟨g,j,none⟩) hq).trans (hc j u hu)⟩⟩));(·rw[aD,fF];have:=ha.own;(have e:dK [m]=fB m:=by unfold dK;simp);rw[e];exact this);(·rcases ha.blk with e|e;(·rw[e];exact h.ap g hg);(·rw[e];intro e2;injection e2 with e2;have:=(h.left.blk g hg).2.1;omega))
theorem MvSt.put (h:MvSt w wx bl vl vo left out) {left':List Mv} {vl':Value} (hl:OwnW wx w.heap.size 175 4 vl' left'.length (dK left')) (ha:∀g,vl'.ownBlock=some g→vo.ownBlock≠some g):MvSt w (wx.setCell ⟨bl,0,none⟩ vl') bl vl' vo left' out:=by have f:EFr w.heap.size [173] wx (wx.setCell ⟨bl,0,none⟩ vl'):=EFr.set h.box h.hb Si 0 vl';exact⟨h.bel.trans (f.below h.bel.size),eF h.box 0 vl',h.hb,hl.keep fun g cs e=>(f.obj e De).trans e.symm,f.row h.out De,ha⟩
theorem MvSt.stored {g n:Nat} (h:MvSt w wx bl (cT (some ⟨g,0,none⟩) n k) vo left out) (hn:left.length=n) (i:Nat) (hi:i<left.length) (x:Lc):
 MvSt w ((wx.setCell ⟨g,i*4,none⟩ (cV x.1)).setCell ⟨g,i*4+1,none⟩ (cS dA (x.2:Nat))) bl (cT (some ⟨g,0,none⟩) n k) vo (left.set i (x,left[i].2)) out:=by subst hn;obtain⟨h1,g1⟩:=h.left.stored Om (i*4) (by rw[oC];omega) (cV x.1);obtain⟨h2,g2⟩:=h1.stored Om (i*4+1) (by rw[cQ,oC];omega) (cS dA (x.2:Nat));rw[Ss left i hi x]at h2;obtain⟨hb,eS,cs,hgc⟩:=h.left.blk g rfl;(have f1:EFr w.heap.size [175] wx (wx.setCell ⟨g,i*4,none⟩ (cV x.1)):=EFr.grown g1 fun g' e=>by injection e with e;subst e;exact⟨hb,cs,_,_,hgc,by simp⟩);have f2:=f1.trans (EFr.set (B:=w.heap.size) (chg:=[175]) (eF hgc (i*4) (cV x.1)) hb Si (i*4+1) (cS dA (x.2:Nat)));refine⟨h.bel.trans (f2.below h.bel.size),f2.obj h.box De,h.hb,by rw[cQ];exact h2,?_,h.ap⟩;rcases h.out.2 with h0|⟨g',gN,mU,rfl,q1,q2,q3⟩;(·exact⟨h.out.1,.inl h0⟩);(·have fM:some g'≠some g:=fun e=>h.ap g rfl e;have hl:=dB q2;have e1:=g1.block g' hl fM;have e2:=g2.block g' (aF hl g1.size) fM;exact⟨h.out.1,.inr ⟨g',gN,mU,rfl,q1,(e2.trans e1).trans q2,q3⟩⟩)
end
set_option maxRecDepth 100000 in
set_option maxRecDepth 100000 in
theorem IE (Q:Lc→Prop) (l:List Mv) (p:Option Addr) (n k tmp:Nat) (w:World) (hl:l.length=n) (zV:n≤k) (hk:k≤9223372036854775807) (jU:MvsAt w p l) (hn:n≤100) (Bv:∀m∈l,IsPl m.1∧IsPl m.2) (gZ:(l.map (·.2)).Nodup) (Tj:∀m∈l,m.1≠(false,tmp)∧m.2≠(false,tmp)) (ht:tmp≤15)
 (hq:∀m∈l,Q m.1∧Q m.2) (hqt:Q (false,tmp)):
 O U 112 #[cT p n k,cS dA (tmp:Nat)] w fun x w'=>∃vo out,x=cZ (.tuple #[vo,cS dA 0])∧w'.ownsRow w.heap.size 175 4 vo out.length (dK out)∧(∀m∈out,Q m.1∧Q m.2)∧(out.map mI).sum≤3*n∧out.length≤2*n∧dG w w':=by
 have pO:=Ih (A9 l p n k tmp w hl zV hk jU hn Bv gZ Tj ht);have HL:=Ih hl;have Ce:=Ih jU;have HQ:Hid (∀m∈l,Q m.1∧Q m.2∧m.2≠(false,tmp)):=Ih fun m hm=>⟨(hq m hm).1,(hq m hm).2,(Tj m hm).2⟩;have HQT:=Ih hqt;have hnki:(n:Int)≤k:=Om;clear hl jU Bv gZ Tj hq hqt;go_in;go_wp2_with fail;go_step3;go_wp2_with fail;refine pO.out.mono ?_;rintro y w1 ⟨rfl,kF⟩;have lK:=Ih kF;clear kF pO;obtain⟨bl,hU⟩:∃bl,bl=w1.heap.size:=⟨_,rfl⟩;(have hbll:w.heap.size≤bl:=by rw[hU];exact lK.out.size);have HBX1:Hid ((w1.alloc (cY #[cT none 0 0] 173)).heap[bl]? =some (cY #[cT none 0 0] 173 (0,0))):=Ih (by rw[hU];exact aH w1 _);go_wp2_with fail;rw[←hU];clear hU;go_loopg[24] n (fun gk v24 wx=>∃(j:Nat) (ms:List Mv) (vl:Value),j≤n∧gk=n-j∧v24=cS dA j∧dG w wx∧wx.heap[bl]? =some (cY #[vl] 173 (0,0))∧wx.ownsRow w.heap.size 175 4 vl ms.length (dK ms)∧(∀m∈ms,m∈l)∧ms.length≤j);(case atStart=>exact⟨0,[],_,aJ _,rfl,rfl,lK.out.alloc lK.out.size _,HBX1.out,bE _ _ _ _,fun m h=>(by cases h),aA _⟩)
 case round=>
  obtain⟨j,ms,vl,hj,hgk,rfl,dJ,fT,dU,AQ,hmj⟩:=hrel;have HG:=Ih hgk;have HB:=Ih dJ;have eH:=Ih fT;have Is:=Ih AQ;obtain⟨pl,kl,rfl,hkl1,hkl2⟩:=dI dU;have HO:=Ih dU;clear hgk dJ fT dU AQ;by_cases dH:j<n;(·(have lA:j<l.length:=by rw[HL.out];exact dH);rcases Ce.out with h0|⟨c,co,hp,hc,hr⟩;(·omega);obtain rfl:=hp;obtain⟨r1,r2,r3,r4⟩:=hr j lA;obtain⟨x,hx⟩:∃x,x=l[j]:=⟨_,rfl⟩;have MB:Hid (x∈l):=Ih (by rw[hx];exact aE lA);rw[←hx]at r1 r2 r3 r4;obtain⟨⟨xf,xn⟩,⟨yf,yn⟩⟩:=x;simp only at r1 r2 r3 r4;have c1:=(HB.out.cell (p:=⟨c,co+j*4,none⟩) hc).trans r1;have c2:=(HB.out.cell (p:=⟨c,co+j*4+1,none⟩) hc).trans r2;have c3:=(HB.out.cell (p:=⟨c,co+j*4+2,none⟩) hc).trans r3;have c4:=(HB.out.cell (p:=⟨c,co+j*4+3,none⟩) hc).trans r4;have Qn:(j:Int)<n:=Om;have qS:=aF hc HB.out.size;clear hr r1 r2 r3 r4 hx lA dH;go_upto_region 8 with fail;have tP:(wr.alloc (cY #[cV xf,cS dA (xn:Nat),cV yf,cS dA (yn:Nat)] 175)).heap[wr.heap.size]? =some (cY #[cV xf,cS dA (xn:Nat),cV yf,cS dA (yn:Nat)] 175 (0,0)):=aH wr _;obtain⟨WX,wo⟩:∃WX,WX=wr.alloc (cY #[cV xf,cS dA (xn:Nat),cV yf,cS dA (yn:Nat)] 175):=⟨_,rfl⟩;rw[←wo]at tP⊢;have HWX:=Ih wo;clear wo;go_cut[32]from 26 to 32 (fun v32 wx=>∃q:Bool,v32=cV q∧wx=WX);(case first=>obtain⟨d0,d1,d2,d3,df⟩:=Lx tP;go_wp2_with fail;(all_goals(go_meet;exact⟨_,rfl,rfl⟩)));(case rest=>obtain⟨q,rfl,rfl⟩:=hcut;rw[HWX.out];clear tP;go_upto_if 32 with fail;cases q;(·go_wp2_with fail;go_roundg (n-(j+1));(case measure=>have:=HG.out;omega);(case rel=>exact⟨j+1,ms,_,by omega,rfl,Gn,HB.out.alloc HB.out.size _,pF _ eH.out,dR HO.out fun g cs e=>aR _ _ _ (dB e),Is.out,by omega⟩));(·obtain⟨q0,qf⟩:=dE eH.out;have E7:=dB eH.out;go_wp2_with (at_builtin;go_loud (refine sD sA _ _ Rf Rf w.heap.size _ ms.length (dK ms) Rf ((HO.out.alloc _).alloc _) _ (fB ((xf,xn),(yf,yn))) Rf (dF _ _ _) rfl (by intro u hu;simp only[fB,bF,aZ,or_false]at hu;rcases hu with rfl|rfl|rfl|rfl<;>rfl) Om (by have:=HB.out.size;simp;omega) ?_);intro v' w3 eM;go_loud (obtain⟨p',k',rfl,-,-⟩:=dI eM.own);have rE:=Ih eM;go_loud (have Iu:Hid (EFr w.heap.size [175] wr w3):=Ih ((EFr.of (((aC wr.heap.size wr).alloc (aA _) _).alloc Si _)).trans (eM.fr ((HO.out.alloc _).alloc _) (aA _) Si)));go_loud (have yU:=Ih (Iu.out.obj eH.out De));obtain⟨s0,sf⟩:=dE yU.out;clear eM);have QO:=Ih (eF yU.out 0 (cT p' (ms.length+1) k'));have Vn:Hid (EFr w.heap.size [173] w3 (w3.setCell ⟨bl,0,none⟩ (cT p' (ms.length+1) k'))):=Ih (EFr.set yU.out hbll Si 0 _);go_roundg (n-(j+1));(case measure=>have:=HG.out;omega);(case rel=>refine⟨j+1,ms++[((xf,xn),(yf,yn))],_,by omega,rfl,Gn,(HB.out.trans (Iu.out.below HB.out.size)).trans (Vn.out.below (by have:=Iu.out.size;have:=HB.out.size;omega)),QO.out,?_,fun m hm=>?_,by simp;omega⟩;(·have h1:=Vn.out.row rE.out.own De;rw[aD,fF];(have e:dK [((xf,xn),(yf,yn))]=fB ((xf,xn),(yf,yn)):=by unfold dK;simp);rw[e];exact h1);(·rcases List.mem_append.1 hm with hm|hm;(·exact Is.out m hm);(·rw[aK]at hm;rw[hm];exact MB.out))))))
  ·obtain rfl:n=j:=Om;clear dH;have RG:Hid (MvSt w wr bl (cT pl ms.length kl) (cT none 0 0) ms []):=Ih ⟨HB.out,eH.out,hbll,.of HO.out,bE _ _ _ _,fun g _ e=>by simp[cO]at e⟩;have Zw:Hid (RowSt Q tmp n ms [] 0 0):=Ih ⟨fun m hm=>HQ.out m (Is.out m hm),fun m hm=>(by cases hm),by omega,by simp,by simp,by simp⟩;clear HG HO HB eH Is;go_wp2_with fail;go_step3;go_wp2_with fail;go_loopg[8] (2*ms.length+(if Al ms=true then 0 else 1)) (fun gk v8 wx=>∃(left out:List Mv) (vl:Value) (R H:Nat),gk=2*left.length+(if Al left=true then 0 else 1)∧MvSt w wx bl vl v8 left out∧RowSt Q tmp n left out R H);(case atStart=>exact⟨ms,[],_,0,0,rfl,RG.out,Zw.out⟩)
   case round=>
    obtain⟨left,out,vl,R,H,hgk,rV,hro⟩:=hrel;have HG:=Ih hgk;have HM:=Ih rV;have HR:=Ih hro;obtain⟨pq,kq,rfl,hkq1,hkq2⟩:=rV.left.sl;obtain⟨po,ko,rfl,VA,hko2⟩:=dI rV.out;obtain⟨ln,JZ⟩:∃ln,ln=left.length:=⟨_,rfl⟩;(have hln9:ln≤n:=by have:=hro.len;omega);obtain⟨q0,qf⟩:=dE rV.box;have E7:=dB rV.box;have Uu:=Ih JZ;rw[←JZ]at q0;clear hgk rV hro RG Zw JZ;by_cases Nv:0<ln
    ·have hl0i:(0:Int)<ln:=Om;have e41:decide (0<ln)=true:=decide_eq_true Nv;clear Nv;go_wp2_with fail;go_loopg[8,44] ln (fun gk v8 v44 wx=>∃i:Nat,i≤ln∧gk=ln-i∧v8=cT po out.length ko∧v44=cS dA i∧MvSt w wx bl (cT pq ln kq) (cT po out.length ko) left out∧∀m∈left.take i,vW left m.2=true);(case atStart=>exact⟨0,aJ _,rfl,rfl,rfl,(by rw[Uu.out];exact HM.out),fun m h=>(by cases h)⟩)
     case round=>
      clear HM q0 qf E7;obtain⟨i,hi,hgk,rfl,rfl,rV,eT⟩:=hrel;have nX:=Ih hgk;have HM:=Ih rV;have fP:=Ih eT;clear hgk rV eT;by_cases dH:i<ln
      ·(have eZ:i<left.length:=by rw[←Uu.out];exact dH);obtain⟨g,gN,he,sY,sM,-,eS,-,hc⟩:=HM.out.left.get Om;injection he with he M6 KQ;(have gQ:ln≤kq:=by rw[M6];omega);clear M6;subst he KQ;obtain⟨r1,r2,r3,r4⟩:=nQ left i eZ;obtain⟨x,hx⟩:∃x,x=left[i]:=⟨_,rfl⟩;rw[←hx]at r1 r2 r3 r4;have c1:=hc _ _ r1;have c2:=hc _ _ r2;have c3:=hc _ _ r3;have c4:=hc _ _ r4;have HX:Hid (left[i]? =some x):=Ih (by rw[hx];exact aB eZ);have wP:Hid (left.take (i+1)=left.take i++[x]):=Ih (by rw[List.take_add_one,aB eZ,←hx];rfl);have qA:(i:Int)<ln:=Om;have hckq:(ln:Int)≤kq:=Om;obtain⟨q0,qf⟩:=dE HM.out.box;have E7:=dB HM.out.box;obtain⟨WX,wo⟩:∃WX,WX=wr.alloc (.cells #[.bool x.1.1,.int .i64 (x.1.2:Nat),.bool x.2.1,.int .i64 (x.2.2:Nat)] 175):=⟨_,rfl⟩;(have tP:WX.heap[wr.heap.size]? =some (.cells #[.bool x.1.1,.int .i64 (x.1.2:Nat),.bool x.2.1,.int .i64 (x.2.2:Nat)] 175 (0,0)):=by rw[wo];exact aH wr _);have K0:=Ih (HM.out.old (w':=WX) (by rw[wo];exact(aC _ _).alloc (aA _) _));have HAS:=Ih (I6 left w.heap.size bl ln (.slice (some ⟨g,0,none⟩) ln kq) x.2 WX K0.out.box (by rw[Uu.out];have:=K0.out.left;rw[←Uu.out]at this⊢;exact this) Om);obtain⟨⟨xf,xn⟩,⟨yf,yn⟩⟩:=x;unfold sF at HAS;simp only at HAS wo tP c1 c2 c3 c4;have HWX:=Ih wo;have Mr:=Ih tP;obtain⟨qa,hqa⟩:∃qa,qa=vW left (yf,yn):=⟨_,rfl⟩;rw[←hqa]at HAS;have HQA:=Ih hqa;clear r1 r2 r3 r4 hc hx eZ dH wo tP hqa;go_wp2_with fail;rw[←HWX.out];refine HAS.out.mono ?_;rintro y w9 ⟨rfl,hb⟩;have Oq:=Ih (K0.out.old hb);have NP:=Ih (Kb hb Mr.out);clear hb c1 c2 c3 c4 q0 qf HAS Mr K0 HWX;cases qa;(·have Id:=HR.out.small;obtain⟨d0,d1,d2,d3,df⟩:=Lx NP.out;have hd9:=dB NP.out;go_wp2_with (at_builtin;go_loud (refine sD sA _ _ Rf Rf w.heap.size _ out.length (dK out) Rf (Oq.out.out.alloc _) _ (fB ((xf,xn),(yf,yn))) Rf (heap_alloc_new w9 _) rfl (by intro u hu;simp only[fB,bF,aZ,or_false]at hu;rcases hu with rfl|rfl|rfl|rfl<;>rfl) Om (by have:=Oq.out.bel.size;simp;omega) ?_);intro v' Ry eM;go_loud (obtain⟨p',k',rfl,-,-⟩:=dI eM.own);have rE:=Ih ((Oq.out.old ((aC w9.heap.size w9).alloc (aA _) _)).app eM);clear eM);have HLW:Hid (OwnW Ry.drew w.heap.size 175 4 (.slice (some ⟨g,0,none⟩) ln kq) ln (dK left)):=Ih (by have:=rE.out.left;rw[←Uu.out]at this;exact this.keep fun _ _ _=>rfl);refine dP (Below Ry.heap.size Ry) [9] [([0,1,2,3,4,5,6,7],8),([],9)] [] eE (by kernel_rfl) (fun _ _ d _ _ h=>by cases d<;>exact h) (dD _) ?_;intro ι _ F HD HE;have fb:=fun n=>dE (((HD.out n).block _ (dB rE.out.box)).trans rE.out.box);refine dL ?_;have Z0l:=0;exact V3)
       ·go_wp2_with fail;go_roundg (ln-(i+1));(case measure=>have:=nX.out;omega)
        case rel=>exact⟨i+1,by omega,rfl,rfl,Gn,Oq.out,fun m hm=>by
         rw[wP.out]at hm
         rcases List.mem_append.1 hm with hm|hm
         ·exact fP.out m hm
         ·rw[aK]at hm
          rw[hm]
          exact HQA.out.symm⟩
      ·obtain rfl:ln=i:=Om;(have hna:Al left=false:=by refine List.any_eq_false.2 fun m hm=>?_;rw[fP.out m (by rw[Uu.out,List.take_length];exact hm)];simp);have DZ:=Ih hna;(have eZ:0<left.length:=by rw[←Uu.out];omega);obtain⟨g,gN,he,sY,sM,-,eS,-,hc⟩:=HM.out.left.get Om;injection he with he M6 KQ;(have gQ:ln≤kq:=by rw[M6];omega);clear M6;subst he KQ;obtain⟨-,-,r3,r4⟩:=nQ left 0 eZ;have EE:=Ih (HR.out.kept HQT.out eZ hna);obtain⟨q,hq⟩:∃q,q=left[0].2:=⟨_,rfl⟩;rw[←hq]at r3 r4 EE;have hqm:=HR.out.ql left[0] (aE eZ);rw[←hq]at hqm;obtain⟨yf,yn⟩:=q;have c3:=hc 2 _ r3;have c4:=hc 3 _ r4;simp only at c3 c4;have hckq:(ln:Int)≤kq:=Om;(have hln0:(0:Int)<ln:=by have:=Uu.out;omega);obtain⟨q0,qf⟩:=dE HM.out.box;have E7:=dB HM.out.box;have Id:=HR.out.small;clear dH hna r3 r4 hc hq hqm eZ fP;have oV:dG wr (wr.alloc (cY #[cV yf,cS dA (yn:Nat)] 149)):=(aC _ _).alloc (aA _) _;have ED:=Ih (HM.out.old oV);have Oy:Hid ((wr.alloc (cY #[cV yf,cS dA (yn:Nat)] 149)).heap[wr.heap.size]? =some (cY #[cV yf,cS dA (yn:Nat)] 149 (0,0))):=Ih (aH wr _);clear oV;go_wp2_with (at_builtin;go_loud (refine sD sA _ _ Rf Rf w.heap.size _ out.length (dK out) Rf (ED.out.out.alloc _) _ (fB ((yf,yn),(false,tmp))) Rf (dF wr _ _) rfl (by intro u hu;simp only[fB,bF,aZ,or_false]at hu;rcases hu with rfl|rfl|rfl|rfl<;>rfl) Om (by have:=HM.out.bel.size;simp;omega) ?_);intro v' w15 eM;go_loud (obtain⟨p',k',rfl,-,-⟩:=dI eM.own);go_loud (have HM15:=Ih ((ED.out.old ((aC _ _).alloc (aA _) _)).app eM));go_loud (have HF15:Hid (EFr w.heap.size [175] wr w15):=Ih ((EFr.of (((aC wr.heap.size wr).alloc (aA _) _).alloc Si _)).trans (eM.fr (ED.out.out.alloc _) (aA _) Si)));go_loud (have HB15:=Ih ((eM.fr (B:=0) (chg:=[175]) (ED.out.out.alloc _) (aJ _) Si).obj (pF _ Oy.out) De));obtain⟨s0,sf⟩:=dE HM15.out.box;have hs15:=dB HM15.out.box;clear eM);obtain⟨xw,Tw⟩:∃xw,xw=wr.heap.size:=⟨_,rfl⟩;rw[←Tw]at HB15⊢;clear Tw s0 sf c3 c4 q0 qf hs15 ED Oy HF15 HM;go_loopg[81] ln (fun gk v81 wx=>∃i:Nat,i≤ln∧gk=ln-i∧v81=cS dA i∧MvSt w wx bl (cT (some ⟨g,0,none⟩) ln kq) (cT p' (out.length+1) k') (lM (yf,yn) (false,tmp) i left) (out++[((yf,yn),(false,tmp))])∧wx.heap[xw]? =some (cY #[cV yf,cS dA (yn:Nat)] 149 (0,0)));(case atStart=>exact⟨0,aJ _,rfl,rfl,by rw[Ws];exact HM15.out,HB15.out⟩)
       case round=>
        clear HM15 HB15 eS;obtain⟨i,hi,hgk,rfl,rV,Tw⟩:=hrel;have Ac:=Ih hgk;have HM:=Ih rV;have Oy:=Ih Tw;clear hgk rV Tw;by_cases dH:i<ln
        ·(have eZ:i<left.length:=by rw[←Uu.out];exact dH);obtain⟨x,hx⟩:∃x,x=left[i]:=⟨_,rfl⟩;(have Tl:(lM (yf,yn) (false,tmp) i left).length=ln:=by rw[nE,Uu.out]);(have ld:(lM (yf,yn) (false,tmp) i left)[i]'(by rw[nE];exact eZ)=x:=by have h1:=o4 (yf,yn) (false,tmp) i left;rw[aB (by rw[nE];exact eZ),aB eZ]at h1;injection h1 with h1;rw[h1,hx]);have tC:Hid (lM (yf,yn) (false,tmp) (i+1) left=(lM (yf,yn) (false,tmp) i left).set i (lN (yf,yn) (false,tmp) x)):=Ih (by rw[Wt _ _ _ _ eZ,hx]);obtain⟨r1,r2,r3,r4⟩:=nQ (lM (yf,yn) (false,tmp) i left) i (by rw[nE];exact eZ);obtain⟨g',gN,he,-,-,-,eS,vR,hc⟩:=HM.out.left.get (by rw[nE];omega);injection he with he M6 VB;injection he with he;injection he with he;subst he;clear VB;have c1:=hc _ _ r1;have c2:=hc _ _ r2;rw[ld]at c1 c2;have qA:(i:Int)<ln:=Om;have uP:=Ih (HM.out.stored Tl i (by rw[nE];exact eZ) (false,tmp));rw[ld]at uP;have HRI:Hid ((lM (yf,yn) (false,tmp) i left)[i]? =some x):=Ih (by rw[aB (by rw[nE];exact eZ),ld]);obtain⟨⟨xf,xn⟩,x2⟩:=x;simp only at c1 c2 uP;clear r1 r2 r3 r4 hc hx M6 ld Tl dH;obtain⟨y0,y1,yz⟩:=qV Oy.out;have Dp:=dB Oy.out;obtain⟨q0,qf⟩:=dE HM.out.box;have E7:=dB HM.out.box
         have Vm:Hid (wr.rangeAt g (i*4) [cV xf,cS dA (xn:Nat)]):=Ih fun j u hu=>by
          match j,hu with
          |0,hu=>injection hu with hu;rw[←hu];exact c1
          |1,hu=>injection hu with hu;rw[←hu];exact c2
         (have hfg:∀o,wr.frozen? ⟨g,o,none⟩=false:=by obtain⟨mU,KU⟩:=vR;(exact fun o=>by simp[bN,KU]));by_cases e1:xf=yf;(·subst e1;by_cases e2:xn=yn;(·subst e2;have Z6l:=0;exact V132);(·have ZG:Hid ((xf,xn)≠(xf,yn)):=Ih fun e=>e2 (by injection e);have e3:¬(xn:Int)=(yn:Int):=Om;have e4:((xn:Int)==(yn:Int))=false:=beq_eq_false_iff_ne.2 e3;have e5:decide (xn=yn)=false:=decide_eq_false e2;have e6:decide ((xn:Int)=(yn:Int))=false:=decide_eq_false e3;have Z6m:=0;exact V132));(·have ZG:Hid ((xf,xn)≠(yf,yn)):=Ih fun e=>e1 (by injection e);cases xf;(·cases yf;(·exact absurd rfl e1);(·clear e1;go_upto_region 25 with fail;(refine wp_region_quiet_lit Kr Kr ?_;(repeat(first|(go_big_quiet_want;(refine rQ wr 149 (.tmp 87) Rf g (i*4) Rf [.bool false,.int .i64 (xn:Nat)] _ Vm.out Tryz.underlying149 Rf Kr ?_;go_simp;go_big_quiet_on))|(go_big_quiet_step (fail))));refine wpQuiet_nil ?_;intro _ hw';obtain⟨nq,hw''⟩:=hw';subst hw'');go_wp2_with fail;go_roundg (ln-(i+1));(case measure=>have:=Ac.out;omega);(case rel=>exact⟨i+1,by omega,rfl,Gn,by rw[tC.out,show lN (true,yn) (false,tmp) ((false,xn),x2)=((false,xn),x2)by unfold lN;rw[if_neg ZG.out],Jg _ _ _ HRI.out];exact HM.out.old (below_drewN _ _),Oy.out⟩)));(·cases yf;(·clear e1;go_upto_region 25 with fail;(refine wp_region_quiet_lit Kr Kr ?_;(repeat(first|(go_big_quiet_want;(refine rQ wr 149 (.tmp 87) Rf g (i*4) Rf [.bool true,.int .i64 (xn:Nat)] _ Vm.out Tryz.underlying149 Rf Kr ?_;go_simp;go_big_quiet_on))|(go_big_quiet_step (fail))));refine wpQuiet_nil ?_;intro _ hw';obtain⟨nq,hw''⟩:=hw';subst hw'');go_wp2_with fail;go_roundg (ln-(i+1));(case measure=>have:=Ac.out;omega);(case rel=>exact⟨i+1,by omega,rfl,Gn,by rw[tC.out,show lN (false,yn) (false,tmp) ((true,xn),x2)=((true,xn),x2)by unfold lN;rw[if_neg ZG.out],Jg _ _ _ HRI.out];exact HM.out.old (below_drewN _ _),Oy.out⟩));(·exact absurd rfl e1)))
        (·obtain rfl:ln=i:=Om;clear dH;(have D4:lM (yf,yn) (false,tmp) ln left=left.map (lN (yf,yn) (false,tmp)):=by unfold lM;rw[aY (by rw[Uu.out];exact aA _),List.drop_eq_nil_of_le (by rw[Uu.out];exact aA _),List.append_nil]);have K0:=Ih (D4▸HM.out);clear D4;go_wp2_with fail;go_roundg (2*(left.map (lN (yf,yn) (false,tmp))).length+(if Al (left.map (lN (yf,yn) (false,tmp)))=true then 0 else 1));(case measure=>have:=HG.out;rw[DZ.out]at this;rw[EE.out.2,aI,if_pos rfl];simp only[Bool.false_eq_true,if_false]at this;omega);(case rel=>exact⟨_,_,_,_,_,rfl,K0.out,EE.out.1⟩))
    (·obtain rfl:ln=0:=Om;have sL:left=[]:=List.eq_nil_of_length_eq_zero Uu.out.symm;subst sL;have hd:=HR.out.done;go_wp2_with fail;(try rw[Exit.noGoto_ret]);go_ret2;exact⟨_,out,rfl,HM.out.out,hd.1,hd.2.1,hd.2.2,HM.out.bel⟩)
structure GN where
 bg:Nat
 copies:Nat
 result:Nat
 slots:Nat
 count:Nat
 pointer:Nat
 address:Nat
 callee:Nat
 saved:Nat
 link:Int
 size:Nat
 b:oJ
 v:BV
 pl:Pl
 vp:Value
 vc:Value
 vr:Value
 vo:Value
 vt:Value
 vu:Value
 os:List Lc
 tl:List Int
 us:List Int
 self:Nat
 base:Nat
def Nz (E:UE) (G:GN) (va vj:Value):List Value:=
 [cW (some ⟨E.bu,0,none⟩),cS dA (G.copies:Nat),cS dA (G.result:Nat),cS dA (G.slots:Nat),cS dA (G.count:Nat),cS dA (G.pointer:Nat),cS dA (G.address:Nat),cS dA (G.callee:Nat),cS dA (G.saved:Nat),cS dA G.link,cS dA (G.size:Nat),
  cU G.b.name,cV G.b.static,cS dA G.b.ty.kind,cU G.b.ty.name,cT G.v.tv.pn G.v.tv.nn G.v.tv.kn,cT G.v.tv.pp G.v.tv.np G.v.tv.kp,cV G.b.ty.many,cS dA G.b.regs,cT G.v.pc G.v.nc G.v.kc,
  cS dA G.pl.result,cS dA G.pl.count,G.vp,G.vc,G.vr,cS dA (G.pl.area:Nat),cS dA (G.pl.extra:Nat),G.vo,G.vt,G.vu,cS dA (G.self:Nat),cS dA (G.base:Nat),va,vj]
structure GenAt (W w:World) (E:UE) (G:GN) (va vj:Value):Prop where
 bel:dG W w
 hB:W.heap.size≤E.B
 sz:E.B≤w.heap.size
 hg:E.B≤G.bg
 box:w.heap[G.bg]? =some (cY (Nz E G va vj).toArray 110 (0,0))
 body:BodAt W G.b G.v
 own:PlAt w E.B G.pl G.vp G.vc G.vr
 locs:w.ownsRow E.B 149 2 G.vo G.os.length (fC G.os)
 tails:w.ownsRow E.B 3 1 G.vt G.tl.length (jR G.tl)
 used:w.ownsRow E.B 3 1 G.vu G.us.length (jR G.us)
section
variable {W w w':World} {E:UE} {G:GN} {va vj:Value}
theorem PlAt.keep {pl:Pl} (h:PlAt w base pl vp vc vr) (f:EFr B chg w w') (h1:94∉chg) (h2:149∉chg) (h3:4∉chg) (h4:3∉chg):PlAt w' base pl vp vc vr:=
 ⟨h.ps.imp fun _ hp=>hp.keep f h1 h2 h3,f.row h.res h4⟩
theorem GenAt.fr (h:GenAt W w E G va vj) (f:EFr E.B chg w w') (hc:∀t∈chg,t∉[110,94,149,4,3]):GenAt W w' E G va vj:=by have g:∀t∈[110,94,149,4,3],t∉chg:=fun t ht hx=>hc t hx ht;exact⟨h.bel.trans ((f.below h.sz).mono h.hB),h.hB,aG h.sz f.size,h.hg,f.obj h.box (g _ Si),h.body,h.own.keep f (g _ Si) (g _ Si) (g _ Si) (g _ Si),f.row h.locs (g _ Si),f.row h.tails (g _ Si),f.row h.used (g _ Si)⟩
theorem GenAt.u (h:GenAt W w E G va vj) (f:EFr E.B eU w w'):GenAt W w' E G va vj:=h.fr f (by unfold eU;decide)
theorem GenAt.old (h:GenAt W w E G va vj) (hb:dG w w'):GenAt W w' E G va vj:=h.fr (chg:=[]) (.of hb) Si
theorem GenAt.cell (h:GenAt W w E G va vj) (i:Nat) (hi:(Nz E G va vj)[i]? =some v):w.cell? ⟨G.bg,i,none⟩=some v:=by rw[cell_of_row w G.bg i _ _ _ h.box];simpa using hi
theorem GenAt.fz (h:GenAt W w E G va vj):∀o,w.frozen? ⟨G.bg,o,none⟩=false:=fun o=>by simp[bN,h.box]
end
theorem dW (h:Below B w w1) (b i:Nat) (v:Value) (hb:B≤b):Below B w (w1.setCell ⟨b,i,none⟩ v):=
 h.trans ⟨rfl,rfl,rfl,by simp[cN],fun k hk=>bV _ _ _ k Sv⟩
def fQ (G:GN) (r:Nat):Lc:=if(G.os.getD r (false,0)).1 then(true,(G.os.getD r (false,0)).2+G.slots)else G.os.getD r (false,0)
theorem uu (l:List Lc) (j:Nat) (h:j<l.length):(fC l)[j*2]? =some (cV (l.getD j (false,0)).1)∧(fC l)[j*2+1]? =some (cS dA ((l.getD j (false,0)).2:Nat)):=by
 induction l generalizing j with
  |nil=>exact absurd h Si
  |cons x l ih=>
   have e:fC (x::l)=[cV x.1,cS dA (x.2:Nat)]++fC l:=by unfold fC;rw[cL];rfl
   cases j with
   |zero=>rw[e];exact⟨rfl,rfl⟩
   |succ j=>
    obtain⟨h1,h2⟩:=ih j (by simpa using h)
    rw[e,List.getD_cons_succ,bD Sv,bD Sv,←h1,←h2]
    exact⟨congrArg _ Sv,congrArg _ Sv⟩
structure xK (G:GN):Prop where
 os:∀l∈G.os,l.2≤300
 slots:G.slots≤600
 size:G.size≤999
theorem pZ {W w:World} {E:UE} {G:GN} {va vj:Value} (h:GenAt W w E G va vj) (sm:xK G) (r:Nat) (hr:r<G.os.length):
 O U 75 #[cW (some ⟨G.bg,0,none⟩),cS dA (r:Nat)] w (RB w (sF (fQ G r))):=by obtain⟨g,gN,TC,sY,sM,-,eS,kE⟩:=eN h.locs Om;obtain⟨q1,q2⟩:=uu G.os r hr;have k1:=kE _ _ q1;have k2:=kE _ _ q2;(have zI:(G.os.getD r (false,0)).2≤300:=by rw[aN,aB hr];exact sm.os _ (aE hr));have lX:=sm.slots;have I3:=h.cell 27 rfl;have c3:=h.cell 3 rfl;rw[TC]at I3;have hbgl:=dB h.box;unfold fQ;obtain⟨x,hx⟩:∃x,x=G.os.getD r (false,0):=⟨_,rfl⟩;rw[←hx]at k1 k2 zI⊢;obtain⟨nl,sX⟩:∃nl,nl=G.os.length:=⟨_,rfl⟩;rw[←sX]at hr I3 sY;obtain⟨sl,Xq⟩:∃sl,sl=G.slots:=⟨_,rfl⟩;rw[←Xq]at c3 lX⊢;obtain⟨bg,zY⟩:∃bg,bg=G.bg:=⟨_,rfl⟩;rw[←zY]at c3 I3 hbgl⊢;obtain⟨s,n⟩:=x;simp only at k1 k2 zI⊢;have ld:(r:Int)<nl:=Om;have qT:(nl:Int)≤gN:=Om;clear h kE TC q1 q2 hx sX Xq zY sm;cases s;(·go_in;go_wp2_with fail;exact bodyPost_ret (v:=cX #[cV false,cS dA (n:Nat)]) (by simp[results,Tryz.results75,go_sem]) rfl ⟨rfl,((aC _ _).alloc (aA _) _).alloc Si _⟩);(·have hw:IntKind.i64.wrap ((n:Int)+(sl:Int))=(n:Int)+(sl:Int):=aX _ Om;go_in;go_wp2_with fail;obtain⟨wL,hwL⟩:∃wL,wL=(w.alloc (cY #[cV false,cS dA 0] 149)).alloc (cY #[cV true,cS dA (n:Nat)] 149):=⟨_,rfl⟩;have jC:Hid (wL.heap[w.heap.size+1]? =some (cY #[cV true,cS dA (n:Nat)] 149 (0,0))):=Ih (by rw[hwL];exact dF w _ _);(have c3':wL.cell? ⟨bg,3,none⟩=some (cS dA (sl:Nat)):=by rw[hwL];exact(((aC w.heap.size w).alloc (aA _) _).alloc Si _).cell hbgl|>.trans c3);have HWL:Hid (dG w wL):=Ih (by rw[hwL];exact((aC w.heap.size w).alloc (aA _) _).alloc Si _);(have BS:wL.heap[w.heap.size]? =some (cY #[cV false,cS dA 0] 149 (0,0)):=by rw[hwL];exact dX _ (heap_alloc_new w _));rw[←hwL];clear hwL;refine dP (fun w'=>w'.heap[w.heap.size+1]? =wL.heap[w.heap.size+1]?∧w'.heap[bg]? =wL.heap[bg]?) [9] [([0,1,2,3,4,5,6,7,8],9)] [] eE Kr (fun _ _ d _ _ h=>by cases d<;>exact h) (⟨rfl,rfl⟩) ?_;intro ι _ F HD HE;have fb:=fun n=>xJ ((HD.out n).1.trans jC.out);have fc:=fun n=>(bT (a:=⟨bg,3,none⟩) (HD.out n).2).trans c3';refine dL ?_;have Z0k:=0;exact V3)
theorem Jd:∀a:Fin 16,mY (Cp.encN 2 (a.val:Nat) 0 0 0)=true∧mY (Cp.encN 20 (a.val:Nat) 0 0 0)=true:=De
theorem xV:mY (Cp.encN 19 0 0 0 0)=true∧mY (Cp.encN 21 0 0 0 0)=true:=De
structure GoodU (ns:Nat) (cs:List Int) (rs:List uN):Prop where
 cl:cs.length≤6000
 rl:rs.length≤cs.length
 ok:∀x∈rs,0≤x.pos∧x.pos<cs.length∧mY (cs.getD x.pos.toNat 0)=true∧0≤x.sym∧x.sym<ns∧0≤x.add∧x.add≤6000
 inc:rs.Pairwise fun x y=>x.pos<y.pos
 u32:∀c∈cs,0≤c∧c≤4294967295
theorem tA {op a b c i:Int} (h:Cp.mayE op a b c i=0):0≤Cp.encN op a b c i∧Cp.encN op a b c i≤4294967295:=by have h1:=Cp.ok_bounds op a b c i h;unfold Cp.encN;omega
theorem BZ {cs:List Int} {j:Int} (h0:0≤j) (h:j<cs.length):(cs++[x]).getD j.toNat 0=cs.getD j.toNat 0:=by rw[aN,aN,List.getElem?_append_left Om]
theorem GoodU.code {cs:List Int} {rs:List uN} (h:GoodU ns cs rs) (hc:cs.length<6000) (hx:0≤x∧x≤4294967295):GoodU ns (cs++[x]) rs:=by refine⟨by simp;omega,by have:=h.rl;simp;omega,fun y hy=>?_,h.inc,fun c hc=>?_⟩;(·obtain⟨h1,h2,h3,h4⟩:=h.ok y hy;exact⟨h1,by simp;omega,by rw[BZ h1 h2];exact h3,h4⟩);(·rcases List.mem_append.1 hc with hc|hc;(·exact h.u32 c hc);(·rw[aK]at hc;rw[hc];exact hx))
theorem GoodU.rel {cs:List Int} {rs:List uN} {sym add:Int} (h:GoodU ns cs rs) (hc:cs.length<6000) (hx:0≤x∧x≤4294967295) (hs:mY x=true) (s1:0≤sym) (s2:sym<ns) (a1:0≤add) (a2:add≤6000):GoodU ns (cs++[x]) (rs++[⟨(cs.length:Nat),sym,add⟩]):=by have g:=h.code hc hx;refine⟨g.cl,by have:=h.rl;simp;omega,fun y hy=>?_,?_,g.u32⟩;(·rcases List.mem_append.1 hy with hy|hy;(·exact g.ok y hy);(·rw[aK]at hy;subst hy;refine⟨by simp,by simp;omega,?_,s1,s2,a1,a2⟩;simp only[Int.toNat_natCast];rw[aN,bD (aA _),Nat.sub_self];exact hs));(·rw[List.pairwise_append];refine⟨h.inc,by simp,fun a ha b hb=>?_⟩;rw[aK]at hb;rw[hb];exact(h.ok a ha).2.1)
def Em (E:UE) (ns n r:Nat) (w:World):Prop:=∃cs rs,UAt w E cs rs∧GoodU ns cs rs∧cs.length=n∧rs.length=r
theorem Em.n {E:UE} {n:Nat} (h:Em E ns n r w):n≤6000∧r≤n:=by obtain⟨cs,rs,_,g,rfl,rfl⟩:=h;exact⟨g.cl,g.rl⟩
theorem Em.old {E:UE} {n:Nat} (h:Em E ns n r w) (hb:dG w w'):Em E ns n r w':=by obtain⟨cs,rs,u,g⟩:=h;exact⟨cs,rs,u.old hb,g⟩
theorem Em.fr {E:UE} {n:Nat} (h:Em E ns n r w) (f:EFr E.B chg w w') (h1:65∉chg) (h2:79∉chg) (h3:74∉chg):Em E ns n r w':=by obtain⟨cs,rs,u,g⟩:=h;exact⟨cs,rs,u.fr f h1 h2 h3,g⟩
theorem Em.box {E:UE} {n:Nat} (h:Em E ns n r w):∃vc vr pc kc pr kr,vc=cT pc n kc∧vr=cT pr r kr∧w.heap[E.bu]? =some (cY #[vc,E.vd,E.vs,vr,E.vm] 65 (0,0)):=by obtain⟨cs,rs,u,g,rfl,rfl⟩:=h;obtain⟨vc,vr,h1,h2,h3⟩:=u.box;obtain⟨pc,kc,rfl,-,-⟩:=dI h2;obtain⟨pr,kr,rfl,-,-⟩:=dI h3;exact⟨_,_,pc,kc,pr,kr,rfl,rfl,h1⟩
def Pend (E:UE) (ns n r:Nat) (sym add:Int) (w:World):Prop:=∃cs rs,UAt w E cs (rs++[⟨(cs.length:Nat),sym,add⟩])∧GoodU ns cs rs∧cs.length=n∧rs.length=r
def Step (E:UE) (ns n r k:Nat) (v:Value) (w:World) (x:Ending) (w':World):Prop:=
 (6000<n+k∧x=uV∧Below E.B w w')∨(x=cZ v∧∃n' r',Em E ns n' r' w'∧n≤n'∧n'≤n+k∧r≤r'∧EFr E.B eU w w')
theorem jX {op a b i:Int} (fL:op=16∨op=17∨op=18) (a1:0≤a) (a2:a≤15) (b1:0≤b) (b2:b≤15) (i1:-32768≤i) (i2:i≤32767):Cp.mayE op a b 0 i=0:=by rcases fL with rfl|rfl|rfl<;>simp[Cp.mayE,Cp.find,Cp.okAll,Cp.okV,Cp.loOf,Cp.hiOf,a1,a2,b1,b2,i1,i2]
theorem qM {op a:Int} (fL:op=19∧a=0∨op=21∧a=0∨op=20∨op=22∨op=23∨op=24∨op=2) (a1:0≤a) (a2:a≤15):Cp.mayE op a 0 0 0=0:=by rcases fL with⟨rfl,rfl⟩|⟨rfl,rfl⟩|rfl|rfl|rfl|rfl|rfl<;>simp[Cp.mayE,Cp.find,Cp.okAll,Cp.okV,Cp.loOf,Cp.hiOf,a1,a2]
theorem Xi {a b:Int} (a1:0≤a) (a2:a≤15) (b1:0≤b) (b2:b≤15):Cp.mayE 1 a b 0 0=0:=by simp[Cp.mayE,Cp.find,Cp.okAll,Cp.okV,Cp.loOf,Cp.hiOf,a1,a2,b1,b2]
theorem B5 {a i:Int} (a1:0≤a) (a2:a≤15) (i1:-32768≤i) (i2:i≤32767):Cp.mayE 2 a 0 0 i=0:=by simp[Cp.mayE,Cp.find,Cp.okAll,Cp.okV,Cp.loOf,Cp.hiOf,a1,a2,i1,i2]
theorem B6 {a i:Int} (a1:0≤a) (a2:a≤15) (i1:0≤i) (i2:i≤65535):Cp.mayE 3 a 0 0 i=0:=by simp[Cp.mayE,Cp.find,Cp.okAll,Cp.okV,Cp.loOf,Cp.hiOf,a1,a2,i1,i2]
theorem Hz {k a b c:Int} (k1:1≤k) (k2:k≤12) (a1:0≤a) (a2:a≤15) (b1:0≤b) (b2:b≤15) (c1:0≤c) (c2:c≤15):Cp.mayE (3+k) a b c 0=0:=by rcases(show k=1∨k=2∨k=3∨k=4∨k=5∨k=6∨k=7∨k=8∨k=9∨k=10∨k=11∨k=12 by omega)with rfl|rfl|rfl|rfl|rfl|rfl|rfl|rfl|rfl|rfl|rfl|rfl<;>simp[Cp.mayE,Cp.find,Cp.okAll,Cp.okV,Cp.loOf,Cp.hiOf,a1,a2,b1,b2,c1,c2]
section
variable {E:UE} {ns n r:Nat} {w:World}
theorem tS (h:Em E ns n r w) (op a b c i:Int) (he:Cp.mayE op a b c i=0):O U 70 #[cW (some ⟨E.bu,0,none⟩),cS dA op,cS dA a,cS dA b,cS dA c,cS dA i] w fun x w'=>Step E ns n r 1 (.tuple #[]) w x w':=by have ZdT:=0;exact V333
theorem xZ {sym add:Int} (h:Pend E ns n r sym add w) (op a:Int) (fL:op=2∨op=19∧a=0∨op=20∨op=21∧a=0) (a1:0≤a) (a2:a≤15) (s1:0≤sym) (s2:sym<ns) (d1:0≤add) (d2:add≤6000):O U 70 #[cW (some ⟨E.bu,0,none⟩),cS dA op,cS dA a,cS dA 0,cS dA 0,cS dA 0] w fun x w'=>(6000<n+1∧x=uV∧Below E.B w w')∨(x=cZ (.tuple #[])∧Em E ns (n+1) (r+1) w'∧EFr E.B eU w w'):=by obtain⟨cs,rs,u,g,rfl,rfl⟩:=h;have he:Cp.mayE op a 0 0 0=0:=qM Om a1 a2;(have hs:mY (Cp.encN op a 0 0 0)=true:=by obtain⟨k,rfl⟩:∃k:Nat,a=k:=⟨a.toNat,by omega⟩;obtain⟨q1,q3⟩:=Jd ⟨k,by omega⟩;rcases fL with rfl|⟨rfl,e⟩|rfl|⟨rfl,e⟩;(·exact q1);(·rw[e];exact xV.1);(·exact q3);(·rw[e];exact xV.2));refine(vF E cs _ op a 0 0 0 w u (by have:=g.cl;omega) ⟨by omega,by omega⟩ he).mono ?_;rintro x w' (⟨h6,hx,hb⟩|⟨h6,hx,hu,hf⟩);(·exact .inl ⟨by omega,hx,hb⟩);(·exact .inr ⟨hx,⟨_,_,hu,g.rel h6 (tA he) hs s1 s2 d1 d2,by simp,by simp⟩,hf⟩)
theorem rP (h:Em E ns n r w) (sym add:Int):O U 83 #[cW (some ⟨E.bu,0,none⟩),cS dA sym,cS dA add] w fun x w'=>x=cZ (.tuple #[])∧Pend E ns n r sym add w'∧EFr E.B eU w w':=by obtain⟨cs,rs,u,g,rfl,rfl⟩:=h;refine(Eg E cs rs sym add w u (by have:=g.cl;have:=g.rl;omega) (by have:=g.cl;omega)).mono ?_;rintro x w' ⟨hx,hu,hf⟩;exact⟨hx,⟨_,_,hu,g,rfl,rfl⟩,hf⟩
end
theorem Xj {E:UE} {G:GN} {n:Nat} (h:GenAt W w E G va vj) (he:Em E ns n r w) (a:Nat) (i:Int) (ha:a≤15) (hi:0≤i∧i≤30000):
 O U 87 #[cW (some ⟨G.bg,0,none⟩),cS dA (a:Nat),cS dA i] w fun x w'=>Step E ns n r 1 (.tuple #[]) w x w':=by have HC:=Ih (tS he 17 (a:Nat) 13 0 i (jX Om Om Om Om Om Om Om));exact V245
theorem Pd {E:UE} {G:GN} {n:Nat} (h:GenAt W w E G va vj) (he:Em E ns n r w) (a:Nat) (i:Int) (ha:a≤15) (hi:0≤i∧i≤30000):
 O U 71 #[cW (some ⟨G.bg,0,none⟩),cS dA (a:Nat),cS dA i] w fun x w'=>Step E ns n r 1 (.tuple #[]) w x w':=by have HC:=Ih (tS he 18 (a:Nat) 13 0 i (jX Om Om Om Om Om Om Om));exact V245
theorem Step.then {E:UE} {n n1 r1:Nat} {x:Ending} (f:EFr E.B eU w w1) (hs:E.B≤w.heap.size) (hn:n≤n1) (hk:n1+k'≤n+k) (hr:r≤r1) (h:Step E ns n1 r1 k' v w1 x w'):Step E ns n r k v w x w':=by rcases h with⟨h6,hx,hb⟩|⟨hx,n',r',he,q1,q2,q3,hf⟩;(·exact .inl ⟨by omega,hx,(f.below hs).trans hb⟩);(·exact .inr ⟨hx,n',r',he,by omega,by omega,by omega,f.trans hf⟩)
def lO (l:Lc) (IA:Nat):Nat:=if l.1 then IA else l.2
theorem kR {G:GN} (sm:xK G) (ok:∀l∈G.os,l.1=false→l.2<12) {q:Nat} (hq:q<G.os.length):((fQ G q).1=false→(fQ G q).2<12)∧(fQ G q).2≤1299:=by(have hm:G.os.getD q (false,0)∈G.os:=by exact V234);have h1:=sm.os _ hm;have h2:=ok _ hm;have h3:=sm.slots;unfold fQ;split;(·exact⟨fun h=>(by cases h),by simp only;omega⟩);(·exact⟨h2,by omega⟩)
theorem Ay {E:UE} {G:GN} (h:GenAt W w E G va vj) (sm:xK G) (q:Nat) (hq:q<G.os.length):
 O U 79 #[cW (some ⟨G.bg,0,none⟩),cS dA (q:Nat)] w (RB w (cS dA (lO (fQ G q) 12:Nat))):=by have HC:=Ih (pZ h sm q hq);unfold sF at HC;obtain⟨l,hl⟩:=Ex (fQ G q);rw[←hl]at HC⊢;obtain⟨s,m⟩:=l;clear h hl sm;go_in;go_wp2_with fail;refine HC.mono ?_;rintro x w1 ⟨rfl,hb⟩;have HB:=Ih (hb.alloc hb.size (cY #[cV s,cS dA (m:Nat)] 149));simp only;cases s;(·go_wp2_with fail;go_ret;exact⟨rfl,HB⟩);(·go_wp2_with fail;go_ret;exact⟨rfl,HB⟩)
theorem S2 {E:UE} {G:GN} {n:Nat} (h:GenAt W w E G va vj) (sm:xK G) (he:Em E ns n r w) (q sc:Nat) (hq:q<G.os.length) (M2:sc≤15):
 O U 82 #[cW (some ⟨G.bg,0,none⟩),cS dA (q:Nat),cS dA (sc:Nat)] w fun x w'=>Step E ns n r 1 (cS dA (lO (fQ G q) sc:Nat)) w x w':=by have HC:=Ih (pZ h sm q hq);have sL:=h.sz;(have Ie:(fQ G q).2≤1299:=by(have hm:G.os.getD q (false,0)∈G.os:=by exact V234);have h1:=sm.os _ hm;have h3:=sm.slots;unfold fQ;split;(·simp only;omega);(·omega));have HL:Hid (∀w',dG w w'→∀m:Nat,m≤1299→O U 87 #[cW (some ⟨G.bg,0,none⟩),cS dA (sc:Nat),cS dA (m:Nat)] w' fun x gL=>Step E ns n r 1 (.tuple #[]) w' x gL):=Ih fun w' hb m hm=>Xj (h.old hb) (he.old hb) sc m M2 Om;have HE:=Ih he;have HN:=Ih he.n.1;unfold sF at HC;obtain⟨l,hl⟩:=Ex (fQ G q);rw[←hl]at HC Ie⊢;obtain⟨s,m⟩:=l;obtain⟨bg,zY⟩:=Ex G.bg;rw[←zY]at HC HL⊢;clear h hl sm he zY;simp only at Ie;go_in;go_wp2_with fail;refine HC.mono ?_;rintro x w1 ⟨rfl,hb⟩;have HB:=Ih (hb.alloc hb.size (cY #[cV s,cS dA (m:Nat)] 149));clear hb;simp only;cases s;(·go_wp2_with fail;go_ret;exact .inr ⟨rfl,n,r,HE.old HB,aA _,by omega,aA _,.of HB⟩);(·go_wp2_with fail;refine(HL _ HB m Ie).mono ?_;rintro x w2 hs;have HS:=Ih (Step.then (k:=1) (.of HB) sL (aA _) (aA _) (aA _) hs);rcases hs with⟨h6,rfl,kO⟩|⟨rfl,hs⟩;(·have:=HS;exact⟨rfl,.inl ⟨h6,rfl,by rcases this with h|⟨h,_⟩;exact h.2.2;cases h⟩⟩);(·clear hs;go_wp2_with fail;go_ret;rcases HS with⟨_,h,_⟩|⟨_,h⟩;(·cases h);(·exact .inr ⟨rfl,h⟩)))
def Far (E:UE) (ns n r k:Nat) (w w':World):Prop:=∃n' r',Em E ns n' r' w'∧n≤n'∧n'≤n+k∧r≤r'∧EFr E.B eU w w'
section
variable {E:UE} {ns n r k k':Nat} {w wr w':World}
theorem Far.refl (h:Em E ns n r w):Far E ns n r 0 w w:=⟨n,r,h,aA _,aA _,aA _,.refl _ _ _⟩
theorem Far.fr (h:Far E ns n r k w wr):EFr E.B eU w wr:=by obtain⟨_,_,_,_,_,_,h⟩:=h;exact h
theorem Far.mono (h:Far E ns n r k w wr) (hk:k≤k'):Far E ns n r k' w wr:=by obtain⟨n',r',h1,h2,h3,h4,h5⟩:=h;exact⟨n',r',h1,h2,by omega,h4,h5⟩
theorem Far.old (h:Far E ns n r k w wr) (hb:dG wr w'):Far E ns n r k w w':=by obtain⟨n',r',h1,h2,h3,h4,h5⟩:=h;exact⟨n',r',h1.old hb,h2,h3,h4,h5.trans (.of hb)⟩
theorem Far.done (h:Far E ns n r k w w'):Step E ns n r k v w (cZ v) w':=.inr ⟨rfl,h⟩
theorem Far.call {f:FuncId} {args:Array Value} (h:Far E ns n r k w wr) (hs:E.B≤w.heap.size) (hc:∀n' r',Em E ns n' r' wr→Calls P f args wr (Step E ns n' r' k' v wr)):
 Calls P f args wr fun x w'=>(6000<n+(k+k')∧x=uV∧Below E.B w w')∨(x=cZ v∧Far E ns n r (k+k') w w'∧EFr E.B eU wr w'):=by obtain⟨n',r',h1,h2,h3,h4,h5⟩:=h;refine(hc n' r' h1).mono ?_;rintro x w' (⟨h6,hx,hb⟩|⟨hx,n2,r2,q1,q2,q3,q4,q5⟩);(·exact .inl ⟨by omega,hx,(h5.below hs).trans hb⟩);(·exact .inr ⟨hx,⟨n2,r2,q1,by omega,by omega,by omega,h5.trans q5⟩,q5⟩)
theorem Far.em (h:Far E ns n r k w wr):∃n' r',Em E ns n' r' wr∧n≤n'∧n'≤n+k∧r≤r':=by obtain⟨n',r',h1,h2,h3,h4,h5⟩:=h;exact⟨n',r',h1,h2,h3,h4⟩
end
theorem X9 {E:UE} {G:GN} {n:Nat} (h:GenAt W w E G va vj) (sm:xK G) (ok:∀l∈G.os,l.1=false→l.2<12) (he:Em E ns n r w) (q a:Nat) (hq:q<G.os.length) (ha:a≤15):
 O U 81 #[cW (some ⟨G.bg,0,none⟩),cS dA (q:Nat),cS dA (a:Nat)] w fun x w'=>Step E ns n r 1 (.tuple #[]) w x w':=by have HC:=Ih (pZ h sm q hq);have sL:=h.sz;obtain⟨hm1,Ie⟩:=kR sm ok hq;have HL:Hid (∀w',Far E ns n r 0 w w'→∀m:Nat,m≤1299→O U 71 #[cW (some ⟨G.bg,0,none⟩),cS dA (a:Nat),cS dA (m:Nat)] w' fun x gL=>(6000<n+(0+1)∧x=uV∧Below E.B w gL)∨(x=cZ (.tuple #[])∧Far E ns n r (0+1) w gL∧EFr E.B eU w' gL)):=Ih fun w' hb m hm=>hb.call sL fun n' r' e=>Pd (h.u hb.fr) e a m ha Om;have HP:Hid (∀w',Far E ns n r 0 w w'→∀m:Nat,m<12→O U 70 #[cW (some ⟨E.bu,0,none⟩),cS dA 1,cS dA (m:Nat),cS dA (a:Nat),cS dA 0,cS dA 0] w' fun x gL=>(6000<n+(0+1)∧x=uV∧Below E.B w gL)∨(x=cZ (.tuple #[])∧Far E ns n r (0+1) w gL∧EFr E.B eU w' gL)):=Ih fun w' hb m hm=>hb.call sL fun n' r' e=>tS e 1 m a 0 0 (Xi Om Om Om Om);have HF:=Ih (Far.refl he);have HG:Hid (∀w',Far E ns n r 0 w w'→w'.cell? ⟨G.bg,0,none⟩=some (cW (some ⟨E.bu,0,none⟩))∧G.bg<w'.heap.size):=Ih fun w' hb=>⟨(h.u hb.fr).cell 0 rfl,dB (h.u hb.fr).box⟩;unfold sF at HC;obtain⟨l,hl⟩:=Ex (fQ G q);rw[←hl]at HC hm1 Ie;obtain⟨s,m⟩:=l;obtain⟨bg,zY⟩:=Ex G.bg;rw[←zY]at HC HL HG⊢;clear h hl sm he zY;simp only at hm1 Ie;go_in;go_wp2_with fail;refine HC.mono ?_;rintro x w1 ⟨rfl,hb⟩;have Rq:=Ih (HF.old (hb.alloc hb.size (cY #[cV s,cS dA (m:Nat)] 149)));have eH:Hid ((w1.alloc (cY #[cV s,cS dA (m:Nat)] 149)).heap[w1.heap.size]? =some (cY #[cV s,cS dA (m:Nat)] 149 (0,0))):=Ih (heap_alloc_new _ _);have c0:=(HG _ Rq).1;obtain⟨wA,gA⟩:=Ex (w1.alloc (cY #[cV s,cS dA (m:Nat)] 149));obtain⟨b1,kF⟩:=Ex w1.heap.size;rw[←gA]at Rq eH c0;rw[←kF]at eH;have HW:=Ih gA;have lK:=Ih kF;clear hb HF HC gA kF;cases s;(·have PY:=hm1 rfl;by_cases e:m=a;(·subst e;go_wp2_with fail;go_end0;rw[←HW.out];exact(Rq.mono (aJ _)).done);(·have e1:¬(m:Int)=(a:Int):=Om;go_wp2_with fail;rw[←HW.out,←lK.out];have z0:=xJ eH;have hU:=dB eH;refine eQ 7 eE Kr ?_;have Z1P:=0;exact V19));(·go_wp2_with fail;rw[←HW.out];refine(HL _ Rq m Ie).mono ?_;exact V147)
theorem Uh {E:UE} {G:GN} {n:Nat} (h:GenAt W w E G va vj) (he:Em E ns n r w) (a:Nat) (ha:a≤15) (i:Int):
 O U 80 #[cW (some ⟨G.bg,0,none⟩),cS dA (a:Nat),cS .i32 i] w fun x w'=>Step E ns n r 2 (.tuple #[]) w x w':=by have sL:=h.sz;(have hw16:-32768≤IntKind.i16.wrap i∧IntKind.i16.wrap i≤32767:=by simp[IntKind.wrap,IntKind.bits,IntKind.signed];omega);have HP:Hid (∀w' k,Far E ns n r k w w'→∀j:Int,-32768≤j→j≤32767→O U 70 #[cW (some ⟨E.bu,0,none⟩),cS dA 2,cS dA (a:Nat),cS dA 0,cS dA 0,cS dA j] w' fun x gL=>(6000<n+(k+1)∧x=uV∧Below E.B w gL)∨(x=cZ (.tuple #[])∧Far E ns n r (k+1) w gL∧EFr E.B eU w' gL)):=Ih fun w' k hb j j1 j2=>hb.call sL fun n' r' e=>tS e 2 a 0 0 j (B5 Om Om j1 j2);have HQ:Hid (∀w' k,Far E ns n r k w w'→∀j:Int,0≤j→j≤65535→O U 70 #[cW (some ⟨E.bu,0,none⟩),cS dA 3,cS dA (a:Nat),cS dA 0,cS dA 0,cS dA j] w' fun x gL=>(6000<n+(k+1)∧x=uV∧Below E.B w gL)∨(x=cZ (.tuple #[])∧Far E ns n r (k+1) w gL∧EFr E.B eU w' gL)):=Ih fun w' k hb j j1 j2=>hb.call sL fun n' r' e=>tS e 3 a 0 0 j (B6 Om Om j1 j2);have HF:=Ih (Far.refl he);have HG:Hid (∀w' k,Far E ns n r k w w'→w'.cell? ⟨G.bg,0,none⟩=some (cW (some ⟨E.bu,0,none⟩))∧G.bg<w'.heap.size):=Ih fun w' k hb=>⟨(h.u hb.fr).cell 0 rfl,dB (h.u hb.fr).box⟩;obtain⟨c0,-⟩:=HG _ _ HF;obtain⟨bg,zY⟩:=Ex G.bg;rw[←zY]at HG c0⊢;clear h he zY;go_in;go_wp2_with fail;refine(HP _ _ HF _ hw16.1 hw16.2).mono ?_;rintro x w1 (⟨h6,rfl,hb⟩|⟨rfl,hf,-⟩);(·exact⟨rfl,.inl ⟨by omega,rfl,hb⟩⟩);have Rq:=Ih hf;obtain⟨d0,-⟩:=HG _ _ hf;clear hf c0;by_cases e:i=IntKind.i16.wrap i;(·(have e1:(i !=IntKind.i16.wrap i)=false:=by simpa using e);clear e;go_wp2_with fail;go_end0;exact(Rq.mono Om).done);(·go_wp2_with fail;refine(HQ _ _ Rq _ Om Om).mono ?_;exact V147)
end
end Go.Proofs.YtfbmaffacikgbaaGreat
