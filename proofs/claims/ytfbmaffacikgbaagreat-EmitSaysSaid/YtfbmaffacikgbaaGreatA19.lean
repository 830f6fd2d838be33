/- A part of the proof of EmitSays. -/
import Derived.Test.YtfbmaffacikgbaaGreatA18
set_option maxRecDepth 100000
set_option maxHeartbeats 4000000
set_option linter.unusedVariables false
set_option linter.unusedSimpArgs false
open Go renaming Calls→O
open Go.Proofs.Tryz renaming prog→U
open Nat renaming le_refl→aA,lt_of_lt_of_le→aF,le_trans→aG,zero_le→aJ
open List renaming getElem?_eq_getElem→aB,length_append→aD,getElem_mem→aE,length_map→aI,mem_singleton→aK,take_succ_eq_append_getElem→aL,length_cons→aM,getD_eq_getElem?_getD→aN,length_take→aO,mem_cons_of_mem→aP,map_append→aS,length_nil→aT,mem_cons_self→aU,take_of_length_le→aY,not_mem_nil→aZ,map_cons→bC,mem_cons→bF,getElem?_map→bH,cons_append→bI,nil_append→bJ,append_assoc→bP,set_cons_succ→bS,setIfInBounds_toArray→bX,mem_singleton_self→bY,set_cons_zero→bZ,replicate→cC,all_eq_true→cJ,flatMap_cons→cL,map_nil→cM,length_set→cQ
open Go.RowKit.Below renaming refl→aC,heap_setCell→bV
open Go.World renaming alloc_heap_new→aH,ownsRow_nil→bE,frozen?→bN,cell?_of_block→bT,setCell→cN
open Go.Lib renaming alloc_old→aR
open Bool renaming and_eq_true→aV
open Go.Value renaming slice→aW,int→bL,string→cE
open Go.IntWalk renaming i64_in→aX
open Go.Proofs.Tryz renaming underlying3→bG,underlying9→bW
open And renaming intro→bM
open Go.Value renaming int→cS
open Go.Value renaming slice→cT
open Go.Value renaming string→cU
open Go.Value renaming bool→cV
open Go.Value renaming pointer→cW
open Go.Value renaming agg→cX
open Go.Obj renaming cells→cY
open Go.Ending renaming returned→cZ
open Go.IntKind renaming i64→dA
namespace Go.Proofs.YtfbmaffacikgbaaGreat
variable {w W w' wx:World} {B r k ns i base size d k' bg b:Nat} {v va vj v1 v0 v2 vc vr v':Value} {e:TypeId} {chg:List TypeId} {vs:List Value} {l:List Int} {a:Act} {P:Program} {pc pr:Option Addr} {L:List (List Int)} {cs:Array Value} {s:ByteArray} {mx x:Int}
section
open Go.RowKit Go.Shelf Ob Ty
structure Hd (G:GN) (lv:Nat→Prop):Prop where
 st:∀q,q<G.os.length→(fQ G q).1=true→(fQ G q).2<G.count
 cp:0≤G.pl.count→G.count<G.pointer
 pa:0≤G.pl.result→G.pointer<G.address
 c1:G.count≤G.pointer
 c2:G.pointer≤G.address
 ad:G.address≤900
 ap:∀x y,lv x→lv y→x≠y→fQ G x≠fQ G y
 li:∀x,lv x→x<G.os.length
theorem Lq (t:T):(dC t).count≤1∧(0≤(dC t).count→t.many=true)∧(dC t).result≤0∧-1≤(dC t).count∧-1≤(dC t).result:=by have h1:(dC t).count=(iZ t).1:=rfl;have h2:(dC t).result=(mS t).1:=rfl;rw[h1,h2];unfold iZ mS;cases t.many<;>by_cases h:2<mH t<;>simp[h]
theorem enLay {G:GN} {lv:Nat→Prop} {ar cp rs sl ce lk:Nat} (h:Up G ar cp rs sl ce lk) (iU:G.pl=dC G.b.ty) (ap:∀x y:Nat,lv x→lv y→x≠y→wY G.os (x:Int)≠wY G.os (y:Int)) (li:∀x,lv x→x<G.os.length):Hd G lv:=by have e4:=h.e4;have e5:=h.e5;have e6:=h.e6;have e1:=h.e1;have e2:=h.e2;have e3:=h.e3;have ha:=h.a;have hc:=h.c;have hr:=h.r;have hs:=h.s;refine⟨fun q hq h1=>?_,fun h1=>?_,fun h1=>?_,by split at e5<;>omega,by split at e6<;>omega,by split at e5<;>split at e6<;>omega,fun x y hx hy fM=>Gm (ap x y hx hy fM),li⟩;(·(have hm:G.os.getD q (false,0)∈G.os:=by exact V234);unfold fQ at h1⊢;split at h1;(·rename_i h2;rw[if_pos h2];have:=h.hs _ hm h2;simp only;omega);(·rename_i h2;exact absurd h1 h2));(·rw[iU]at h1;rw[if_pos ((Lq _).2.1 h1)]at e5;omega);(·rw[if_pos h1]at e6;omega)
def TgOk (G:GN) (lv:Nat→Prop) (i R:Nat) (t:Lc):Prop:=(t=(true,G.pointer)∧0≤G.pl.result)∨(t=(true,G.count)∧0≤G.pl.count)∨(∃j,j<i∧t=(true,G.address+j))∨(∃q,q<R∧lv q∧t=fQ G q)
section
variable {G:GN} {lv:Nat→Prop} {i R i' R':Nat} {t:Lc} {ms:List Mv}
theorem TgOk.mono (h:TgOk G lv i R t) (hi:i≤i') (hr:R≤R'):TgOk G lv i' R' t:=by rcases h with h|h|⟨j,h1,h2⟩|⟨q,h1,h2⟩;(·exact .inl h);(·exact .inr (.inl h));(·exact .inr (.inr (.inl ⟨j,by omega,h2⟩)));(·exact .inr (.inr (.inr ⟨q,by omega,h2⟩)))
theorem TgOk.addr (L:Hd G lv) (h:TgOk G lv i R t):t≠(true,G.address+i):=by have c1:=L.c1;have c2:=L.c2;intro e;rcases h with⟨h,h1⟩|⟨h,h1⟩|⟨j,h1,h⟩|⟨q,h1,h2,h⟩;(·have:=L.pa h1;rw[e]at h;injection h with _ h;omega);(·have:=L.cp h1;rw[e]at h;injection h with _ h;omega);(·rw[e]at h;injection h with _ h;omega);(·have:=L.st q (L.li q h2) (by rw[←h,e]);rw[←h,e]at this;simp only at this;omega)
theorem TgOk.home (L:Hd G lv) (h:TgOk G lv i R t) (hR:lv R):t≠fQ G R:=by have c1:=L.c1;have c2:=L.c2;intro e;rcases h with⟨h,h1⟩|⟨h,h1⟩|⟨j,h1,h⟩|⟨q,h1,h2,h⟩;(·exact V322);(·exact V322);(·exact V322);(·exact L.ap q R h2 hR Om (h.symm.trans e))
structure EnM (G:GN) (lv:Nat→Prop) (i R:Nat) (ms:List Mv):Prop where
 m1:∀m∈ms,(IsPl m.1∧IsPl m.2)∧m.1≠(false,12)∧m.2≠(false,12)
 m2:∀m∈ms,TgOk G lv i R m.2
 nd:(ms.map (·.2)).Nodup
 len:ms.length≤2+R
theorem EnM.mono (h:EnM G lv i R ms) (hi:i≤i') (hr:R≤R'):EnM G lv i' R' ms:=
 ⟨h.m1,fun m hm=>(h.m2 m hm).mono hi hr,h.nd,by have:=h.len;omega⟩
theorem EnM.snoc (h:EnM G lv i R ms) {m:Mv} (hi:i≤i') (hm:(IsPl m.1∧IsPl m.2)∧m.1≠(false,12)∧m.2≠(false,12)) (fM:∀t,TgOk G lv i R t→t≠m.2) (ht:TgOk G lv i' (R+1) m.2):EnM G lv i' (R+1) (ms++[m]):=by refine⟨fun x hx=>?_,fun x hx=>?_,?_,by have:=h.len;rw[aD];simp;omega⟩;(·rcases List.mem_append.1 hx with hx|hx;(·exact h.m1 x hx);(·rw[aK]at hx;rw[hx];exact hm));(·rcases List.mem_append.1 hx with hx|hx;(·exact(h.m2 x hx).mono hi Om);(·rw[aK]at hx;rw[hx];exact ht));(·rw[aS,List.nodup_append];refine⟨h.nd,by simp,fun a ha b hb e=>?_⟩;obtain⟨x,hx,rfl⟩:=List.mem_map.1 ha;simp only[bC,cM,aK]at hb;exact fM _ (h.m2 x hx) (e.trans hb))
theorem EnM.addr (L:Hd G lv) (h:EnM G lv i R ms) {l:Lc} (hl:IsPl l∧l≠(false,12)) (hi:i≤50):EnM G lv (i+1) (R+1) (ms++[(l,(true,G.address+i))]):=by have:=L.ad;exact h.snoc (Nat.le_succ _) ⟨⟨hl.1,⟨fun _=>by simp only;omega,fun h=>(by cases h)⟩⟩,hl.2,by simp⟩ (fun t ht=>ht.addr L) (.inr (.inr (.inl ⟨i,by omega,rfl⟩)))
theorem EnM.home (L:Hd G lv) (h:EnM G lv i R ms) (sm:xK G) (ok:∀l∈G.os,l.1=false→l.2<12) {l:Lc} (hl:IsPl l∧l≠(false,12)) (hR:lv R):EnM G lv i (R+1) (ms++[(l,fQ G R)]):=by obtain⟨h1,h2⟩:=uA sm ok (L.li R hR);exact h.snoc (aA _) ⟨⟨hl.1,h1⟩,hl.2,h2⟩ (fun t ht=>ht.home L hR) (.inr (.inr (.inr ⟨R,by omega,hR,rfl⟩)))
theorem EnM.begun (L:Hd G lv) (iU:G.pl=dC G.b.ty):EnM G lv 0 0 (Fb G.pl.count G.count (Fb G.pl.result G.pointer [])):=by obtain⟨h1,h2,h3,h4,h5⟩:=Lq G.b.ty;have c1:=L.c1;have c2:=L.c2;have ad:=L.ad;have Bw:=L.cp;rw[←iU]at h1 h2 h3 h4 h5;unfold Fb;by_cases hr:0≤G.pl.result<;>by_cases hc:0≤G.pl.count;(·rw[if_pos hr,if_pos hc];have:=Bw hc;refine⟨fun m hm=>?_,fun m hm=>?_,?_,by simp⟩;(·have Zdj:=0;exact V310);(·have Zdk:=0;exact V310);(·simp;omega));(·rw[if_pos hr,if_neg hc];refine⟨fun m hm=>?_,fun m hm=>?_,by simp,by simp⟩;(·have Zdl:=0;exact V310);(·have Zdm:=0;exact V310));(·rw[if_neg hr,if_pos hc];refine⟨fun m hm=>?_,fun m hm=>?_,by simp,by simp⟩;(·have Zdl:=0;exact V310);(·have Zdn:=0;exact V310));(·rw[if_neg hr,if_neg hc];exact⟨fun m h=>(by cases h),fun m h=>(by cases h),List.nodup_nil,by simp⟩)
end
theorem RX {ι:Type} {F:ι→World} {gb vK:Nat} (h0:∀n,(F n).cell? ⟨gb,vK,none⟩=some v0) (h1:∀n,(F n).cell? ⟨gb,vK+1,none⟩=some v1):∀n,(F n).rangeAt gb vK [v0,v1]:=fun n j u hu=>by
 match j,hu with
 |0,hu=>injection hu with hu;rw[←hu];exact h0 n
 |1,hu=>injection hu with hu;rw[←hu];exact h1 n
theorem T0 {sz:Nat} {l:Lc} (h1:l.1=false→l.2<4) (h2:l.2≤40) (hs:sz≤900):IsPl (pW sz l)∧pW sz l≠(false,12):=by obtain⟨s,n⟩:=l;simp only at h1 h2;unfold pW;cases s;(·have:=h1 rfl;refine⟨⟨fun h=>(by simp at h),fun _=>by simp;omega⟩,by simp;omega⟩);(·refine⟨⟨fun _=>by simp;omega,fun h=>(by simp at h)⟩,by simp⟩)
theorem iA {b:oJ} (h:nV b=true):mL b.ty=true∧((eR b.ty:Nat):Int)≤b.regs∧b.regs≤8000∧1≤b.code.length∧b.code.length≤6000∧(∀o∈b.code,eD b o=true)∧(kM b.code=9∨kM b.code=12):=by unfold nV at h;simp only[aV,Bool.or_eq_true,decide_eq_true_eq,cJ]at h;obtain⟨⟨⟨⟨⟨⟨⟨⟨-,h1⟩,h2⟩,h3⟩,h4⟩,h5⟩,h6⟩,h7⟩,h8⟩:=h;exact⟨by unfold mL;simp[h1,h2],h3,h4,h5,h6,h7,h8⟩
theorem Re {b:oJ} (h:nV b=true):∀(i:Nat) (o:Ord),b.code[i]? =some o→∀k∈jD o i,0≤k∧k<b.code.length:=fun i o ho k hk=>by
 obtain⟨-,-,-,h1,-,eT,uD⟩:=iA h
 have hi:i<b.code.length:=(List.getElem?_eq_some_iff.1 ho).1
 obtain⟨-,-,hp⟩:=kH (eT o (List.mem_of_getElem? ho))
 have hn:o.op≠9→o.op≠12→i+1<b.code.length:=fun h9 PY=>by
  by_cases e:i+1=b.code.length
  ·exfalso
   unfold kM at uD
   rw[show b.code.length-1=i by omega,ho]at uD
   simp only at uD
   omega
  ·omega
 unfold jD at hk
 by_cases e12:o.op=12
 ·rw[if_pos e12]at hk;cases hk
 rw[if_neg e12]at hk
 by_cases e9:o.op=9
 ·rw[if_pos e9,aK]at hk
  subst hk
  rcases hp with h|h|h|h|h|h|h|h|h|h|h|h|h<;>first|(exact⟨h.2.2.2.1,h.2.2.2.2⟩)|omega
 rw[if_neg e9]at hk
 have:=hn e9 e12
 by_cases e10:o.op=10
 ·rw[if_pos e10]at hk
  simp only[bF,aZ,or_false]at hk
  rcases hk with rfl|rfl
  ·omega
  ·rcases hp with h|h|h|h|h|h|h|h|h|h|h|h|h<;>first|(exact⟨h.2.2.2.1,h.2.2.2.2⟩)|omega
 ·rw[if_neg e10,aK]at hk
  omega
theorem CU {b:oJ} (h:nV b=true):∀(i:Nat) (o:Ord),b.code[i]? =some o→∀r∈o.s,Cb b.regs r:=fun i o ho r hr=>Tc (kH ((iA h).2.2.2.2.2.1 o (List.mem_of_getElem? ho))).2.1 r hr
theorem bod_d {b:oJ} (h:nV b=true):∀(i:Nat) (o:Ord),b.code[i]? =some o→∀r∈o.d,Cb b.regs r:=fun i o ho r hr=>Tc (kH ((iA h).2.2.2.2.2.1 o (List.mem_of_getElem? ho))).1 r hr
structure EnS (w wx:World) (E:UE) (ns n r k bq bl lb Js bg:Nat) (Iz:Value) (ms:List Mv) (L:List Int):Prop where
 far:Far E ns n r k w wx
 sz:E.B≤w.heap.size
 xq:wx.heap[bq]? =some (cY #[cW (some ⟨bg,0,none⟩)] 105 (0,0))
 xl:wx.heap[bl]? =some (cY #[Iz] 173 (0,0))
 bl1:w.heap.size≤bl
 rms:wx.ownsRow w.heap.size 175 4 Iz ms.length (dK ms)
 set:fR wx lb Js L
theorem Ta {lb n:Nat} {L:List Int} (h:fR w lb n L) (f:EFr B chg w w'):fR w' lb n L:=by obtain⟨kF,eL⟩:=dS h;obtain⟨o,ho⟩:∃o,w.heap[lb]? =some o:=⟨_,Array.getElem?_eq_getElem kF⟩;exact gT h ((f.map ho fun cs t fz e=>eL cs t fz (by rw[ho,e])).trans ho.symm)
section
variable {w wx w':World} {E:UE} {ns n r k k' bq bl lb Js bg:Nat} {Iz v':Value} {ms:List Mv} {L:List Int}
theorem EnS.fr (h:EnS w wx E ns n r k bq bl lb Js bg Iz ms L) (f:EFr B chg wx w') (hf:Far E ns n r k' w w') (hc:∀t∈[105,173,175],t∉chg):EnS w w' E ns n r k' bq bl lb Js bg Iz ms L:=
 ⟨hf,h.sz,f.obj h.xq (hc _ Si),f.obj h.xl (hc _ Si),h.bl1,f.row h.rms (hc _ Si),Ta h.set f⟩
theorem EnS.old (h:EnS w wx E ns n r k bq bl lb Js bg Iz ms L) (hb:dG wx w'):EnS w w' E ns n r k bq bl lb Js bg Iz ms L:=
 h.fr (B:=0) (chg:=[]) (.of hb) (h.far.old hb) Si
theorem EnS.emit (h:EnS w wx E ns n r k bq bl lb Js bg Iz ms L) (hf:Far E ns n r k' w w') (f:EFr E.B eU wx w'):EnS w w' E ns n r k' bq bl lb Js bg Iz ms L:=h.fr f hf (by unfold eU;decide)
theorem EnS.turn (h:EnS w wx E ns n r k bq bl lb Js bg Iz ms L) {ms':List Mv} (f:EFr w.heap.size [175,173] wx w') (hx:w'.heap[bl]? =some (cY #[v'] 173 (0,0))) (hr:w'.ownsRow w.heap.size 175 4 v' ms'.length (dK ms')):EnS w w' E ns n r k bq bl lb Js bg v' ms' L:=
 ⟨h.far.loc h.sz f De De De,h.sz,f.obj h.xq De,hx,h.bl1,hr,Ta h.set f⟩
theorem EnS.facts (h:EnS w wx E ns n r k bq bl lb Js bg Iz ms L) {ι:Type} {F:ι→World} (HD:Hid (∀n,EFr w.heap.size [175] wx (F n))):∀n,(F n).cell? ⟨bq,0,none⟩=some (cW (some ⟨bg,0,none⟩))∧bq<(F n).heap.size∧(F n).cell? ⟨bl,0,none⟩=some Iz∧bl<(F n).heap.size:=fun n=>
 ⟨(dE ((HD n).obj h.xq De)).1,dB ((HD n).obj h.xq De),(dE ((HD n).obj h.xl De)).1,dB ((HD n).obj h.xl De)⟩
theorem Pn {g2 gb vK:Nat} {ι:Type} {F:ι→World} (HD:Hid (∀n,EFr B [175] wx (F n))) {cs2 csb:Array Value} (h2:wx.heap[g2]? =some (cY cs2 94 (0,0))) (hb:wx.heap[gb]? =some (cY csb 149 (0,0))) (k1:wx.cell? ⟨g2,i,none⟩=some v2) (k6:wx.cell? ⟨gb,vK,none⟩=some v0) (k7:wx.cell? ⟨gb,vK+1,none⟩=some v1):
 (∀n,(F n).cell? ⟨g2,i,none⟩=some v2∧g2<(F n).heap.size)∧Hid (∀n,(F n).rangeAt gb vK [v0,v1]):=
 ⟨fun n=>⟨(bT (((HD n).obj h2 De).trans h2.symm)).trans k1,dB ((HD n).obj h2 De)⟩,Ih (RX (fun n=>(bT (((HD n).obj hb De).trans hb.symm)).trans k6) (fun n=>(bT (((HD n).obj hb De).trans hb.symm)).trans k7))⟩
theorem EnS.app (h:EnS w wx E ns n r k bq bl lb Js bg Iz ms L) {m:Mv} {w5:World} (ha:App wx w5 w.heap.size 175 4 Iz v' ms.length (dK ms) (fB m)):EnS w (w5.setCell ⟨bl,0,none⟩ v') E ns n r k bq bl lb Js bg v' (ms++[m]) L:=by have f5:EFr w.heap.size [175] wx w5:=ha.fr h.rms (aA _) (bY _);have x5:=f5.obj h.xl De;have fs:EFr w.heap.size [173] w5 (w5.setCell ⟨bl,0,none⟩ v'):=EFr.set x5 h.bl1 (bY _) 0 _;refine h.turn ((f5.mono Si).trans (fs.mono Si)) (eF x5 0 v') ?_;rw[aD,fF];(have e:dK [m]=fB m:=by unfold dK;simp);rw[e];exact fs.row ha.own De
end
theorem G5 {E:UE} {G:GN} {n:Nat} (h:GenAt W w E G va vj) (sm:xK G) (ok:∀l∈G.os,l.1=false→l.2<12) (gu:L3 G) (he:Em E ns n r w) (mx:Int) (hmx:Mx mx W) (pL:nV G.b=true) (iU:G.pl=dC G.b.ty) (regs:Nat) (kC:G.b.regs=(regs:Nat)) (iS:regs≤200) (gQ:G.v.nc≤200) (Id:G.os.length=regs) (hL:Hd G (fun q=>Live G.b.code 0 (q:Int))) (OK:G.size≤900):
 O U 32 #[cW (some ⟨G.bg,0,none⟩)] w fun x w'=>Step E ns n r (16+6*regs) (.tuple #[]) w x w':=by obtain⟨hf,Tn,-,sY,-,eT,-⟩:=iA pL;have HG:=Ih h;have nM:=Ih sm;have rC:=Ih ok;have tm:=Ih gu;have nN:=Ih hmx;have HLY:=Ih hL;have Hc:=Ih (Far.refl he);have Dr:=gu.ul;have hsv:=gu.sv;have Nu:=gu.lk;have hsz9:=sm.size;have gO:=h.sz;have had:=hL.ad;obtain⟨P,hP⟩:∃P,P=eR G.b.ty:=⟨_,rfl⟩;(have hPr:P≤regs:=by rw[hP];omega);have HP:=Ih hP;(have hP72:P≤72:=by(have hi:(dT G.b.ty).length≤6:=by have:=fY hf;unfold dT;rw[aO];omega);rw[hP,←xY G.b.ty rfl];exact Fy G.b.ty hi);have Vm:Hid (regs=G.os.length):=Ih Id.symm;have Z8S:=0;exact V187
def ry:Prop:=∀(b:oJ) (v:BV) (mx:Int) (w:World),BodAt w b v→Mx mx w→nV b=true→v.nc≤200→
 O U 29 #[gG v b] w fun x w'=>∃vt tl,x=cZ (.tuple #[vt,cS dA 0])∧w'.ownsRow w.heap.size 3 1 vt tl.length (jR tl)∧tl.length≤100000∧dG w w'
def I0:List TypeId:=41::lI
def mQ (l:List lF):List Value:=l.flatMap pU
theorem Eb (l:List lF):(mQ l).length=l.length*7:=by
 induction l with
  |nil=>rfl
  |cons x l ih=>unfold mQ at ih⊢;rw[cL,aD,ih,aM];show 7+_=_;omega
theorem uZ (x:lF) (l:List lF):mQ (x::l)=pU x++mQ l:=by unfold mQ;rw[cL]
theorem vE (x:uN) (l:List uN):oS (x::l)=mR x++oS l:=by unfold oS;rw[cL]
theorem o6 (l:List uN):∀(q:Nat) (h:q<l.length) (a:Int),(oS l).set (q*3+2) (cS dA a)=oS (l.set q {l[q]with add:=a}):=by
 induction l with
  |nil=>intro q h;exact absurd h Si
  |cons x l ih=>
   intro q h a
   cases q with
   |zero=>rw[vE,bZ,vE];rfl
   |succ q=>
    rw[vE,bS,vE,List.getElem_cons_succ,←ih q (by simpa using h) a,List.set_append]
    have e:(mR x).length=3:=rfl
    rw[if_neg (by rw[e];omega),e]
    congr 1
    congr 1
    omega
theorem zv (l:List lF):∀(q:Nat) (h:q<l.length) (a b c:Int),(((mQ l).set (q*7+3) (cS dA a)).set (q*7+4) (cS dA b)).set (q*7+6) (cS dA c)=mQ (l.set q {l[q]with pos:=a,size:=b,frame:=c}):=by
 induction l with
  |nil=>intro q h;exact absurd h Si
  |cons x l ih=>
   intro q h a b c
   cases q with
   |zero=>rw[uZ,bZ,uZ];rfl
   |succ q=>
    have e:(pU x).length=7:=rfl
    rw[uZ,bS,uZ,List.getElem_cons_succ,←ih q (by simpa using h) a b c,List.set_append,if_neg (by rw[e];omega),List.set_append,if_neg (by rw[e];omega),List.set_append,if_neg (by rw[e];omega),e]
    rw[show(q+1)*7+3-7=q*7+3 by omega,show(q+1)*7+4-7=q*7+4 by omega,show(q+1)*7+6-7=q*7+6 by omega]
theorem GoodU.mend {cs:List Int} {rs:List uN} (g:GoodU ns cs rs) (q:Nat) (h:q<rs.length) (a:Int) (a1:0≤a) (a2:a≤6000):GoodU ns cs (rs.set q {rs[q]with add:=a}):=by refine⟨g.cl,by rw[cQ];exact g.rl,fun x hx=>?_,?_,g.u32⟩;(·rcases List.mem_or_eq_of_mem_set hx with hx|rfl;(·exact g.ok x hx);(·obtain⟨h1,h2,h3,h4,h5,-,-⟩:=g.ok _ (aE h);exact⟨h1,h2,h3,h4,h5,a1,a2⟩));(·have hi:=g.inc;rw[List.pairwise_iff_getElem]at hi⊢;intro i j h1 h2 hij;rw[cQ]at h1 h2;have:=hi i j h1 h2 hij;rw[List.getElem_set,List.getElem_set];split<;>split<;>rename_i e1 e2;(·omega);(·subst e1;exact this);(·subst e2;exact this);(·exact this))
theorem Em.mend {E:UE} {n:Nat} (h:Em E ns n r w):∃vc vr pc kc pr kr,vc=cT pc n kc∧vr=cT pr r kr∧w.heap[E.bu]? =some (cY #[vc,E.vd,E.vs,vr,E.vm] 65 (0,0))∧r≤kr∧kr≤maxLen∧
 ∀(q:Nat) (a:Int),q<r→0≤a→a≤6000→∃g,pr=some ⟨g,0,none⟩∧g<w.heap.size∧(∃u,w.cell? ⟨g,q*3+2,none⟩=some u)∧(∀o,w.frozen? ⟨g,o,none⟩=false)∧Em E ns n r (w.setCell ⟨g,q*3+2,none⟩ (cS dA a))∧EFr E.B eU w (w.setCell ⟨g,q*3+2,none⟩ (cS dA a)):=by obtain⟨cs,rs,u,g,rfl,rfl⟩:=h;obtain⟨vc,vr,h1,h2,h3⟩:=u.box;obtain⟨pc,kc,rfl,-,-⟩:=dI h2;obtain⟨pr,kr,rfl,vP,oE⟩:=dI h3;refine⟨_,_,pc,kc,pr,kr,rfl,rfl,h1,vP,oE,fun q a hq a1 a2=>?_⟩;obtain⟨gr,gN,e,-,-,hB,eS,kE⟩:=eN h3 Om;injection e with e1 e2 e3;subst e1;obtain⟨s1,s2⟩:=h3.stored (q*3+2) (cS dA a);rw[o6 rs q hq a]at s1;(have f1:EFr E.B [74] w (w.setCell ⟨gr,q*3+2,none⟩ (cS dA a)):=EFr.grown s2 fun g' e=>by injection e with e;subst e;obtain⟨h1,cs',fz,h2⟩:=lC h3 gr rfl;exact⟨h1,cs',_,fz,h2,bY _⟩);(have vz:∀o,w.frozen? ⟨gr,o,none⟩=false:=by rcases h3.2 with⟨e,_⟩|⟨g',CR,mU,e,_,hh,_⟩;(·cases e);(·exact V501));have jI:∃u,(oS rs)[q*3+2]? =some u:=⟨_,aB (by rw[o7];omega)⟩;obtain⟨u',hu'⟩:=jI;refine⟨gr,rfl,eS,⟨u',kE _ _ hu'⟩,vz,⟨cs,rs.set q {rs[q]with add:=a},⟨⟨_,_,f1.obj h1 De,f1.row h2 De,by rw[cQ];exact s1⟩,u.hb,aG u.sz f1.size⟩,g.mend q hq a a1 a2,rfl,cQ ..⟩,f1.mono (by unfold eU;simp)⟩
theorem JE {b:oJ} (h:nV b=true) {r:Int} (hl:Live b.code i r):Cb b.regs r:=by
 induction hl with
  |read i r o ho hr=>exact CU h i o ho r hr
  |back i k r o _ _ _ _ ih=>exact ih
def qU (l:List Ord):Nat:=(l.map fun o=>30*(1+o.d.length+o.s.length)).sum
def oI (l:List Ord):Nat:=(l.map pD).sum
theorem Lt (l:List Ord) (i:Nat) (h:i<l.length):oI (l.take (i+1))=oI (l.take i)+pD l[i]:=by unfold oI;rw[aL h,aS,List.sum_append];simp
theorem CO (l:List Ord):oI l≤qU l:=by
 unfold oI qU
 induction l with
  |nil=>simp
  |cons x l ih=>have:=A1 x;simp only[bC,List.sum_cons];omega
theorem Ap (l:List Ord) (i:Nat):oI (l.take i)≤oI l:=by
 unfold oI
 induction l generalizing i with
  |nil=>simp
  |cons x l ih=>
   cases i with
   |zero=>simp
   |succ i=>simp only[List.take_succ_cons,bC,List.sum_cons];have:=ih i;omega
theorem qh (l:List Ord) (h1:1≤l.length) (h:kM l=9∨kM l=12):oI l+18≤qU l:=by
 obtain⟨i,hi⟩:∃i,l.length=i+1:=⟨l.length-1,by omega⟩;have eZ:i<l.length:=Om;have e:l.take (i+1)=l:=aY Om;have h2:=Lt l i eZ;rw[e]at h2;have h3:=CO (l.take i);(have h4:qU l=qU (l.take i)+30*(1+l[i].d.length+l[i].s.length):=by(conv=>lhs;rw[←e,aL eZ]);unfold qU;rw[aS,List.sum_append];simp)
 have h5:pD l[i]=12+30*(l[i].d.length+l[i].s.length):=tU (by
  unfold kM at h
  rw[show l.length-1=i by omega,aB eZ]at h
  exact h)
 omega
theorem C1 {E:UE} {G:GN} (h:yi W w w' E G va vj):∃G':GN,G'.bg=G.bg∧G'.b=G.b∧G'.v=G.v∧G'.pl=G.pl∧G'.os=G.os∧G'.tl=G.tl∧G'.self=G.self∧G'.base=G.base∧GenAt W w' E G' va vj∧(∃ar cp rs sl ce lk,Up G' ar cp rs sl ce lk)∧EFr E.B [110] w w':=by obtain⟨copies,result,slots,count,pointer,address,callee,saved,size,link,us,vu,ar,cp,rs,sl,ce,lk,h1,h2,h3⟩:=h;exact⟨{G with copies:=copies,result:=result,slots:=slots,count:=count,pointer:=pointer,address:=address,callee:=callee,saved:=saved,link:=link,size:=size,us:=us,vu:=vu},rfl,rfl,rfl,rfl,rfl,rfl,rfl,rfl,h1,⟨ar,cp,rs,sl,ce,lk,h2⟩,h3⟩
theorem gOk {G:GN} {ar cp rs sl ce lk:Nat} (h:Up G ar cp rs sl ce lk) (iU:G.pl=dC G.b.ty) (hf:mL G.b.ty=true) (JS:∀l∈G.os,l.2≤200∧(l.1=false→l.2<12)) (pY:G.self<ns) (nS:G.tl.length≤100000) (kC:G.b.regs≤G.os.length):GOk G ns∧G.size≤400:=by obtain⟨EZ,EY⟩:=fY hf;(have hp:G.pl.params.length≤6:=by rw[iU,(S7 hf).len];unfold dT;rw[aO];omega);have Yd:=(Fz hf).1;obtain⟨a1,a2,a3,a4,a5,a6,-,a8,a9,e1,e2,e3,e4,e5,e6,e7,e8,e9,e10⟩:=h;(have Nu:G.link≤400:=by rw[e9];split<;>split at e5<;>split at e6<;>omega);(have gO:G.size≤400:=by split at e5<;>split at e6<;>omega);refine⟨⟨⟨fun l hl=>by have:=(JS l hl).1;omega,by omega,by omega⟩,fun l hl h=>(JS l hl).2 h,⟨fun x hx=>by have:=a8 x hx;omega,a9,by split at e5<;>split at e6<;>omega,by omega⟩,⟨by omega,by split at e5<;>split at e6<;>omega,by omega,gO⟩,pY,by omega,by rw[iU];omega,by split at e5<;>omega,nS,kC,fun hr=>?_⟩,gO⟩;rw[iU]at hr;have h2:(dC G.b.ty).result=(mS G.b.ty).1:=rfl;rw[h2]at hr;unfold mS at hr;split at hr;(·simp at hr);(·omega)
end
end Go.Proofs.YtfbmaffacikgbaaGreat
