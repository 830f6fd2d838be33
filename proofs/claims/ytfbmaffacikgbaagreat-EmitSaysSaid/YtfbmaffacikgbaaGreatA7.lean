/- A part of the proof of EmitSays. -/
import Derived.Test.YtfbmaffacikgbaaGreatA2
import Derived.Test.YtfbmaffacikgbaaGreatA3
set_option maxRecDepth 100000
set_option maxHeartbeats 4000000
set_option linter.unusedVariables false
set_option linter.unusedSimpArgs false
open Go renaming Calls→O
open Go.Proofs.Tryz renaming prog→U
open Nat renaming le_refl→aA,lt_of_lt_of_le→aF,le_trans→aG,zero_le→aJ
open List renaming getElem?_eq_getElem→aB,getElem_mem→aE,mem_singleton→aK,take_succ_eq_append_getElem→aL,getD_eq_getElem?_getD→aN,length_take→aO,mem_cons_of_mem→aP,getElem_of_mem→aQ,mem_cons_self→aU,take_of_length_le→aY
open Go.RowKit.Below renaming refl→aC
open Go.World renaming alloc_heap_new→aH,cell?_of_block→bT
open Go.Lib renaming alloc_old→aR
open Bool renaming and_eq_true→aV
open Go.IntWalk renaming i64_in→aX
open Go.Proofs.Tryz renaming underlying3→bG,underlying4→bQ,underlying9→bW
open Go.Value renaming int→cS
open Go.Value renaming slice→cT
open Go.Value renaming string→cU
open Go.Value renaming bool→cV
open Go.Value renaming pointer→cW
open Go.Value renaming agg→cX
open Go.Obj renaming cells→cY
open Go.Ending renaming returned→cZ
open Go.IntKind renaming i64→dA
namespace Go.Proofs.YtfbmaffacikgbaaGreat
variable {w w' w0:World} {r k i size d bm n' co pg b:Nat} {v:Value} {e:TypeId} {xs:List Value} {l:List Int} {a:Act} {p pc:Option Addr} {L:List (List Int)} {s:ByteArray} {x:Int}
section
open Go.RowKit Go.Shelf Ob Ty
theorem Jp (hk:k<l.length) (h:(l.take k).Nodup) (h2:(l.take k).contains l[k]=false):(l.take (k+1)).Nodup:=by rw[aL hk,List.nodup_append];refine⟨h,by simp,fun a ha b hb=>?_⟩;simp only[aK]at hb;subst hb;intro e;subst e;rw[Bool.eq_false_iff]at h2;exact h2 (List.contains_iff_mem.2 ha)
theorem A4 (hk:k<l.length) (h2:(l.take k).contains l[k]=true):¬l.Nodup:=by intro h;rw[List.contains_iff_mem]at h2;have h3:(l.take (k+1)).Nodup:=h.sublist (List.take_sublist _ _);rw[aL hk,List.nodup_append]at h3;exact h3.2.2 _ h2 _ Si rfl
theorem t8 (b:oJ) (v:BV) (o:Ord) (u:OV) (m:Int) (w:World) (hb:BodAt w b v) (ho:OrdAt w o u) (hm:Mx m w) (hp:1≤b.ty.parts.length):
 O U 98 #[gG v b,iW u o] w (RB w (cV (eD b o))):=by obtain⟨r,hr⟩:=Ex (eD b o);rw[←hr];obtain⟨row,dM⟩:=Ex (rowOf (mH b.ty) b.ty.many b.code.length o.op);have TZ:=fun w' dJ=>SL b v o.op m w' (hb.below dJ) (hm.below dJ) hp;rw[←dM]at TZ;have HR:Hid (r=(row.2&&Td b.regs o.d&&Td b.regs o.s&&Ct row.1 o.n&&kY row.1 o.name&&(if row.1.typ then jG o else iY row.1 o))):=Ih (by rw[hr,dM];rfl);obtain⟨⟨xd,xs,xn,xl,xm,xa,xt⟩,ok⟩:=row;obtain⟨te,fD⟩:=ho.ty;have BI:=ho.dk;have JO:=ho.sk;have VR:=ho.db;have ve:=ho.sb;have hnpb:=fD.in.pb;have GI:=Ih hb;have HO:=Ih ho;have HM:=Ih hm;have sG:=Ih fD;unfold gG rowV at TZ;unfold gG iW;simp only at HR TZ;have Z3D:=0;exact V62
theorem Be (b:oJ) (v:BV) (m:Int) (w:World) (hb:BodAt w b v) (hm:Mx m w):
 O U 50 #[gG v b] w (RB w (cV (nV b))):=by obtain⟨r,hr⟩:=Ex (nV b);rw[←hr];obtain⟨te,fD⟩:=hb.ty;have gQ:=hb.cl;have qT:=hb.ck;have zL:=hb.cb;have GI:=Ih hb;have HM:=Ih hm;have sG:=Ih fD;have HR:Hid (r=(nW b.name&&decide (b.ty.kind=4)&&oM b.ty&&decide ((eR b.ty:Int)≤b.regs)&&decide (b.regs≤8000)&&decide (1≤v.nc)&&decide (v.nc≤6000)&&b.code.all (eD b)&&(decide (kM b.code=9)||decide (kM b.code=12)))):=Ih (by rw[hr,←gQ];rfl);unfold gG;have Z3E:=0;exact V62
def uH (tv:TV) (g:Af):List Value:=[cU g.name,cV g.static,cS dA g.ty.kind,cU g.ty.name,cT tv.pn tv.nn tv.kn,cT tv.pp tv.np tv.kp,cV g.ty.many,cS dA g.value]
def tT (tv:TV) (o:yh):List Value:=[cU o.name,cS dA o.ty.kind,cU o.ty.name,cT tv.pn tv.nn tv.kn,cT tv.pp tv.np tv.kp,cV o.ty.many,cV o.fn]
structure GloAt (w:World) (g:Af) (tv:TV):Prop where
 sz:g.name.size≤9223372036854775807
 val:lJ g.value
 ty:∃e,TyAt w e g.ty tv
structure OusAt (w:World) (o:yh) (tv:TV):Prop where
 sz:o.name.size≤9223372036854775807
 ty:∃e,TyAt w e o.ty tv
theorem GloAt.below {g:Af} {v:TV} (h:GloAt w g v) (hb:dG w w'):GloAt w' g v:=⟨h.sz,h.val,h.ty.imp fun _ ht=>ht.below hb⟩
theorem OusAt.below {g:yh} {v:TV} (h:OusAt w g v) (hb:dG w w'):OusAt w' g v:=⟨h.sz,h.ty.imp fun _ ht=>ht.below hb⟩
def RowsOf {α β:Type} (w:World) (p:Option Addr) (k:Nat) (cells:β→α→List Value) (at_:World→α→β→Prop) (l:List α):Prop:=
 l.length=0∨∃c co,p=some ⟨c,co,none⟩∧c<w.heap.size∧∀j (h:j<l.length),∃v,w.rangeAt c (co+j*k) (cells v l[j])∧at_ w l[j] v
theorem RowsOf.below {α β:Type} {cells:β→α→List Value} {at_:World→α→β→Prop} {l:List α} (jU:∀x v,at_ w x v→at_ w' x v) (h:RowsOf w p k cells at_ l) (hb:dG w w'):RowsOf w' p k cells at_ l:=by rcases h with h|⟨c,co,e,hc,hr⟩;(·exact .inl h);(·refine .inr ⟨c,co,e,aF hc hb.size,fun j hj=>?_⟩;obtain⟨v,h1,h2⟩:=hr j hj;exact⟨v,fun i u hu=>(hb.cell (p:=⟨c,co+j*k+i,none⟩) hc).trans (h1 i u hu),jU _ _ h2⟩)
theorem RowsOf.get {α β:Type} {cells:β→α→List Value} {at_:World→α→β→Prop} {l:List α} (h:RowsOf w p k cells at_ l) (hl:0<l.length):
 ∃c co,p=some ⟨c,co,none⟩∧c<w.heap.size∧∀j (h:j<l.length),∃v,w.rangeAt c (co+j*k) (cells v l[j])∧at_ w l[j] v:=by rcases h with h|h;(·omega);(·exact h)
structure MV where
 pb:Option Addr
 nb:Nat
 kb:Nat
 pg:Option Addr
 ng:Nat
 kg:Nat
 po:Option Addr
 no:Nat
 ko:Nat
def lR (v:MV):Value:=cX #[cT v.pb v.nb v.kb,cT v.pg v.ng v.kg,cT v.po v.no v.ko]
structure MadAt (w:World) (m:Mad) (v:MV):Prop where
 bl:m.bodies.length=v.nb
 gl:m.globals.length=v.ng
 ol:m.outs.length=v.no
 bm:v.nb≤9223372036854775807
 gm:v.ng≤9223372036854775807
 om:v.no≤9223372036854775807
 bodies:RowsOf w v.pb 9 uK BodAt m.bodies
 globals:RowsOf w v.pg 8 uH GloAt m.globals
 outs:RowsOf w v.po 7 tT OusAt m.outs
theorem MadAt.below {m:Mad} {v:MV} (h:MadAt w m v) (hb:dG w w'):MadAt w' m v:=
 ⟨h.bl,h.gl,h.ol,h.bm,h.gm,h.om,h.bodies.below (fun _ _ hx=>hx.below hb) hb,h.globals.below (fun _ _ hx=>hx.below hb) hb,h.outs.below (fun _ _ hx=>hx.below hb) hb⟩
theorem pN {c:Nat} {v:BV} {b:oJ} (hb:dG w0 w) (hc:c<w0.heap.size) (h:w0.rangeAt c co (uK v b)):
 w.cell? ⟨c,co,none⟩=some (cU b.name)∧w.cell? ⟨c,co+1,none⟩=some (cV b.static)∧w.cell? ⟨c,co+2,none⟩=some (cS dA b.ty.kind)∧w.cell? ⟨c,co+3,none⟩=some (cU b.ty.name)∧w.cell? ⟨c,co+4,none⟩=some (cT v.tv.pn v.tv.nn v.tv.kn)∧
 w.cell? ⟨c,co+5,none⟩=some (cT v.tv.pp v.tv.np v.tv.kp)∧w.cell? ⟨c,co+6,none⟩=some (cV b.ty.many)∧w.cell? ⟨c,co+7,none⟩=some (cS dA b.regs)∧w.cell? ⟨c,co+8,none⟩=some (cT v.pc v.nc v.kc):=
 ⟨(hb.cell (p:=⟨c,co,none⟩) hc).trans (h 0 _ rfl),(hb.cell (p:=⟨c,co+1,none⟩) hc).trans (h 1 _ rfl),(hb.cell (p:=⟨c,co+2,none⟩) hc).trans (h 2 _ rfl),(hb.cell (p:=⟨c,co+3,none⟩) hc).trans (h 3 _ rfl),(hb.cell (p:=⟨c,co+4,none⟩) hc).trans (h 4 _ rfl),
  (hb.cell (p:=⟨c,co+5,none⟩) hc).trans (h 5 _ rfl),(hb.cell (p:=⟨c,co+6,none⟩) hc).trans (h 6 _ rfl),(hb.cell (p:=⟨c,co+7,none⟩) hc).trans (h 7 _ rfl),(hb.cell (p:=⟨c,co+8,none⟩) hc).trans (h 8 _ rfl)⟩
theorem yO {c:Nat} {tv:TV} {g:Af} (hb:dG w0 w) (hc:c<w0.heap.size) (h:w0.rangeAt c co (uH tv g)):
 w.cell? ⟨c,co,none⟩=some (cU g.name)∧w.cell? ⟨c,co+1,none⟩=some (cV g.static)∧w.cell? ⟨c,co+2,none⟩=some (cS dA g.ty.kind)∧w.cell? ⟨c,co+3,none⟩=some (cU g.ty.name)∧w.cell? ⟨c,co+4,none⟩=some (cT tv.pn tv.nn tv.kn)∧
 w.cell? ⟨c,co+5,none⟩=some (cT tv.pp tv.np tv.kp)∧w.cell? ⟨c,co+6,none⟩=some (cV g.ty.many)∧w.cell? ⟨c,co+7,none⟩=some (cS dA g.value):=
 ⟨(hb.cell (p:=⟨c,co,none⟩) hc).trans (h 0 _ rfl),(hb.cell (p:=⟨c,co+1,none⟩) hc).trans (h 1 _ rfl),(hb.cell (p:=⟨c,co+2,none⟩) hc).trans (h 2 _ rfl),(hb.cell (p:=⟨c,co+3,none⟩) hc).trans (h 3 _ rfl),(hb.cell (p:=⟨c,co+4,none⟩) hc).trans (h 4 _ rfl),
  (hb.cell (p:=⟨c,co+5,none⟩) hc).trans (h 5 _ rfl),(hb.cell (p:=⟨c,co+6,none⟩) hc).trans (h 6 _ rfl),(hb.cell (p:=⟨c,co+7,none⟩) hc).trans (h 7 _ rfl)⟩
theorem yP {c:Nat} {tv:TV} {g:yh} (hb:dG w0 w) (hc:c<w0.heap.size) (h:w0.rangeAt c co (tT tv g)):
 w.cell? ⟨c,co,none⟩=some (cU g.name)∧w.cell? ⟨c,co+1,none⟩=some (cS dA g.ty.kind)∧w.cell? ⟨c,co+2,none⟩=some (cU g.ty.name)∧w.cell? ⟨c,co+3,none⟩=some (cT tv.pn tv.nn tv.kn)∧
 w.cell? ⟨c,co+4,none⟩=some (cT tv.pp tv.np tv.kp)∧w.cell? ⟨c,co+5,none⟩=some (cV g.ty.many)∧w.cell? ⟨c,co+6,none⟩=some (cV g.fn):=
 ⟨(hb.cell (p:=⟨c,co,none⟩) hc).trans (h 0 _ rfl),(hb.cell (p:=⟨c,co+1,none⟩) hc).trans (h 1 _ rfl),(hb.cell (p:=⟨c,co+2,none⟩) hc).trans (h 2 _ rfl),(hb.cell (p:=⟨c,co+3,none⟩) hc).trans (h 3 _ rfl),(hb.cell (p:=⟨c,co+4,none⟩) hc).trans (h 4 _ rfl),
  (hb.cell (p:=⟨c,co+5,none⟩) hc).trans (h 5 _ rfl),(hb.cell (p:=⟨c,co+6,none⟩) hc).trans (h 6 _ rfl)⟩
theorem Jo (t:T) (v:TV) (e:Nat) (m:Int) (w:World) (ht:TyAt w e t v) (hm:Mx m w):O U 51 #[fN v t] w (RB w (cV (sI t))):=by have hc:=fun w' (hb:dG w w')=>vL t v e m w' (ht.below hb) (hm.below hb);have Zaz:=0;exact V252
theorem Eo {α β:Type} [BEq α] [LawfulBEq α] {L:List (α×β)} {k:α} {x:β} (h:L.lookup k=some x):(k,x)∈L:=by
 induction L with
  |nil=>cases h
  |cons y l ih=>
   obtain⟨n,v⟩:=y
   rw[List.lookup_cons]at h
   split at h
   ·rename_i e
    rw[beq_iff_eq]at e
    injection h with h
    rw[e,h]
    exact aU
   ·exact aP _ (ih h)
def gH (f:Bool) (tx:ByteArray) (n:Int) (tv:TV) (t:T):Value:=cX #[cV f,cU tx,cS dA n,cS dA t.kind,cU t.name,cT tv.pn tv.nn tv.kn,cT tv.pp tv.np tv.kp,cV t.many]
theorem Dc (s:ByteArray) (f:Bool) (tx:ByteArray) (n:Int) (tv:TV) (t:T) (bn bm k:Nat) (L:List (List UInt8×Value)) (m:Int) (w:World) (xM:w.heap[bn]? =some (cY #[.map (some bm)] 90 (0,0)))
 (dU:w.ownsMap U 9 hR bm k (xG L)) (hL:∀x∈L,∃f tx n tv t,x.2=gH f tx n tv t) (gZ:(L.map Prod.fst).Nodup) (hk:k≤1000000) (hs:s.size≤9223372036854775807) (hm:Mx m w) (h0:bm≠0):
 O U 48 #[cU s,gH f tx n tv t,cW (some ⟨bn,0,none⟩)] w fun x w'=>x=cZ (cV ((L.lookup s.data.toList).isNone&&nW s))∧w.grownBy w' (some bm)∧w'.ownsMap U 9 hR bm (k+1) (xG (L++[(s.data.toList,gH f tx n tv t)])):=by
 (have Qk:∃es cl,w.heap[bm]? =some (.map es cl):=by obtain⟨es,cl,h,_⟩:=dU;exact⟨es,cl,h⟩);obtain⟨g,hg⟩:=Ex ((L.lookup s.data.toList));obtain⟨q,hq⟩:=Ex (nW s);(have fM:bn≠bm:=by obtain⟨es,cl,h⟩:=Qk;intro e;rw[e,h]at xM;cases xM);rw[←hg,←hq];obtain⟨LB,hf0⟩:=dE xM;have lbn:=dB xM;have gJ:=Ft ((dU.alloc (cY #[cV f,cU tx,cS dA n,cS dA t.kind,cU t.name,cT tv.pn tv.nn tv.kn,cT tv.pp tv.np tv.kp,cV t.many] 130))) gZ s hs;rw[←hg]at gJ
 have GJ:Hid (∃f tx n tv t,g.getD Ax=gH f tx n tv t):=Ih (by
  cases e:g with
  |none=>exact⟨false,⟨#[]⟩,0,⟨none,0,0,none,0,0⟩,.mk 0 ⟨#[]⟩ [] [] false,rfl⟩
  |some x=>
   rw[e]at hg
   exact hL _ (Eo hg.symm))
 have qD:=Ih dU;(have HISN:Hid (∀w',Mx m w'→O U 49 #[cU s] w' fun e gL=>e=cZ (cV q)∧w'=gL):=Ih fun w' h=>by rw[hq];exact rU s m w' hs h);have HM:=Ih hm;have H0:=Ih h0;have zQ:=Ih fM;have bw:Hid (bm<w.heap.size):=Ih (by obtain⟨es,cl,h⟩:=Qk;exact dB h);clear dU gZ hm Qk hg hq xM h0 fM hL;obtain⟨gi,hgi⟩:=Ex g.isSome;have dw:Hid (g.isNone=!gi):=Ih (by rw[hgi];cases g<;>rfl);obtain⟨f',tx',n',tv',t',FM⟩:=GJ;rw[FM,←hgi]at gJ;rw[dw.out];unfold gH at gJ⊢;have HG0:=Ih ((World.grownBy_alloc w (cY #[cV f,cU tx,cS dA n,cS dA t.kind,cU t.name,cT tv.pn tv.nn tv.kn,cT tv.pp tv.np tv.kp,cV t.many] 130) (some bm)));clear FM hgi;go_in;cases gi;(·have Z2n:=0;exact V41);(·have Z2o:=0;exact V41)
end
end Go.Proofs.YtfbmaffacikgbaaGreat
