/- A part of the proof of EmitSays. -/
import Derived.Test.YtfbmaffacikgbaaGreatA7
set_option maxRecDepth 100000
set_option maxHeartbeats 4000000
set_option linter.unusedVariables false
set_option linter.unusedSimpArgs false
open Go renaming Calls→O
open Go.Proofs.Tryz renaming prog→U
open Nat renaming le_refl→aA,lt_of_lt_of_le→aF,le_trans→aG,zero_le→aJ
open List renaming getElem?_eq_getElem→aB,length_append→aD,getElem_mem→aE,length_map→aI,mem_singleton→aK,take_succ_eq_append_getElem→aL,length_cons→aM,length_take→aO,mem_cons_of_mem→aP,getElem_of_mem→aQ,map_append→aS,length_nil→aT,mem_cons_self→aU,take_of_length_le→aY,not_mem_nil→aZ,map_cons→bC,getElem?_append_right→bD,mem_cons→bF,getElem?_map→bH,append_assoc→bP,set_cons_succ→bS,setIfInBounds_toArray→bX,mem_singleton_self→bY,set_cons_zero→bZ,replicate→cC,getElem_map→cH,map_nil→cM,length_set→cQ
open Go.RowKit.Below renaming refl→aC,heap_setCell→bV
open Go.World renaming alloc_heap_new→aH,ownsRow_nil→bE,frozen?→bN,cell?_of_block→bT,setCell→cN
open Go.Lib renaming alloc_old→aR
open Bool renaming and_eq_true→aV
open Go.Value renaming slice→aW,int→bL,string→cE
open Go.IntWalk renaming i64_in→aX
open Go.Proofs.Tryz renaming underlying3→bG,underlying9→bW
open And renaming intro→bM
open Go.Value renaming int→cS
open Go.Value renaming slice→cT
open Go.Value renaming string→cU
open Go.Value renaming bool→cV
open Go.Value renaming pointer→cW
open Go.Value renaming agg→cX
open Go.Obj renaming cells→cY
open Go.Ending renaming returned→cZ
open Go.IntKind renaming i64→dA
namespace Go.Proofs.YtfbmaffacikgbaaGreat
variable {w W w' w1 wr w0:World} {B r k i size d bm k' co pg b:Nat} {v v1 v0 v2 v3 v4 v5 v6 v7 v9:Value} {e:TypeId} {xs:List Value} {l:List Int} {a:Act} {p pc:Option Addr} {L:List (List Int)} {cs:Array Value} {s:ByteArray} {mx x:Int}
section
open Go.RowKit Go.Shelf Ob Ty
theorem zD {B1 B2:Nat} {e1 e2:TypeId} {s1 s2 n1 n2:Nat} {x1 x2:List Value} (h1:w.ownsRow B1 e1 s1 v1 n1 x1) (h2:w.ownsRow B2 e2 s2 v2 n2 x2) (fM:e1≠e2):v1.ownBlock=none∨v1.ownBlock≠v2.ownBlock:=by rcases h1.2 with⟨rfl,_⟩|⟨g,gN,mU,rfl,_,hh,_⟩;(·exact .inl rfl);(·exact .inr (kA h2 hh (fun e=>fM e.symm)))
theorem yB {s n:Nat} (h:w.ownsRow B e s v n xs):∃p k,v=cT p n k:=by rcases h.2 with⟨rfl,rfl,_⟩|⟨g,gN,mU,rfl,_⟩;(·exact⟨none,0,rfl⟩);(·exact⟨_,_,rfl⟩)
structure TakeAt (w0 w:World) (bx hm bn bm:Nat) (md:Array Value) (pb:Option Addr) (nb kb:Nat) (pu:Option Addr) (nu ku:Nat) (pv:Option Addr) (nv kv:Nat) (L:List (List UInt8×Value)):Prop where
 bel:Below bx w0 w
 hx:bx<w0.heap.size
 box:w.heap[bx]? =some (cY #[cS dA 0,cS .i32 0,cT none 0 0,cS dA 0,cT pb nb kb,cT pu nu ku,cT pv nv kv,cT none 0 0,cS dA 0,cS dA 0,cS dA 0] 88 (0,0))
 rb:∃xs,w.ownsRow bx 48 9 (aW pb nb kb) nb xs
 ru:∃xs,w.ownsRow bx 3 1 (aW pu nu ku) nu xs
 rv:∃xs,w.ownsRow bx 30 1 (aW pv nv kv) nv xs
 mad:w.heap[hm]? =some (cY md 26 (0,0))
 var:w.heap[bn]? =some (cY #[.map (some bm)] 90 (0,0))
 map:w.ownsMap U 9 hR bm L.length (xG L)
 nd:(L.map Prod.fst).Nodup
 things:∀x∈L,∃f tx n tv t,x.2=gH f tx n tv t
 bm:bx≤bm
 hm:bx≤hm
 bn:bx≤bn
section
variable {w0 w:World} {bx hm bn bm:Nat} {md:Array Value} {pb:Option Addr} {nb kb:Nat} {pu:Option Addr} {nu ku:Nat} {pv:Option Addr} {nv kv:Nat} {L:List (List UInt8×Value)}
theorem TakeAt.mapAt (h:TakeAt w0 w bx hm bn bm md pb nb kb pu nu ku pv nv kv L):∃es cl,w.heap[bm]? =some (.map es cl):=by obtain⟨es,cl,h,_⟩:=h.map;exact⟨es,cl,h⟩
theorem TakeAt.below (h:TakeAt w0 w bx hm bn bm md pb nb kb pu nu ku pv nv kv L) (hb:dG w w'):TakeAt w0 w' bx hm bn bm md pb nb kb pu nu ku pv nv kv L:=by
 have hg:=jM hb;have hs:bx≤w.heap.size:=aG (Nat.le_of_lt h.hx) h.bel.size
 exact⟨h.bel.trans (hb.mono (by have:=h.hx;omega)),h.hx,Kb hb h.box,h.rb.imp fun _ hr=>hr.kept hg (by cases(aW pb nb kb).ownBlock<;>simp),h.ru.imp fun _ hr=>hr.kept hg (by cases(aW pu nu ku).ownBlock<;>simp),h.rv.imp fun _ hr=>hr.kept hg (by cases(aW pv nv kv).ownBlock<;>simp),
  Kb hb h.mad,Kb hb h.var,h.map.kept hg Si,h.nd,h.things,h.bm,h.hm,h.bn⟩
theorem TakeAt.gave {s:List UInt8} {x:Value} (h:TakeAt w0 w bx hm bn bm md pb nb kb pu nu ku pv nv kv L) (hg:w.grownBy w' (some bm)) (ma:w'.ownsMap U 9 hR bm (L.length+1) (xG (L++[(s,x)]))) (hx:∃f tx n tv t,x=gH f tx n tv t) (hf:(L.lookup s).isNone=true):
 TakeAt w0 w' bx hm bn bm md pb nb kb pu nu ku pv nv kv (L++[(s,x)]):=by
 obtain⟨es,cl,vx⟩:=h.mapAt;(have ne:∀{b:Nat} {cs:Array Value} {t:TypeId},w.heap[b]? =some (cY cs t (0,0))→some b≠some bm:=fun{b cs t} hb e=>by injection e with e;rw[e,vx]at hb;cases hb);have hs:bx≤w.heap.size:=aG (Nat.le_of_lt h.hx) h.bel.size;have nr:∀{e:TypeId} {sz n:Nat} {y:Value} {xs:List Value},w.ownsRow bx e sz y n xs→y.ownBlock=none∨y.ownBlock≠some bm:=fun hr=>.inr (fun e=>sT hr vx e.symm)
 refine⟨h.bel.grown hg hs (fun k hk=>by injection hk with hk;rw[←hk];exact h.bm),h.hx,(hg.block _ (dB h.box) (ne h.box)).trans h.box,h.rb.imp fun _ hr=>hr.kept hg (nr hr),h.ru.imp fun _ hr=>hr.kept hg (nr hr),h.rv.imp fun _ hr=>hr.kept hg (nr hr),
  (hg.block _ (dB h.mad) (ne h.mad)).trans h.mad,(hg.block _ (dB h.var) (ne h.var)).trans h.var,by rw[aD];exact ma,?_,?_,h.bm,h.hm,h.bn⟩
 (·rw[aS,List.nodup_append];refine⟨h.nd,by simp,fun a ha b hb e=>?_⟩;simp only[bC,cM,aK]at hb;subst hb;subst e;obtain⟨⟨a,y⟩,hy,rfl⟩:=List.mem_map.1 ha;rw[Option.isNone_iff_eq_none,List.lookup_eq_none_iff]at hf;have:=hf _ hy;simp at this);(·intro y hy;rcases List.mem_append.1 hy with hy|hy;(·exact h.things y hy);(·simp only[aK]at hy;subst hy;exact hx))
theorem TakeAt.rowB {p':Option Addr} (h:TakeAt w0 w bx hm bn bm md pb nb kb pu nu ku pv nv kv L) (hg:w.grownBy w1 (aW pb nb kb).ownBlock) (ho:w1.ownsRow bx 48 9 (cT p' (nb+1) k') (nb+1) xs):
 TakeAt w0 (w1.setCell ⟨bx,4,none⟩ (cT p' (nb+1) k')) bx hm bn bm md p' (nb+1) k' pu nu ku pv nv kv L:=by have Za0:=0;exact V228
theorem TakeAt.rowU {p':Option Addr} (h:TakeAt w0 w bx hm bn bm md pb nb kb pu nu ku pv nv kv L) (hg:w.grownBy w1 (aW pu nu ku).ownBlock) (ho:w1.ownsRow bx 3 1 (cT p' (nu+1) k') (nu+1) xs):
 TakeAt w0 (w1.setCell ⟨bx,5,none⟩ (cT p' (nu+1) k')) bx hm bn bm md pb nb kb p' (nu+1) k' pv nv kv L:=by have Za1:=0;exact V228
theorem TakeAt.rowV {p':Option Addr} (h:TakeAt w0 w bx hm bn bm md pb nb kb pu nu ku pv nv kv L) (hg:w.grownBy w1 (aW pv nv kv).ownBlock) (ho:w1.ownsRow bx 30 1 (cT p' (nv+1) k') (nv+1) xs):
 TakeAt w0 (w1.setCell ⟨bx,6,none⟩ (cT p' (nv+1) k')) bx hm bn bm md pb nb kb pu nu ku p' (nv+1) k' L:=by have Za2:=0;exact V228
end
def Ents (wO:World) (l:List (ByteArray×T×Bool)) (L:List (List UInt8×Value)):Prop:=L.length=l.length∧∀i (h:i<l.length) (h':i<L.length),∃n tv e,L[i]=(l[i].1.data.toList,gH l[i].2.2 (dV l[i].2.1) n tv l[i].2.1)∧TyAt wO e l[i].2.1 tv
theorem Ents.snoc {wO:World} {l:List (ByteArray×T×Bool)} {L:List (List UInt8×Value)} (h:Ents wO l L) {t:T} {f:Bool} {n:Int} {tv:TV} {e:Nat} (ht:TyAt wO e t tv):Ents wO (l++[(s,t,f)]) (L++[(s.data.toList,gH f (dV t) n tv t)]):=by refine⟨by simp[h.1],fun i hi mm=>?_⟩;by_cases e:i<l.length;(·(have e2:i<L.length:=by rw[h.1];exact e);rw[List.getElem_append_left e,List.getElem_append_left e2];exact h.2 i e e2);(·(have e1:i=l.length:=by simp at hi;omega);(have e2:i=L.length:=by rw[h.1];exact e1);subst e1;rw[List.getElem_append_right Om,List.getElem_append_right Om];simp only[e2,Nat.sub_self,List.getElem_cons_zero];exact⟨n,tv,_,rfl,ht⟩)
theorem Ents.key {wO:World} {l:List (ByteArray×T×Bool)} {L:List (List UInt8×Value)} (h:Ents wO l L):L.map Prod.fst=l.map fun x=>x.1.data.toList:=by refine List.ext_getElem (by simp[h.1]) fun i h1 h2=>?_;obtain⟨n,tv,e,he,_⟩:=h.2 i (by simpa using h2) (by simpa using h1);simp[he]
theorem uW (m:Mad):(things m).map (fun x=>x.1)=m.names:=by unfold things Mad.names;simp[aS,List.map_map,Function.comp_def]
theorem Ah {m:Mad} (hk:k<m.bodies.length) (h:nV m.bodies[k]=false):gW m=false:=by unfold gW;rw[List.all_eq_false.2 ⟨_,aE hk,by rw[h];exact Bool.false_ne_true⟩];rfl
theorem mP {m:Mad} (hk:k<m.globals.length) (h:oX m.globals[k]=false):gW m=false:=by exact V498
theorem qW {m:Mad} (hk:k<m.outs.length) (h:wW m.outs[k]=false):gW m=false:=by exact V498
theorem tD {m:Mad} (hi:i<(things m).length) (h:nW (things m)[i].1=false):gW m=false:=by unfold gW;have:m.names.all nW=false:=List.all_eq_false.2 ⟨(things m)[i].1,by rw[←uW];exact List.mem_map.2 ⟨_,aE hi,rfl⟩,by rw[h];exact Bool.false_ne_true⟩;rw[this];simp
theorem rN {m:Mad} (hi:i<(things m).length) (h:(things m)[i].1.data.toList∈((things m).take i).map (fun x=>x.1.data.toList)):gW m=false:=by unfold gW;(have hn:¬(m.names.map fun s=>s.data.toList).Nodup:=fun gZ=>by rw[←uW,List.map_map]at gZ;have h2:=gZ.sublist (List.Sublist.map _ (List.take_sublist (i+1) (things m)));rw[aL hi,aS,List.nodup_append]at h2;exact h2.2.2 _ h _ Si rfl);rw[decide_eq_false hn];simp
theorem Ents.has {wO:World} {l:List (ByteArray×T×Bool)} {L:List (List UInt8×Value)} (h:Ents wO l L) {s:List UInt8} (hs:(L.lookup s).isNone=false):s∈l.map (fun x=>x.1.data.toList):=by
 rw[←h.key]
 cases e:L.lookup s with
  |none=>rw[e]at hs;cases hs
  |some x=>exact List.mem_map.2 ⟨_,Eo e,rfl⟩
theorem Vx {m:Mad} (hk:k<m.bodies.length):∃h:k<(things m).length,(things m)[k]=(m.bodies[k].name,m.bodies[k].ty,true):=by refine List.getElem?_eq_some_iff.1 ?_;unfold things;rw[bP,List.getElem?_append_left (by simpa using hk),bH,aB hk];rfl
theorem Vw {m:Mad} (hk:k<m.globals.length):∃h:m.bodies.length+k<(things m).length,(things m)[m.bodies.length+k]=(m.globals[k].name,m.globals[k].ty,false):=by refine List.getElem?_eq_some_iff.1 ?_;unfold things;rw[List.getElem?_append_left Sv,bD Si,aI,Nat.add_sub_cancel_left,bH,aB hk];rfl
theorem fi {m:Mad} (hk:k<m.outs.length):∃h:m.bodies.length+m.globals.length+k<(things m).length,(things m)[m.bodies.length+m.globals.length+k]=(m.outs[k].name,m.outs[k].ty,m.outs[k].fn):=by refine List.getElem?_eq_some_iff.1 ?_;unfold things;rw[bD Si,aD,aI,aI,Nat.add_sub_cancel_left,bH,aB hk];rfl
def One (b1:Nat) (o1:Obj) (w:World):Prop:=w.heap[b1]? =some o1
theorem One.below {b1:Nat} {o1:Obj} (h:One b1 o1 w) (hb:dG w w'):One b1 o1 w':=Kb hb h
theorem One.grown {b1:Nat} {o1:Obj} {row:Option Nat} (h:One b1 o1 w) (hg:w.grownBy w' row) (h1:some b1≠row):One b1 o1 w':=(hg.block _ (dB h) h1).trans h
def Two (b1:Nat) (o1:Obj) (b2:Nat) (o2:Obj) (w:World):Prop:=w.heap[b1]? =some o1∧w.heap[b2]? =some o2
theorem Two.below {b1 b2:Nat} {o1 o2:Obj} (h:Two b1 o1 b2 o2 w) (hb:dG w w'):Two b1 o1 b2 o2 w':=⟨Kb hb h.1,Kb hb h.2⟩
theorem Two.grown {b1 b2:Nat} {o1 o2:Obj} {row:Option Nat} (h:Two b1 o1 b2 o2 w) (hg:w.grownBy w' row) (h1:some b1≠row) (h2:some b2≠row):Two b1 o1 b2 o2 w':=⟨(hg.block _ (dB h.1) h1).trans h.1,(hg.block _ (dB h.2) h2).trans h.2⟩
theorem oY {t:TypeId} {v8 v10:Value} (h:w.heap[b]? =some (cY #[v0,v1,v2,v3,v4,v5,v6,v7,v8,v9,v10] t (0,0))):
 w.cell? ⟨b,0,none⟩=some v0∧w.cell? ⟨b,1,none⟩=some v1∧w.cell? ⟨b,2,none⟩=some v2∧w.cell? ⟨b,3,none⟩=some v3∧w.cell? ⟨b,4,none⟩=some v4∧w.cell? ⟨b,5,none⟩=some v5∧w.cell? ⟨b,6,none⟩=some v6∧w.cell? ⟨b,7,none⟩=some v7∧w.cell? ⟨b,8,none⟩=some v8∧w.cell? ⟨b,9,none⟩=some v9∧w.cell? ⟨b,10,none⟩=some v10∧∀o,w.frozen? ⟨b,o,none⟩=false:=
 ⟨cell_of_row w b 0 _ _ _ h,cell_of_row w b 1 _ _ _ h,cell_of_row w b 2 _ _ _ h,cell_of_row w b 3 _ _ _ h,cell_of_row w b 4 _ _ _ h,cell_of_row w b 5 _ _ _ h,cell_of_row w b 6 _ _ _ h,cell_of_row w b 7 _ _ _ h,cell_of_row w b 8 _ _ _ h,cell_of_row w b 9 _ _ _ h,cell_of_row w b 10 _ _ _ h,fun o=>by simp[bN,h]⟩
theorem I5 {t:TypeId} (h:w.heap[b]? =some (cY #[v0,v1,v2,v3,v4,v5,v6,v7] t (0,0))):
 w.cell? ⟨b,0,none⟩=some v0∧w.cell? ⟨b,1,none⟩=some v1∧w.cell? ⟨b,2,none⟩=some v2∧w.cell? ⟨b,3,none⟩=some v3∧w.cell? ⟨b,4,none⟩=some v4∧w.cell? ⟨b,5,none⟩=some v5∧w.cell? ⟨b,6,none⟩=some v6∧w.cell? ⟨b,7,none⟩=some v7∧∀o,w.frozen? ⟨b,o,none⟩=false:=
 ⟨cell_of_row w b 0 _ _ _ h,cell_of_row w b 1 _ _ _ h,cell_of_row w b 2 _ _ _ h,cell_of_row w b 3 _ _ _ h,cell_of_row w b 4 _ _ _ h,cell_of_row w b 5 _ _ _ h,cell_of_row w b 6 _ _ _ h,cell_of_row w b 7 _ _ _ h,fun o=>by simp[bN,h]⟩
theorem CG {v:Int} (hv:¬(-2147483648≤v∧v≤2147483647)) (h:lJ v):(v !=wrap64 (wrap32 v))=true:=by rw[bne_iff_ne];unfold lJ at h;unfold wrap64 wrap32;omega
theorem G0 {v:Int} (hv:-2147483648≤v∧v≤2147483647):(v !=wrap64 (wrap32 v))=false:=by rw[bne_eq_false_iff_eq];unfold wrap64 wrap32;omega
theorem Oz {t:T} (h:sI t=true):dQ t=if t.kind=2 then 2 else 1:=by obtain⟨hm,hk⟩:=Bool.and_eq_true_iff.1 h;unfold dQ;rw[if_pos hm];obtain⟨k,a,b,c,d⟩:=t;rw[eV];have hk:k=1∨k=2:=(Bool.or_eq_true_iff.1 hk).imp (fun h=>of_decide_eq_true h) (fun h=>of_decide_eq_true h);rcases hk with rfl|rfl<;>rfl
theorem zi {m:Mad} (h1:∀j (hj:j<m.bodies.length),nV m.bodies[j]=true∧nW m.bodies[j].name=true) (h2:∀j (hj:j<m.globals.length),oX m.globals[j]=true∧nW m.globals[j].name=true)
 (h3:∀j (hj:j<m.outs.length),wW m.outs[j]=true∧nW m.outs[j].name=true) (hn:((things m).map fun x=>x.1.data.toList).Nodup):gW m=true:=by have ZfY:=0;exact V394
theorem JA:(U.info? 90).map (fun i=>(i.zero,i.size,i.bytes))=some (some (.map none),1,8):=by kernel_rfl
def DE (wO:World) (m:Mad) (bx:Nat) (w:World):Prop:=∃(q k bm:Nat) (L:List (List UInt8×Value)) (pb:Option Addr) (nb kb:Nat) (pu:Option Addr) (nu ku:Nat) (pv:Option Addr) (nv kv:Nat),
 w.heap[bx]? =some (cY #[cS dA 0,cS .i32 0,cT none 0 0,cS dA 0,cT pb nb kb,cT pu nu ku,cT pv nv kv,cT (some ⟨q,0,none⟩) 1 k,cS dA 0,cS dA 0,cS dA 0] 88 (0,0))∧
 w.cell? ⟨q,0,none⟩=some (.map (some bm))∧w.ownsMap U 9 hR bm L.length (xG L)∧(L.map Prod.fst).Nodup∧(∀x∈L,∃f tx n tv t,x.2=gH f tx n tv t)∧Ents wO (things m) L∧bx≤bm∧bx≤q∧bx<w.heap.size∧q<w.heap.size
theorem LW:(U.info? 48).map (fun i=>(i.zero,i.size,i.bytes))=some (some (cX #[cU ⟨#[]⟩,cV false,cS dA 0,cU ⟨#[]⟩,cT none 0 0,cT none 0 0,cV false,cS dA 0,cT none 0 0]),9,136):=by kernel_rfl
theorem ea (n:Int) (w:World):O U 52 #[cS dA n] w fun e w'=>(∃a b:Int,e=cZ (.tuple #[cS .i32 a,cS .i32 b]))∧dG w w':=by go_in;go_wp2_with fail;go_ret2;exact⟨⟨_,_,rfl⟩,(by first|exact aC _ _|exact dD _|trivial)⟩
theorem zg:(U.info? 30).map (fun i=>(i.zero,i.size,i.bytes))=some (some (cT none 0 0),1,24):=by kernel_rfl
theorem JG:(U.info? 3).map (fun i=>(i.zero,i.size,i.bytes))=some (some (cS dA 0),1,8):=by kernel_rfl
theorem gp {bx:Nat} {md:Array Value} (fT:w.heap[bx]? =some (cY #[cS dA 0,cS .i32 0,cT none 0 0,cS dA 0,cT none 0 0,cT none 0 0,cT none 0 0,cT none 0 0,cS dA 0,cS dA 0,cS dA 0] 88 (0,0))):
 TakeAt w (((w.alloc (cY md 26)).alloc (.map #[] 0)).alloc (cY #[.map (some (w.heap.size+1))] 90)) bx w.heap.size (w.heap.size+2) (w.heap.size+1) md none 0 0 none 0 0 none 0 0 []:=by have lbx:=dB fT;have hb:dG w (((w.alloc (cY md 26)).alloc (.map #[] 0)).alloc (cY #[.map (some (w.heap.size+1))] 90)):=(((aC _ w).alloc (aA _) _).alloc Si _).alloc Sv _;have hm:=World.ownsMap_made (w.alloc (cY md 26)) U 9 hR;have hx:=heap_alloc_new ((w.alloc (cY md 26)).alloc (.map #[] 0)) (cY #[.map (some (w.heap.size+1))] 90);simp only[World.size_alloc]at hm hx;refine⟨hb.mono (Nat.le_of_lt lbx),lbx,(hb.block _ lbx).trans fT,⟨_,bE _ _ _ _⟩,⟨_,bE _ _ _ _⟩,⟨_,bE _ _ _ _⟩,?_,hx,hm.alloc _,List.nodup_nil,fun x h=>(by cases h),by omega,Nat.le_of_lt lbx,by omega⟩;exact(aR _ _ _ Sv).trans ((aR _ _ _ Si).trans (aH w _))
set_option maxRecDepth 100000 in
set_option maxRecDepth 100000 in
theorem Q5 (m:Mad) (v:MV) (mx:Int) (bx:Nat) (wO w:World) (hmad:MadAt wO m v) (hMx:Mx mx wO) (hwO:dG wO w) (hOb:wO.heap.size≤bx) (fT:w.heap[bx]? =some (cY #[cS dA 0,cS .i32 0,cT none 0 0,cS dA 0,cT none 0 0,cT none 0 0,cT none 0 0,cT none 0 0,cS dA 0,cS dA 0,cS dA 0] 88 (0,0))) (By:v.nb≤40∧v.ng≤40∧v.no≤40) (hO0:0<wO.heap.size):
 O U 23 #[cW (some ⟨bx,0,none⟩),lR v] w fun x w'=>x=cZ (cV (gW m))∧Below bx w w'∧(gW m=true→DE wO m bx w'):=by
 obtain⟨r,hr⟩:=Ex (gW m);rw[←hr];obtain⟨WT,WR,WQ⟩:=By;obtain⟨wV,TB⟩:∃x,x=v.pb:=⟨_,rfl⟩;obtain⟨yY,TA⟩:∃x,x=v.pg:=⟨_,rfl⟩;obtain⟨yX,SZ⟩:∃x,x=v.po:=⟨_,rfl⟩;obtain⟨dY,JL⟩:∃x,x=v.nb:=⟨_,rfl⟩;obtain⟨fW,JK⟩:∃x,x=v.ng:=⟨_,rfl⟩;obtain⟨iK,JJ⟩:∃x,x=v.no:=⟨_,rfl⟩;have yu:Hid (RowsOf wO wV 9 uK BodAt m.bodies):=Ih (by rw[TB];exact hmad.bodies);have YZ:Hid (RowsOf wO yY 8 uH GloAt m.globals):=Ih (by rw[TA];exact hmad.globals);have HOS:Hid (RowsOf wO yX 7 tT OusAt m.outs):=Ih (by rw[SZ];exact hmad.outs);have jC:Hid (m.bodies.length=dY):=Ih (by rw[JL];exact hmad.bl);have Ou:Hid (m.globals.length=fW):=Ih (by rw[JK];exact hmad.gl);have Us:Hid (m.outs.length=iK):=Ih (by rw[JJ];exact hmad.ol);have lbx:=dB fT;obtain⟨iB,hiB,hiBz,hiBs,hiBb⟩:=info_parts LW;obtain⟨iI,hiI,hiIz,hiIs,hiIb⟩:=info_parts JG;obtain⟨iM,hiM,hiMz,hiMs,hiMb⟩:=info_parts JA;obtain⟨iV,hiV,hiVz,hiVs,hiVb⟩:=info_parts zg;have HR:=Ih hr;have nN:=Ih hMx;have MD:=Ih hwO;have zO:=Ih hOb;have Qk:=@run_makeMap U;have HT0:Hid (TakeAt w (((w.alloc (cY #[cT wV dY v.kb,cT yY fW v.kg,cT yX iK v.ko] 26)).alloc (.map #[] 0)).alloc (cY #[.map (some (w.heap.size+1))] 90)) bx w.heap.size (w.heap.size+2) (w.heap.size+1) #[cT wV dY v.kb,cT yY fW v.kg,cT yX iK v.ko] none 0 0 none 0 0 none 0 0 []):=Ih (gp fT);unfold lR;rw[←TB,←TA,←SZ,←JL,←JK,←JJ];rw[←JL]at WT;rw[←JK]at WR;rw[←JJ]at WQ;clear hr TB TA SZ JL JK JJ hmad hMx hwO hOb fT;go_in;go_wp2_with fail;clear Qk;go_loopg[21] dY (fun gk v21 wr=>∃(k:Nat) (pb:Option Addr) (kb:Nat) (pu:Option Addr) (ku:Nat) (pv:Option Addr) (kv:Nat) (L:List (List UInt8×Value)),k≤dY∧gk=dY-k∧v21=cS dA k∧TakeAt w wr bx w.heap.size (w.heap.size+2) (w.heap.size+1) #[cT wV dY v.kb,cT yY fW v.kg,cT yX iK v.ko] pb k kb pu k ku pv 0 kv L∧Ents wO ((things m).take k) L∧∀j (hj:j<m.bodies.length),j<k→nV m.bodies[j]=true∧nW m.bodies[j].name=true);(case atStart=>exact⟨0,_,_,_,_,_,_,[],aJ _,rfl,rfl,HT0,⟨by simp,fun i h=>by simp at h⟩,fun j hj h=>by omega⟩)
 case round=>
  obtain⟨k,pb,kb,pu,ku,pv,kv,L,hk,hgk,rfl,ht,Ye,eT⟩:=hrel;have HG:=Ih hgk;have HT:=Ih ht;have Ox:=Ih Ye;have fP:=Ih eT;have HW:=Ih (MD.trans (ht.bel.mono zO));clear hgk ht Ye eT;by_cases dH:k<dY;(·(have jS:k<m.bodies.length:=by rw[jC.out];exact dH);obtain⟨c,co,gP,hc,dO⟩:=yu.get Om;obtain rfl:=gP;obtain⟨ov,dM,Cz⟩:=dO k jS;obtain⟨b,hb⟩:=Ex (m.bodies[k]);rw[←hb]at dM Cz;obtain⟨te,fD⟩:=Cz.ty;obtain⟨p0,p1,p2,p3,p4,p5,p6,p7,p8⟩:=pN HW hc dM;have yD:(k:Int)<dY:=Om;have Fq:=Ih hb;have HBAT:=Ih Cz;have sG:=Ih fD;have z0:=HT.mad;obtain⟨q,hq⟩:=Ex (nV b);have HQ:=Ih hq;clear hb Cz fD dM dO dH hq;go_upto_region 6 with fail;have sH:=Ih (HT.below ((aC _ _).alloc (aA _) (cY #[cU b.name,cV b.static,cS dA b.ty.kind,cU b.ty.name,cT ov.tv.pn ov.tv.nn ov.tv.kn,cT ov.tv.pp ov.tv.np ov.tv.kp,cV b.ty.many,cS dA b.regs,cT ov.pc ov.nc ov.kc] 48)));have yK:=aH wr (cY #[cU b.name,cV b.static,cS dA b.ty.kind,cU b.ty.name,cT ov.tv.pn ov.tv.nn ov.tv.kn,cT ov.tv.pp ov.tv.np ov.tv.kp,cV b.ty.many,cS dA b.regs,cT ov.pc ov.nc ov.kc] 48);obtain⟨W,hW⟩:=Ex (wr.alloc (cY #[cU b.name,cV b.static,cS dA b.ty.kind,cU b.ty.name,cT ov.tv.pn ov.tv.nn ov.tv.kn,cT ov.tv.pp ov.tv.np ov.tv.kp,cV b.ty.many,cS dA b.regs,cT ov.pc ov.nc ov.kc] 48));have ZiW:=0;exact V478)
  ·obtain rfl:dY=k:=Om;clear dH;have z1:wr.cell? ⟨w.heap.size,1,none⟩=some (cT yY fW v.kg):=cell_of_row wr _ 1 _ _ _ HT.mad;go_wp2_with fail;clear z1;go_loopg[74] fW (fun gk v74 wr=>∃(j:Nat) (pv:Option Addr) (kv:Nat) (L:List (List UInt8×Value)),j≤fW∧gk=fW-j∧v74=cS dA j∧TakeAt w wr bx w.heap.size (w.heap.size+2) (w.heap.size+1) #[cT wV dY v.kb,cT yY fW v.kg,cT yX iK v.ko] pb dY kb pu dY ku pv j kv L∧Ents wO ((things m).take (dY+j)) L∧∀i (hi:i<m.globals.length),i<j→oX m.globals[i]=true∧nW m.globals[i].name=true);(case atStart=>exact⟨0,_,_,_,aJ _,rfl,rfl,HT,Ox,fun j hj h=>by omega⟩)
   case round=>
    clear HT Ox HG;obtain⟨j,pv,kv,L,hj,hgk,rfl,ht,Ye,eT⟩:=hrel;have HG:=Ih hgk;have HT:=Ih ht;have Ox:=Ih Ye;have ch:=Ih eT;have HW2:=Ih (MD.trans (ht.bel.mono zO));clear hgk ht Ye eT;by_cases dH:j<fW;(·(have lA:j<m.globals.length:=by rw[Ou.out];exact dH);obtain⟨c2,qu,gP,hc,dO⟩:=YZ.get Om;obtain rfl:=gP;obtain⟨tv,dM,Cz⟩:=dO j lA;obtain⟨g,hg⟩:=Ex (m.globals[j]);rw[←hg]at dM Cz;obtain⟨te,fD⟩:=Cz.ty;obtain⟨p0,p1,p2,p3,p4,p5,p6,p7⟩:=yO HW2 hc dM;have Qn:(j:Int)<fW:=Om;have Mq:=Ih hg;have EJ:=Ih Cz;have sG:=Ih fD;have z0:=HT.mad;clear hg Cz fD dM dO dH;go_upto_region 14 with fail;have sH:=Ih (HT.below ((aC _ _).alloc (aA _) (cY #[cU g.name,cV g.static,cS dA g.ty.kind,cU g.ty.name,cT tv.pn tv.nn tv.kn,cT tv.pp tv.np tv.kp,cV g.ty.many,cS dA g.value] 50)));have yK:=aH wr (cY #[cU g.name,cV g.static,cS dA g.ty.kind,cU g.ty.name,cT tv.pn tv.nn tv.kn,cT tv.pp tv.np tv.kp,cV g.ty.many,cS dA g.value] 50);obtain⟨W,hW⟩:=Ex (wr.alloc (cY #[cU g.name,cV g.static,cS dA g.ty.kind,cU g.ty.name,cT tv.pn tv.nn tv.kn,cT tv.pp tv.np tv.kp,cV g.ty.many,cS dA g.value] 50));have ZiX:=0;exact V478)
    ·obtain rfl:fW=j:=Om;clear dH;have z2:wr.cell? ⟨w.heap.size,2,none⟩=some (cT yX iK v.ko):=cell_of_row wr _ 2 _ _ _ HT.mad;go_wp2_with fail;clear z2;go_loopg[141] iK (fun gk v141 wr=>∃(i:Nat) (L:List (List UInt8×Value)),i≤iK∧gk=iK-i∧v141=cS dA i∧TakeAt w wr bx w.heap.size (w.heap.size+2) (w.heap.size+1) #[cT wV dY v.kb,cT yY fW v.kg,cT yX iK v.ko] pb dY kb pu dY ku pv fW kv L∧Ents wO ((things m).take (dY+fW+i)) L∧∀o (ho:o<m.outs.length),o<i→wW m.outs[o]=true∧nW m.outs[o].name=true);(case atStart=>exact⟨0,_,aJ _,rfl,rfl,HT,Ox,fun j hj h=>by omega⟩)
     case round=>
      clear HT Ox HG;obtain⟨i,L,hi,hgk,rfl,ht,Ye,eT⟩:=hrel;have HG:=Ih hgk;have HT:=Ih ht;have Ox:=Ih Ye;have RR:=Ih eT;have HW3:=Ih (MD.trans (ht.bel.mono zO));clear hgk ht Ye eT;by_cases dH:i<iK;(·(have eZ:i<m.outs.length:=by rw[Us.out];exact dH);obtain⟨c3,co3,gP,hc,dO⟩:=HOS.get Om;obtain rfl:=gP;obtain⟨tv,dM,Cz⟩:=dO i eZ;obtain⟨g,hg⟩:=Ex (m.outs[i]);rw[←hg]at dM Cz;obtain⟨te,fD⟩:=Cz.ty;obtain⟨p0,p1,p2,p3,p4,p5,p6⟩:=yP HW3 hc dM;have qA:(i:Int)<iK:=Om;have Mq:=Ih hg;have EJ:=Ih Cz;have sG:=Ih fD;have z0:=HT.mad;clear hg Cz fD dM dO dH;go_upto_region 22 with fail;have sH:=Ih (HT.below ((aC _ _).alloc (aA _) (cY #[cU g.name,cS dA g.ty.kind,cU g.ty.name,cT tv.pn tv.nn tv.kn,cT tv.pp tv.np tv.kp,cV g.ty.many,cV g.fn] 56)));have yK:=aH wr (cY #[cU g.name,cS dA g.ty.kind,cU g.ty.name,cT tv.pn tv.nn tv.kn,cT tv.pp tv.np tv.kp,cV g.ty.many,cV g.fn] 56);obtain⟨W,hW⟩:=Ex (wr.alloc (cY #[cU g.name,cS dA g.ty.kind,cU g.ty.name,cT tv.pn tv.nn tv.kn,cT tv.pp tv.np tv.kp,cV g.ty.many,cV g.fn] 56));have ZiY:=0;exact V478)
      ·obtain rfl:iK=i:=Om;clear dH
       have HEA:Hid (Ents wO (things m) L):=Ih (by
        have kN:(things m).length=dY+fW+iK:=by
         unfold things
         simp only[aD,aI]
         rw[jC.out,Ou.out,Us.out]
        have hk:=Ox
        rw[←kN,List.take_length]at hk
        exact hk)
       have rC:Hid (r=true):=Ih (by
        have hk:=HEA
        rw[HR.out]
        refine zi (fun j hj=>fP j hj (by rw[jC.out]at hj;exact hj)) (fun j hj=>ch j hj (by rw[Ou.out]at hj;exact hj)) (fun j hj=>RR j hj (by rw[Us.out]at hj;exact hj)) ?_
        rw[←hk.key]
        exact HT.nd)
       go_wp2_with fail;refine dP (Two bx (cY #[cS dA 0,cS .i32 0,cT none 0 0,cS dA 0,cT pb dY kb,cT pu dY ku,cT pv fW kv,cT none 0 0,cS dA 0,cS dA 0,cS dA 0] 88 (0,0)) (w.heap.size+2) (cY #[Value.map (some (w.heap.size+1))] 90 (0,0))) [10] [([0,1,2,3,4,5],6),([],7),([8,9],10)] [] eE Kr (fun _ _ d _ _ h=>by cases d<;>exact h) ((show Two bx _ _ _ wr from⟨HT.box,HT.var⟩)) ?_;intro ι _ F HD HE;have fx:=fun n=>oY (HD n).1;have fb:=fun n=>cell_of_row (F n) _ 0 _ _ _ (HD n).2;refine dL ?_;have Z0R:=0;exact V3
end
end Go.Proofs.YtfbmaffacikgbaaGreat
