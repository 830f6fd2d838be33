/- A part of the proof of EmitSays. -/
import Derived.Test.YtfbmaffacikgbaaGreatW4
set_option maxRecDepth 100000
set_option maxHeartbeats 4000000
set_option linter.unusedVariables false
set_option linter.unusedSimpArgs false
open Go renaming Calls→O
open Go.Proofs.Tryz renaming prog→U
open Nat renaming le_refl→aA,lt_of_lt_of_le→aF,le_trans→aG,zero_le→aJ
open List renaming getElem?_eq_getElem→aB,length_append→aD,getElem_mem→aE,length_map→aI,take_succ_eq_append_getElem→aL,getD_eq_getElem?_getD→aN,length_take→aO,mem_cons_of_mem→aP,getElem_of_mem→aQ,map_append→aS,length_nil→aT,mem_cons_self→aU,take_of_length_le→aY,map_cons→bC,getElem?_append_right→bD,cons_append→bI,nil_append→bJ,append_assoc→bP,foldl_cons→cA,getElem_map→cH,all_eq_true→cJ,flatMap_cons→cL,map_nil→cM
open Go.RowKit.Below renaming refl→aC,heap_setCell→bV
open Go.World renaming ownsRow_nil→bE,frozen?→bN,setCell→cN
open Go.Lib renaming alloc_old→aR
open Bool renaming and_eq_true→aV
open Go.Value renaming ownBlock→cO
open Go.Proofs.Tryz renaming underlying4→bQ,underlying9→bW
open List.cons renaming injEq→cD
open Go.Result renaming andThen→cG
open Go.ByteArray renaming toList_eq→cK
open Go.Value renaming int→cS
open Go.Value renaming slice→cT
open Go.Value renaming string→cU
open Go.Value renaming bool→cV
open Go.Value renaming pointer→cW
open Go.Value renaming agg→cX
open Go.Obj renaming cells→cY
open Go.Ending renaming returned→cZ
open Go.IntKind renaming i64→dA
namespace Go.Proofs.YtfbmaffacikgbaaGreat
variable {w W w' w1 wr w2:World} {B r k ns i base size d bp n' k' co b:Nat} {v v1 v0 v2 v3 v4 v9 v':Value} {e:TypeId} {xs:List Value} {l:List Int} {a:Act} {P:Program} {p pc pd pr ps:Option Addr} {bs:List Nat} {L:List (List Int)} {cs:Array Value} {s:ByteArray} {x:Int}
section
open Go.RowKit
theorem bcell {B:Nat} {W w1:World} (hb:Below B W w1):(∀b o,b<B→w1.cell? ⟨b,o,none⟩=W.cell? ⟨b,o,none⟩)∧(∀b o,b<B→w1.frozen? ⟨b,o,none⟩=W.frozen? ⟨b,o,none⟩):=
 ⟨fun b o h=>hb.cell (p:=⟨b,o,none⟩) h,fun b o h=>hb.frozen (p:=⟨b,o,none⟩) h⟩
theorem dF (w:World) (o o':Obj):((w.alloc o).alloc o').heap[w.heap.size+1]? =some o':=by have h:=heap_alloc_new (w.alloc o) o';rwa[show(w.alloc o).heap.size=w.heap.size+1 by simp]at h
theorem Fh {w:World} {b:Nat} {t:TypeId} {v0 v1 v2 v3:Value} (h:w.heap[b]? =some (cY #[v0,v1,v2,v3] t (0,0))):
 w.cell? ⟨b,0,none⟩=some v0∧w.cell? ⟨b,1,none⟩=some v1∧w.cell? ⟨b,2,none⟩=some v2∧w.cell? ⟨b,3,none⟩=some v3∧∀o,w.frozen? ⟨b,o,none⟩=false:=
 ⟨cell_of_row w b 0 _ _ _ h,cell_of_row w b 1 _ _ _ h,cell_of_row w b 2 _ _ _ h,cell_of_row w b 3 _ _ _ h,fun o=>by simp[bN,h]⟩
theorem fV {w:World} {b:Nat} {t:TypeId} {v0 v1 v2 v3 v4:Value} (h:w.heap[b]? =some (cY #[v0,v1,v2,v3,v4] t (0,0))):
 w.cell? ⟨b,0,none⟩=some v0∧w.cell? ⟨b,1,none⟩=some v1∧w.cell? ⟨b,2,none⟩=some v2∧w.cell? ⟨b,3,none⟩=some v3∧w.cell? ⟨b,4,none⟩=some v4∧∀o,w.frozen? ⟨b,o,none⟩=false:=
 ⟨cell_of_row w b 0 _ _ _ h,cell_of_row w b 1 _ _ _ h,cell_of_row w b 2 _ _ _ h,cell_of_row w b 3 _ _ _ h,cell_of_row w b 4 _ _ _ h,fun o=>by simp[bN,h]⟩
theorem kA {w:World} {base:Nat} {e:TypeId} {size n:Nat} {v:Value} {xs:List Value} (h:w.ownsRow base e size v n xs) {g:Nat} {t:TypeId} {cs:Array Value} {fz:Nat×Nat}
 (hg:w.heap[g]? =some (cY cs t fz)) (fM:e≠t):some g≠v.ownBlock:=by rcases h.2 with⟨rfl,_⟩|⟨g',gN,mU,rfl,_,hh,_⟩;(·simp[cO]);(·intro he;(obtain rfl:g=g':=by simpa[cO]using he);rw[hg]at hh;injection hh with hh;injection hh with _ ht;exact fM ht.symm)
theorem dB {w:World} {g:Nat} {o:Obj} (h:w.heap[g]? =some o):g<w.heap.size:=(Array.getElem?_eq_some_iff.1 h).1
theorem Fj (b j:Nat):(⟨b,0,none⟩:Addr).add j=⟨b,j,none⟩:=by simp only[Addr.add,Nat.zero_add];split;(·rename_i h;rw[h]);(·rfl)
theorem XC {w:World} (v0 v1 v2 v3:Value) (t:TypeId):∀j u,[v0,v1,v2,v3][j]? =some u→(w.alloc (cY #[v0,v1,v2,v3] t)).cell? ((⟨w.heap.size,0,none⟩:Addr).add j)=some u:=by intro j u hj;have h:=cell_of_row (w.alloc (cY #[v0,v1,v2,v3] t)) w.heap.size j _ _ _ (heap_alloc_new w _);rw[Fj,h,←hj];simp
theorem Ex.{u} {α:Sort u} (e:α):∃x,x=e:=⟨e,rfl⟩
theorem Ih {p:Prop} (h:p):Hid p:=Lib.hid h
abbrev dG (w w1:World):Prop:=Below w.heap.size w w1
theorem Tm {w w1 w2:World} (h:Below w.heap.size w w1) (g:Below w1.heap.size w1 w2):Below w.heap.size w w2:=h.trans (g.mono h.size)
theorem Kb {w w1:World} {b:Nat} {o:Obj} (h:Below w.heap.size w w1) (e:w.heap[b]? =some o):w1.heap[b]? =some o:=(h.block _ (dB e)).trans e
abbrev CP:=Calls Tryz.prog
abbrev RB (w:World) (v:Value):Ending→World→Prop:=fun e w'=>e=cZ v∧Below w.heap.size w w'
end
section
theorem Om {p:Prop} (h:p:=by omega):p:=h
theorem De {p:Prop} (h:p:=by decide):p:=h
theorem Si {p:Prop} (h:p:=by simp):p:=h
theorem Sv {p:Prop} (h:p:=by(simp;omega)):p:=h
theorem Rf {p:Prop} (h:p:=by rfl):p:=h
theorem Kr {p:Prop} (h:p:=by kernel_rfl):p:=h
theorem Gn {p:Prop} (h:p:=by go_num):p:=h
end
section
open Go.RowKit
theorem Ba (w:World) (t tx ty e:TypeId) (i:TypeInfo) (ht:P.underlying t=some (.slice e)) (hi:P.info? e=some i)
 (g im RW:Nat) (mU:Array Value) (hg:w.heap[g]? =some (cY mU e (0,0))) (x:Value) (m:Nat) (kB:List Value) (hs:Src P i.size tx x m kB w)
 (Xr:im+m≤RW) (E4:im*i.size+kB.length≤mU.size):
 (Builtin.append_ #[t,tx] ty #[cT (some ⟨g,0,none⟩) im RW,x]).run P w=
  .ok (.slice (some ⟨g,0,none⟩) (im+m) RW) (w.setRow g (mU.toList.take (im*i.size)++kB++mU.toList.drop (im*i.size+kB.length)).toArray):=by have rV:=run_storeCells_at P g (im*i.size) e kB 0 mU w hg (by simpa using E4) hs.one;simp only[Nat.add_zero]at rV;rcases hs.kind with⟨e',hk⟩|hk<;>simp[Builtin.append_,run_underlying ht,run_underlying hk,sizeOf,typeInfo,hi,hs.len,Xr,hs.cells,Addr.add_lit,rV]
theorem Bb (w:World) (base:Nat) (t tx ty e:TypeId) (i:TypeInfo) (z:Value) (size bytes:Nat) (ht:P.underlying t=some (.slice e)) (hi:P.info? e=some i) (hz:i.zero=some z)
 (Kj:i.size=size) (Tu:i.bytes=bytes) (Y4:z.cells.size=size) (gO:0<size)
 (v:Value) (n:Nat) (xs:List Value) (dU:w.ownsRow base e size v n xs) (x:Value) (m:Nat) (kB:List Value) (hs:Src P size tx x m kB w)
 (h63:n+m≤maxLen) (Fc:(n+m)*bytes≤140737488355328) (oH:base≤w.heap.size):
 ∃v' w',(Builtin.append_ #[t,tx] ty #[v,x]).run P w=.ok v' w'∧w'.ownsRow base e size v' (n+m) (xs++kB)∧w.grownBy w' v.ownBlock∧
  (v'.ownBlock=v.ownBlock∨v'.ownBlock=some w.heap.size):=by
 subst Kj;subst Tu;have hl:=hs.newsLen;(have hsmall:n+m≤9223372036854775807:=by simp only[maxLen]at h63;omega);(have kN:(xs++kB).length=(n+m)*i.size:=by rw[aD,dU.1,hl,Nat.add_mul])
 have grown:∀(old:Nat),old<n+m→∀(row:Option Nat),
  (w.drew.alloc (cY ((xs++kB).toArray++Builtin.zeroCells z.cells (grownCap w (n+m) old e-(n+m))) e)).ownsRow base e i.size
   (cT (some ⟨w.heap.size,0,none⟩) (n+m) (grownCap w (n+m) old e)) (n+m) (xs++kB)∧
  w.grownBy (w.drew.alloc (cY ((xs++kB).toArray++Builtin.zeroCells z.cells (grownCap w (n+m) old e-(n+m))) e)) row:=by
  intro old ho row
  have Vh:=grownCap_ge w (n+m) old e
  have Dv:grownCap w (n+m) old e≤maxLen:=grownCap_le_maxLen w (n+m) old e h63
  refine⟨⟨kN,.inr ⟨w.heap.size,_,_,rfl,oH,heap_alloc_new w.drew _,Vh,Dv,?_,?_⟩⟩,⟨rfl,rfl,rfl,by simp,fun k hk _=>Below.heap_alloc _ _ _ hk⟩⟩
  ·simp only[Array.size_append,List.size_toArray,size_zeroCells,Y4,aD,dU.1,hl,←Nat.add_mul]
   congr 1
   omega
  ·simp only[Array.toList_append]
   rw[←kN]
   exact List.take_left
 rcases dU.2 with⟨rfl,rfl⟩|⟨g,gN,mU,rfl,zY,hg,jA,Dv,kE,htake⟩;(·have hx:xs=[]:=List.eq_nil_of_length_eq_zero (by simpa using dU.1);subst hx;by_cases hm:m=0;(·subst hm;have hn:kB=[]:=List.eq_nil_of_length_eq_zero (by simpa using hl);subst hn;refine⟨.slice none 0 0,w,?_,bE w base e i.size,⟨rfl,rfl,rfl,aA _,fun _ _ _=>rfl⟩,.inl rfl⟩;rcases hs.kind with⟨e',hk⟩|hk<;>simp[Builtin.append_,run_underlying ht,run_underlying hk,sizeOf,typeInfo,hi,hs.len,hs.cells]);(·have hr:=run_append_grow_src (P:=P) w t tx ty e i z ht hi hz none 0 0 [] (run_firstCells_none w.drew i.size 0 0 0) x m kB hs Om Om (growslice_fits Om Fc);have nI:=grown 0 Om (cO (.slice none 0 0));exact⟨_,_,hr,nI.1,nI.2,.inr rfl⟩));(·by_cases Xr:n+m≤gN;(·(have E4:n*i.size+kB.length≤mU.size:=by rw[hl,kE,←Nat.add_mul];exact Nat.mul_le_mul_right _ Xr);have hr:=Ba (P:=P) w t tx ty e i ht hi g n gN mU hg x m kB hs Xr E4;refine⟨_,_,hr,⟨kN,.inr ⟨g,gN,_,rfl,zY,setRow_heap w g mU _ e _ hg,Xr,Dv,?_,?_⟩⟩,⟨rfl,rfl,rfl,by simp,fun k _ hk=>setRow_other w g k _ (fun e=>hk (by simp[cO,e]))⟩,.inl rfl⟩;(·simp only[List.size_toArray,aD,aO,List.length_drop,Array.length_toList];omega);(·rw[htake,←kN];exact List.take_left));(·have holds:∀j u,xs[j]? =some u→w.cell? ((⟨g,0,none⟩:Addr).add j)=some u:=dU.cells (g:=g) rfl;have hr:=run_append_grow_src (P:=P) w t tx ty e i z ht hi hz (some ⟨g,0,none⟩) n gN xs (run_firstCells_some w.drew i.size n ⟨g,0,none⟩ n gN xs dU.1 (by simpa using holds)) x m kB hs Om Om (growslice_fits Om Fc);have nI:=grown gN Om (cO (.slice (some ⟨g,0,none⟩) n gN));exact⟨_,_,hr,nI.1,nI.2,.inr rfl⟩))
theorem Cg {o:Oper} {K:Act→World→Prop} {Q:Exit→Act→World→Prop} (s x:Operand) (t tx:TypeId)
 (ho:o.op=.call {callee:=.builtin .append,args:=#[s,x],argTypes:=#[t,tx]})
 (base:Nat) (e:TypeId) (i:TypeInfo) (z:Value) (size bytes:Nat) (ht:P.underlying t=some (.slice e)) (hi:P.info? e=some i) (hz:i.zero=some z)
 (Kj:i.size=size) (Tu:i.bytes=bytes) (Y4:z.cells.size=size) (gO:0<size)
 (v:Value) (n:Nat) (xs:List Value) (hv:a.eval s=v) (dU:w.ownsRow base e size v n xs)
 (xv:Value) (m:Nat) (kB:List Value) (hx:a.eval x=xv) (hs:Src P size tx xv m kB w)
 (h63:n+m≤maxLen) (Fc:(n+m)*bytes≤140737488355328) (oH:base≤w.heap.size)
 (h:∀v' w',w'.ownsRow base e size v' (n+m) (xs++kB)→w.grownBy w' v.ownBlock→(v'.ownBlock=v.ownBlock∨v'.ownBlock=some w.heap.size)→K (a.put o.dst v') w'):o.wp P a w K Q:=by obtain⟨v',w',hr,h2,h3,h4⟩:=Bb (P:=P) w base t tx o.type e i z size bytes ht hi hz Kj Tu Y4 gO v n xs dU xv m kB hs h63 Fc oH;unfold Oper.wp execOp;simp only[ho,resolve,invoke,builtin,Sem.run_bind,Sem.run_pure,Result.andThen_ok,List.map_toArray,bC,cM,hv,hx,hr];exact h v' w' h2 h3 h4
theorem oR {ops:Array Oper} {rest:List Oper} {o:Oper} {Q:Exit→Act→World→Prop} (KM:o.guard=none) (s x:Operand) (t tx:TypeId)
 (ho:o.op=.call {callee:=.builtin .append,args:=#[s,x],argTypes:=#[t,tx]})
 (base:Nat) (e:TypeId) (i:TypeInfo) (z:Value) (size bytes:Nat) (ht:P.underlying t=some (.slice e)) (hi:P.info? e=some i) (hz:i.zero=some z)
 (Kj:i.size=size) (Tu:i.bytes=bytes) (Y4:z.cells.size=size) (gO:0<size)
 (v:Value) (n:Nat) (xs:List Value) (hv:a.eval s=v) (dU:w.ownsRow base e size v n xs)
 (xv:Value) (m:Nat) (kB:List Value) (hx:a.eval x=xv) (hs:Src P size tx xv m kB w)
 (h63:n+m≤maxLen) (Fc:(n+m)*bytes≤140737488355328) (oH:base≤w.heap.size)
 (h:∀v' w',w'.ownsRow base e size v' (n+m) (xs++kB)→w.grownBy w' v.ownBlock→(v'.ownBlock=v.ownBlock∨v'.ownBlock=some w.heap.size)→wpList P ops Q rest (a.put o.dst v') w'):wpList P ops Q (o::rest) a w:=
 wpList_plain KM fun _ hK=>Cg s x t tx ho base e i z size bytes ht hi hz Kj Tu Y4 gO v n xs hv dU xv m kB hx hs h63 Fc oH fun v' w' h2 h3 h4=>hK _ _ (h v' w' h2 h3 h4)
theorem eQ {id:Nat} {Q:Exit→Act→World→Prop} {l:List Oper} (n:Nat) (hm:P.follows .mixedOrders=true) (hB:Region.lexTailB .any l.toArray n=true)
 (h:wpStill P l.toArray w.drew (fun a'=>wpList P l.toArray Q (l.drop n) a' w.drew) (l.take n) a):(Code.region id l.toArray true).wp P Q a w:=
 wp_region_still_tail n hm hB h
theorem fA {o:Nat} (h:w.cell? ⟨b,o,none⟩=some v):b<w.heap.size:=by unfold World.cell? at h;rcases e:w.heap[b]? with _|q;(·simp[e]at h);(·exact dB e)
theorem eE:U.follows .mixedOrders=true:=by kernel_rfl
def SliceAt (w:World) (k:IntKind) (p:Option Addr) (l:List Int):Prop:=
 l.length=0∨∃c co,p=some ⟨c,co,none⟩∧c<w.heap.size∧∀j,j<l.length→w.cell? ⟨c,co+j,none⟩=some (cS k (l.getD j 0))
def In32 (l:List Int):Prop:=∀j:Nat,-2147483648≤l.getD j 0∧l.getD j 0≤2147483647
theorem SliceAt.below {k:IntKind} (h:SliceAt w k p l) (hb:dG w w'):SliceAt w' k p l:=by rcases h with h|⟨c,co,rfl,hc,yI⟩;(·exact .inl h);(·exact .inr ⟨c,co,rfl,aF hc hb.size,fun j hj=>(hb.cell (p:=⟨c,co+j,none⟩) hc).trans (yI j hj)⟩)
theorem grown_box:w.grownBy (w.setCell ⟨b,0,none⟩ v) (some b):=
 ⟨rfl,rfl,rfl,by simp[cN],fun k _ hk=>bV _ _ _ k (fun e=>hk (by rw[e]))⟩
theorem lT {t:TypeId} (h:w.heap[b]? =some (cY cs t (0,0))) (hc:cs=xs.toArray):∀j u,xs[j]? =some u→w.cell? ((⟨b,0,none⟩:Addr).add j)=some u:=by intro j u hj;rw[Fj,cell_of_row w b j _ _ _ h,hc,←hj];simp
theorem eY {id:Nat} {Q:Exit→Act→World→Prop} {l:List Oper} (D:World→Prop) (hm:P.follows .mixedOrders=true) (hB:Region.lexB .any l.toArray=true) (hD:D w.drew)
 (h:∀(ι:Type) [Nonempty ι] (F:ι→World),Hid (∀n,D (F n))→Hid (∀w',D w'→∃n,w'=F n)→wpQuiet P l.toArray (fun w'=>∃n,w'=F n) (fun a'=>∀w',D w'→Q .normal a' w') l a):
 (Code.region id l.toArray true).wp P Q a w:=by have Z2p:=0;exact V43
theorem eG {f:FuncId} {args:Array Value} {D:World→Prop} {ι:Type} {F:ι→World} (hE:Hid (∀w',D w'→∃n,w'=F n)) {n:ι} (h:Calls P f args (F n) fun e w'=>e=cZ v∧D w'):
 Calls P f args (F n) fun e w'=>e=cZ v∧∃m,w'=F m:=h.mono fun _ _ ⟨e,hd⟩=>⟨e,hE.out _ hd⟩
theorem eW (h:Below B w w1) (h2:dG w1 w2) (hB:B≤w1.heap.size):Below B w w2:=h.trans (h2.mono hB)
theorem dD (w:World):dG w w.drew:=⟨rfl,rfl,rfl,aA _,fun _ _=>rfl⟩
end
section
namespace Cp
def find (op:Int):Option (List UInt8×List UInt8×Bool):=
 if op=1 then some ([109,111,118],[65,66],false)
 else if op=2 then some ([109,111,118,105],[65,73],true)
 else if op=3 then some ([109,111,118,104],[65,73],false)
 else if op=4 then some ([97,100,100],[65,66,67],false)
 else if op=5 then some ([115,117,98],[65,66,67],false)
 else if op=6 then some ([109,117,108],[65,66,67],false)
 else if op=7 then some ([104,105,103,104],[65,66,67],false)
 else if op=8 then some ([100,105,118],[65,66,67],false)
 else if op=9 then some ([114,101,109],[65,66,67],false)
 else if op=10 then some ([97,110,100],[65,66,67],false)
 else if op=11 then some ([111,114],[65,66,67],false)
 else if op=12 then some ([120,111,114],[65,66,67],false)
 else if op=13 then some ([108,101,115,115],[65,66,67],false)
 else if op=14 then some ([108,111,119],[65,66,67],false)
 else if op=15 then some ([115,97,109,101],[65,66,67],false)
 else if op=16 then some ([97,100,100,105],[65,66,73],true)
 else if op=17 then some ([108,111,97,100],[65,66,73],true)
 else if op=18 then some ([115,116,111,114,101],[65,66,73],true)
 else if op=19 then some ([106,117,109,112],[73],false)
 else if op=20 then some ([122,101,114,111],[65,73],false)
 else if op=21 then some ([99,97,108,108],[73],false)
 else if op=22 then some ([99,97,108,108,114],[65],false)
 else if op=23 then some ([106,117,109,112,114],[65],false)
 else if op=24 then some ([111,117,116],[65],false)
 else if op=25 then some ([101,120,105,116],[65],false)
 else none
def formV (op:Int):Value:=
 match find op with
 |some (n,f,s)=>.agg #[.string ⟨n.toArray⟩,.string ⟨f.toArray⟩,.int .i64 (if s then-32768 else 0),.int .i64 (if s then 32767 else 65535)]
 |none=>.agg #[.string ⟨#[]⟩,.string ⟨#[]⟩,.int .i64 0,.int .i64 0]
theorem op_cases (op:Int):op=1∨op=2∨op=3∨op=4∨op=5∨op=6∨op=7∨op=8∨op=9∨op=10∨op=11∨op=12∨op=13∨op=14∨op=15∨op=16∨op=17∨op=18∨op=19∨op=20∨op=21∨op=22∨op=23∨op=24∨op=25∨(op≤0∨26≤op):=Om
theorem find_none (op:Int) (h:op≤0∨26≤op):find op=none:=by unfold find;(repeat(rw[if_neg Om]))
end Cp
namespace Cp
def okV (F:List UInt8) (lo hi x n:Int):Bool:=
 if F.contains x.toNat.toUInt8 then
  if x=73 then decide (lo≤n∧n≤hi)else decide (0≤n∧n≤15)
 else decide (n=0)
def nameAt (k:Nat):Int:=if k=0 then 65 else if k=1 then 66 else if k=2 then 67 else 73
def fieldAt (a b c i:Int) (k:Nat):Int:=if k=0 then a else if k=1 then b else if k=2 then c else i
def okTo (F:List UInt8) (lo hi a b c i:Int) (k:Nat):Prop:=∀j,j<k→okV F lo hi (nameAt j) (fieldAt a b c i j)=true
def okAll (F:List UInt8) (lo hi a b c i:Int):Bool:=okV F lo hi 65 a&&okV F lo hi 66 b&&okV F lo hi 67 c&&okV F lo hi 73 i
def loOf (s:Bool):Int:=if s then-32768 else 0
def hiOf (s:Bool):Int:=if s then 32767 else 65535
def mayE (op a b c i:Int):Int:=
 match find op with
 |none=>2
 |some (_,f,s)=>if okAll f (loOf s) (hiOf s) a b c i then 0 else 6
theorem okTo_zero (F:List UInt8) (lo hi a b c i:Int):okTo F lo hi a b c i 0:=fun _ h=>absurd h Om
theorem okTo_succ {F:List UInt8} {lo hi a b c i:Int} {k:Nat} (h:okTo F lo hi a b c i k) (h':okV F lo hi (nameAt k) (fieldAt a b c i k)=true):okTo F lo hi a b c i (k+1):=fun j hj=>by
 by_cases e:j=k
 ·subst e;exact h'
 ·exact h j (by omega)
theorem okTo_four {F:List UInt8} {lo hi a b c i:Int} (h:okTo F lo hi a b c i 4):okAll F lo hi a b c i=true:=by have h0:=h 0 Om;have h1:=h 1 Om;have h2:=h 2 Om;have h3:=h 3 Om;simp[nameAt,fieldAt]at h0 h1 h2 h3;simp[okAll,h0,h1,h2,h3]
theorem okAll_false {F:List UInt8} {lo hi a b c i:Int} {k:Nat} (hk:k<4) (h:okV F lo hi (nameAt k) (fieldAt a b c i k)=false):okAll F lo hi a b c i=false:=by(have:k=0∨k=1∨k=2∨k=3:=by omega);rcases this with rfl|rfl|rfl|rfl<;>simp[nameAt,fieldAt]at h<;>simp[okAll,h]
end Cp
namespace Cp
def decC (f:List UInt8) (n:Int):Int:=if f.contains 73 then 0 else n%65536
def decI (f:List UInt8) (s:Bool) (n:Int):Int:=
 if f.contains 73 then(if s then(if 32768≤n%65536 then n%65536-65536 else n%65536)else n%65536)else 0
def dec (n:Int):Option (Int×Int×Int×Int×Int):=
 match find (n/16777216)with
 |none=>none
 |some (_,f,s)=>
  if mayE (n/16777216) (n/1048576%16) (n/65536%16) (decC f n) (decI f s n)=0 then
   some (n/16777216,n/1048576%16,n/65536%16,decC f n,decI f s n)
  else none
def instrOf (op a b c i:Int):Value:=cX #[cS dA op,cS dA a,cS dA b,cS dA c,cS dA i]
def decV (d:Option (Int×Int×Int×Int×Int)):Value:=
 match d with
 |none=>instrOf 0 0 0 0 0
 |some (op,a,b,c,i)=>instrOf op a b c i
end Cp
namespace Cp
theorem ok_bounds (op a b c i:Int) (h:mayE op a b c i=0):
 1≤op∧op≤25∧0≤a∧a≤15∧0≤b∧b≤15∧0≤c∧c≤15∧-32768≤i∧i≤65535∧(c=0∨i=0):=by have ZjG:=0;exact V502
def encN (op a b c i:Int):Int:=op*16777216+a*1048576+b*65536+(c+i)%65536
theorem A2 (i:Int) (h1:-32768≤i) (h2:i≤65535):bits .or dA 0 i=i:=by show IntKind.i64.wrap ((BitVec.ofInt 64 0|||BitVec.ofInt 64 i).toNat:Int)=i;rw[show BitVec.ofInt 64 0=0#64 from rfl,BitVec.zero_or,BitVec.toNat_ofInt,IntKind.wrap_i64];omega
theorem jj (c:Int) (h1:-32768≤c) (h2:c≤65535):bits .or dA c 0=c:=by show IntKind.i64.wrap ((BitVec.ofInt 64 c|||BitVec.ofInt 64 0).toNat:Int)=c;rw[show BitVec.ofInt 64 0=0#64 from rfl,BitVec.or_zero,BitVec.toNat_ofInt,IntKind.wrap_i64];omega
theorem or64 (c i:Int) (c0:0≤c) (c1:c≤15) (h1:-32768≤i) (h2:i≤65535) (h:c=0∨i=0):bits .or dA c i=c+i:=by rcases h with h|h;(·subst h;rw[A2 i h1 h2];omega);(·subst h;rw[jj c Om Om];omega)
theorem Jm (n k:Nat) (x y:Int) (x0:0≤x) (x1:x<4294967296) (y0:0≤y) (hx:x=2^k*n) (hy:y<2^k) (hk:(2:Int)^k≤4294967296):bits .or .u32 x y=x+y:=by have e:∀a b:Int,0≤a→a<4294967296→0≤b→b<4294967296→bits .or .u32 a b=((a.toNat|||b.toNat:Nat):Int):=fun a b h1 h2 h3 h4=>u32_or a b h1 h2 h3 h4;rw[e x y x0 x1 y0 Om];(have Y6:x.toNat=2^k*n:=by subst hx;(have:((2:Int)^k*(n:Int))=((2^k*n:Nat):Int):=by simp);rw[this,Int.toNat_natCast]);(have hyn:y.toNat<2^k:=by(have:((2:Int)^k)=((2^k:Nat):Int):=by simp);rw[this]at hy;omega);rw[Y6,←Nat.two_pow_add_eq_or_of_lt hyn,←Y6];omega
theorem enc_eq (op a b c i:Int) (h1:1≤op) (h2:op≤25) (a1:0≤a) (a2:a≤15) (b1:0≤b) (b2:b≤15) (c1:0≤c) (c2:c≤15) (i1:-32768≤i) (i2:i≤65535) (h:c=0∨i=0):
 bits .or .u32 (bits .or .u32 (bits .or .u32 (op*16777216) (a*1048576)) (b*65536)) (IntKind.u16.wrap (bits .or dA c i)%4294967296)=encN op a b c i:=by rw[or64 c i c1 c2 i1 i2 h];rw[Jm op.toNat 24 (op*16777216) (a*1048576) Om Om Om Om Om Om];rw[Jm (op*16+a).toNat 20 (op*16777216+a*1048576) (b*65536) Om Om Om Om Om Om];(have hw:IntKind.u16.wrap (c+i)%4294967296=(c+i)%65536:=by rw[IntKind.wrap_u16];omega);rw[hw];rw[Jm ((op*16+a)*16+b).toNat 16 (op*16777216+a*1048576+b*65536) ((c+i)%65536) Om Om Om Om Om Om];rfl
end Cp
namespace Cp
def ops:List Int:=[1,2,3,16,17,18,19,21,20,22,23,24,25,4,5,6,7,8,9,10,11,12,13,14,15]
def rowOf (op:Int):List UInt8×List UInt8×Bool:=(find op).getD ([],[],false)
def Jh (op:Int):List Value:=[cS dA op,cU ⟨(rowOf op).1.toArray⟩,cU ⟨(rowOf op).2.1.toArray⟩,cV (rowOf op).2.2]
def cellsTo (k:Nat):List Value:=(ops.take k).flatMap Jh
theorem cellsTo_succ (k:Nat) (hk:k<25):cellsTo (k+1)=cellsTo k++Jh (ops.getD k 0):=by unfold cellsTo;rw[aL (by simpa[ops]using hk),List.flatMap_append];simp[aN,show k<ops.length by simpa[ops]using hk]
def nameK (k:Nat):ByteArray:=⟨(rowOf (4+k)).1.toArray⟩
def names:Array Value:=#[cU (nameK 0),cU (nameK 1),cU (nameK 2),cU (nameK 3),cU (nameK 4),cU (nameK 5),cU (nameK 6),cU (nameK 7),cU (nameK 8),cU (nameK 9),cU (nameK 10),cU (nameK 11)]
theorem lt12 {k:Nat} (h:k<12):k=0∨k=1∨k=2∨k=3∨k=4∨k=5∨k=6∨k=7∨k=8∨k=9∨k=10∨k=11:=by omega
theorem names_at (k:Nat) (h:k<12):names[k]? =some (cU (nameK k)):=by rcases lt12 h with rfl|rfl|rfl|rfl|rfl|rfl|rfl|rfl|rfl|rfl|rfl|rfl<;>rfl
theorem row_at (k:Nat) (h:k<12):Jh (ops.getD (13+k) 0)=[cS dA (4+(k:Int)),cU (nameK k),cU ⟨#[65,66,67]⟩,cV false]:=by rcases lt12 h with rfl|rfl|rfl|rfl|rfl|rfl|rfl|rfl|rfl|rfl|rfl|rfl<;>rfl
end Cp
namespace Cp
def rowV (op:Int):Value:=
 match find op with
 |some (n,f,s)=>.agg #[.int .i64 op,.string ⟨n.toArray⟩,.string ⟨f.toArray⟩,.bool s]
 |none=>.agg #[.int .i64 0,.string ⟨#[]⟩,.string ⟨#[]⟩,.bool false]
theorem lt25 {k:Nat} (h:k<25):k=0∨k=1∨k=2∨k=3∨k=4∨k=5∨k=6∨k=7∨k=8∨k=9∨k=10∨k=11∨k=12∨k=13∨k=14∨k=15∨k=16∨k=17∨k=18∨k=19∨k=20∨k=21∨k=22∨k=23∨k=24:=by omega
def opAt (k:Nat):Int:=ops.getD k 0
theorem cells_at (k:Nat) (h:k<25):
 (cellsTo 25)[k*4]? =some (cS dA (opAt k))∧(cellsTo 25)[k*4+1]? =some (cU ⟨(rowOf (opAt k)).1.toArray⟩)∧
 (cellsTo 25)[k*4+2]? =some (cU ⟨(rowOf (opAt k)).2.1.toArray⟩)∧(cellsTo 25)[k*4+3]? =some (cV (rowOf (opAt k)).2.2):=by rcases lt25 h with rfl|rfl|rfl|rfl|rfl|rfl|rfl|rfl|rfl|rfl|rfl|rfl|rfl|rfl|rfl|rfl|rfl|rfl|rfl|rfl|rfl|rfl|rfl|rfl|rfl<;>exact⟨rfl,rfl,rfl,rfl⟩
theorem find_opAt (k:Nat) (h:k<25):find (opAt k)=some (rowOf (opAt k)):=by rcases lt25 h with rfl|rfl|rfl|rfl|rfl|rfl|rfl|rfl|rfl|rfl|rfl|rfl|rfl|rfl|rfl|rfl|rfl|rfl|rfl|rfl|rfl|rfl|rfl|rfl|rfl<;>rfl
theorem rowV_opAt (k:Nat) (h:k<25):rowV (opAt k)=cX #[cS dA (opAt k),cU ⟨(rowOf (opAt k)).1.toArray⟩,cU ⟨(rowOf (opAt k)).2.1.toArray⟩,cV (rowOf (opAt k)).2.2]:=by unfold rowV;rw[find_opAt k h]
theorem find_none_of (op:Int) (h:∀j,j<25→opAt j≠op):find op=none:=by have ZjH:=0;exact V502
theorem fields_short (op:Int):(match find op with|some (_,f,_)=>f.length|none=>0)≤3:=by have ZjI:=0;exact V502
end Cp
namespace Ob
def hO (n:Int):Bool:=(decide (97≤n)&&decide (n≤122))||(decide (65≤n)&&decide (n≤90))
def nL (n:Int):Bool:=decide (48≤n)&&decide (n≤57)
def nP (n:Int):Bool:=hO n||(nL n||n==95)
def reserved:List (List UInt8):=[[98,114,101,97,107],[99,111,117,110,116],[101,108,115,101],[101,120,116,101,114,110],[101,120,116,114,97],[102,110],[105,102],[105,110,116],[108,111,110,103],[112,117,116],[114,101,116,117,114,110],[115,116,97,116,105,99],[115,116,114,117,99,116],[119,104,105,108,101]]
def nameAt (l:List UInt8) (j:Nat):Bool:=if j=0 then hO (l.getD 0 0).toNat else nP (l.getD j 0).toNat
def kI (l:List UInt8):Bool:=decide (1≤l.length)&&decide (l.length≤16)&&(List.range l.length).all (nameAt l)&&!reserved.contains l
theorem tV {l:List UInt8} (h:l.length<1∨16<l.length):kI l=false:=by unfold kI;rcases h with h|h;(·rw[show decide (1≤l.length)=false by simpa using h];rfl);(·rw[show decide (l.length≤16)=false by simpa using h];simp)
theorem Cr {l:List UInt8} {j:Nat} (hj:j<l.length) (h:nameAt l j=false):kI l=false:=by unfold kI;(have:(List.range l.length).all (nameAt l)=false:=by rw[List.all_eq_false];exact⟨j,List.mem_range.2 hj,by simp[h]⟩);rw[this];simp
theorem A7 {l:List UInt8} (h1:1≤l.length) (h2:l.length≤16) (h:∀j,j<l.length→nameAt l j=true):kI l=!reserved.contains l:=by unfold kI;(have:(List.range l.length).all (nameAt l)=true:=by rw[cJ];exact fun j hj=>h j (List.mem_range.1 hj));rw[this];simp[h1,h2]
theorem A8 {l:List UInt8} {j:Nat} (h:nameAt l j=true):l.getD j 0≠32:=by unfold nameAt at h;intro e;split at h;(·rename_i h0;subst h0;rw[e]at h;simp[hO]at h);(·rw[e]at h;simp[nP,hO,nL]at h)
theorem Uf (c:UInt8) (t:List UInt8):Lib.contains [] (c::t)=false:=by simp[Lib.contains,Lib.index]
theorem contains_cons (b:UInt8) (s:List UInt8) (c:UInt8) (t:List UInt8):Lib.contains (b::s) (c::t)=((c::t).isPrefixOf (b::s)||Lib.contains s (c::t)):=by have hg:=Lib.index_ge s (c::t);unfold Lib.contains;rw[Lib.index];by_cases hp:(c::t).isPrefixOf (b::s)=true;(·rw[if_pos hp,hp];simp);(·rw[if_neg hp,Bool.not_eq_true]at*;rw[hp,Bool.false_or];by_cases h1:Lib.index s (c::t)=-1;(·rw[if_pos (by rw[h1];rfl),h1]);(·rw[if_neg (by simpa using h1)];have:¬Lib.index s (c::t)=-1:=h1;rw[decide_eq_decide];omega))
theorem Od (w r t:List UInt8) (h:∀c∈w,c≠32):Lib.contains (w++r) (32::t)=Lib.contains r (32::t):=by
 induction w with
  |nil=>rfl
  |cons b w ih=>
   rw[bI,contains_cons,ih (fun c hc=>h c (aP _ hc))]
   have hb:((32:UInt8)==b)=false:=beq_eq_false_iff_ne.2 (fun e=>h b (aU ..) e.symm)
   simp[List.isPrefixOf,hb]
theorem Wy (l w r:List UInt8) (hl:∀c∈l,c≠32) (hw:∀c∈w,c≠32):(l++[32]).isPrefixOf (w++32::r)=(w==l):=by
 induction l generalizing w with
  |nil=>
   cases w with
   |nil=>simp[List.isPrefixOf]
   |cons b w=>
    have hb:((32:UInt8)==b)=false:=beq_eq_false_iff_ne.2 (fun e=>hw b (aU ..) e.symm)
    simp[List.isPrefixOf,hb]
  |cons a l ih=>
   cases w with
   |nil=>
    have ha:(a==(32:UInt8))=false:=beq_eq_false_iff_ne.2 (hl a (aU ..))
    simp[List.isPrefixOf,ha]
   |cons b w=>
    rw[bI,bI,List.isPrefixOf,ih w (fun c hc=>hl c (aP _ hc)) (fun c hc=>hw c (aP _ hc)),List.cons_beq_cons]
    congr 1
    exact BEq.comm
theorem Lu (ws:List (List UInt8)) (l:List UInt8) (tM:∀w∈ws,∀c∈w,c≠32) (hl:∀c∈l,c≠32):
 Lib.contains (32::ws.flatMap (·++[32])) (32::(l++[32]))=ws.contains l:=by
 induction ws with
  |nil=>
   rw[List.flatMap_nil,contains_cons,Uf]
   cases l with
   |nil=>rfl
   |cons a l=>simp[List.isPrefixOf]
  |cons w ws ih=>
   rw[cL,contains_cons,bP,List.singleton_append,Od _ _ _ (tM w (aU ..)),ih (fun v hv=>tM v (aP _ hv))]
   rw[List.isPrefixOf,Wy l w _ hl (tM w (aU ..)),List.contains_cons]
   simp only[beq_self_eq_true,Bool.true_and]
   congr 1
   exact BEq.comm
def Pa:List UInt8:=32::reserved.flatMap (·++[32])
theorem Dg (l:List UInt8) (hl:∀c∈l,c≠32):Lib.contains Pa (32::(l++[32]))=reserved.contains l:=
 Lu reserved l De hl
def qL (l:List UInt8) (j:Nat):Bool:=decide (32≤((l.getD j 0).toNat:Int))&&decide (((l.getD j 0).toNat:Int)≤126)
def qR (l:List UInt8):Bool:=decide (1≤l.length)&&decide (l.length≤2000)&&(List.range l.length).all (qL l)
theorem Pe {l:List UInt8} (h:l.length<1∨2000<l.length):qR l=false:=by unfold qR;rcases h with h|h;(·rw[show decide (1≤l.length)=false by simpa using h];rfl);(·rw[show decide (l.length≤2000)=false by simpa using h];simp)
theorem Wi {l:List UInt8} {j:Nat} (hj:j<l.length) (h:qL l j=false):qR l=false:=by unfold qR;(have:(List.range l.length).all (qL l)=false:=by rw[List.all_eq_false];exact⟨j,List.mem_range.2 hj,by simp[h]⟩);rw[this];simp
theorem d9 {l:List UInt8} (h1:1≤l.length) (h2:l.length≤2000) (h:∀j,j<l.length→qL l j=true):qR l=true:=by unfold qR;(have:(List.range l.length).all (qL l)=true:=by rw[cJ];exact fun j hj=>h j (List.mem_range.1 hj));rw[this];simp[h1,h2]
structure lF where
 name:ByteArray
 kind:Int
 static:Bool
 pos:Int
 size:Int
 sign:ByteArray
 frame:Int
structure uN where
 pos:Int
 sym:Int
 add:Int
structure Obj where
 code:List Int
 data:List Int
 syms:List lF
 rels:List uN
def take (c d:Int) (s:lF):Option (Int×Int):=
 if s.kind=3∨s.kind=4 then(if s.pos=0∧s.size=0∧s.frame=0∧s.static=false then some (c,d)else none)
 else if s.size<1∨16000<s.size then none
 else if s.kind=1 then(if s.pos=c∧0≤s.frame∧s.frame≤16000 then some (c+s.size,d)else none)
 else if s.kind=2 then(if s.pos=d∧s.frame=0 then some (c,d+s.size)else none)
 else none
def nZ (seen:List (List UInt8)) (c d:Int) (s:lF):Option (Int×Int):=
 if kI s.name.data.toList&&!seen.contains s.name.data.toList&&qR s.sign.data.toList then take c d s else none
def names (l:List lF):List (List UInt8):=l.map (·.name.data.toList)
def gX (seen:List (List UInt8)) (c d:Int):List lF→Option (Int×Int)
 |[]=>some (c,d)
 |s::r=>match nZ seen c d s with
  |none=>none
  |some (c',d')=>gX (seen++[s.name.data.toList]) c' d' r
def mY (n:Int):Bool:=match Cp.dec n with
 |none=>false
 |some (op,_,_,_,i)=>(op==2||op==19||op==20||op==21)&&i==0
def Aj (code:List Int) (ns:Nat) (last:Int) (x:uN):Bool:=
 decide (last<x.pos)&&decide (x.pos<code.length)&&mY (code.getD x.pos.toNat 0)&&decide (0≤x.sym)&&decide (x.sym<ns)&&decide (0≤x.add)&&decide (x.add≤6000)
def jZ (code:List Int) (ns:Nat) (last:Int):List uN→Bool
 |[]=>true
 |x::r=>Aj code ns last x&&jZ code ns x.pos r
def N2 (o:Obj):Prop:=o.code.length≤6000∧o.data.length≤16000∧o.syms.length≤400∧o.rels.length≤6000
instance (o:Obj):Decidable (N2 o):=by unfold N2;infer_instance
def El (o:Obj):Bool:=decide (N2 o)&&match gX [] 0 0 o.syms with
 |none=>false
 |some (c,d)=>(c==o.code.length&&d==o.data.length)&&jZ o.code o.syms.length (-1) o.rels
theorem Fu (seen:List (List UInt8)) (c d:Int) (l:List lF) (s:lF):gX seen c d (l++[s])=match gX seen c d l with
 |none=>none
 |some (c',d')=>nZ (seen++names l) c' d' s:=by
 induction l generalizing seen c d with
 |nil=>
  simp only[bJ,gX,names,cM,List.append_nil]
  rcases nZ seen c d s with _|⟨a,b⟩<;>rfl
 |cons x l ih=>
  rw[bI,gX,gX]
  rcases nZ seen c d x with _|⟨a,b⟩
  ·rfl
  ·simp only[ih,names,bC,bP,List.singleton_append]
theorem Vz (seen:List (List UInt8)) (c d:Int) (l r:List lF) (h:gX seen c d l=none):gX seen c d (l++r)=none:=by
 induction l generalizing seen c d with
  |nil=>simp[gX]at h
  |cons x l ih=>
   rw[bI,gX]
   rw[gX]at h
   rcases he:nZ seen c d x with _|⟨a,b⟩
   ·rfl
   ·rw[he]at h
    exact ih _ _ _ h
theorem U6 {o:Obj} {c d:Int} (hk:k<o.syms.length) (h:gX [] 0 0 (o.syms.take k)=some (c,d)) (hs:nZ (names (o.syms.take k)) c d o.syms[k]=none):El o=false:=by(have e:gX [] 0 0 o.syms=none:=by rw[←List.take_append_drop (k+1) o.syms];refine Vz _ _ _ _ _ ?_;rw[aL hk,Fu,h];exact hs);unfold El;rw[e];simp
theorem Wa {o:Obj} {c d c' d':Int} (hk:k<o.syms.length) (h:gX [] 0 0 (o.syms.take k)=some (c,d)) (hs:nZ (names (o.syms.take k)) c d o.syms[k]=some (c',d')):gX [] 0 0 (o.syms.take (k+1))=some (c',d'):=by rw[aL hk,Fu,h];exact hs
theorem GW {c d c' d':Int} {s:lF} (h:take c d s=some (c',d')):c≤c'∧c'≤c+16000∧d≤d'∧d'≤d+16000:=by unfold take at h;(repeat' split at h);(all_goals(simp only[Option.some.injEq,Prod.mk.injEq,reduceCtorEq]at h));(all_goals omega)
theorem ic {seen:List (List UInt8)} {c d c' d':Int} {s:lF} (h:nZ seen c d s=some (c',d')):take c d s=some (c',d'):=by unfold nZ at h;split at h;(·exact h);(·cases h)
theorem Pw {o:Obj} {c d:Int} (h:gX [] 0 0 o.syms=some (c,d)) (hs:¬(c=o.code.length∧d=o.data.length)):El o=false:=by unfold El;rw[h];(have:((c==(o.code.length:Int))&&(d==(o.data.length:Int)))=false:=by rw[Bool.and_eq_false_iff];by_cases e:c=o.code.length;(·exact .inr (beq_eq_false_iff_ne.2 fun e'=>hs ⟨e,e'⟩));(·exact .inl (beq_eq_false_iff_ne.2 e)));simp[this]
def Bg (l:List uN):Int:=match l.getLast? with|none=>-1|some x=>x.pos
theorem tF (code:List Int) (ns:Nat) (last:Int) (l r:List uN):jZ code ns last (l++r)=(jZ code ns last l&&jZ code ns (match l.getLast? with|none=>last|some x=>x.pos) r):=by
 induction l generalizing last with
  |nil=>simp[jZ]
  |cons x l ih=>
   rw[bI,jZ,jZ,ih,Bool.and_assoc]
   congr 2
   cases l with
   |nil=>simp
   |cons y l=>simp[List.getLast?_cons]
theorem Wu {o:Obj} (hk:k<o.rels.length) (h:jZ o.code o.syms.length (-1) (o.rels.take k)=true) (hx:Aj o.code o.syms.length (Bg (o.rels.take k)) o.rels[k]=true):jZ o.code o.syms.length (-1) (o.rels.take (k+1))=true:=by rw[aL hk,tF,h,jZ,jZ];unfold Bg at hx;simp[hx]
theorem Gh {o:Obj} (hk:k<o.rels.length):Bg (o.rels.take (k+1))=o.rels[k].pos:=by rw[aL hk];unfold Bg;rw[List.getLast?_concat]
theorem U7 {o:Obj} (hk:k<o.rels.length) (hx:Aj o.code o.syms.length (Bg (o.rels.take k)) o.rels[k]=false):El o=false:=by(have e:jZ o.code o.syms.length (-1) o.rels=false:=by rw[←List.take_append_drop (k+1) o.rels,tF,aL hk,tF,jZ,jZ];unfold Bg at hx;simp[hx]);unfold El;rw[e];rcases gX [] 0 0 o.syms with _|⟨c,d⟩<;>simp
theorem U5 {o:Obj} (hf:N2 o) (h:gX [] 0 0 o.syms=some ((o.code.length:Int),(o.data.length:Int))) (hr:jZ o.code o.syms.length (-1) o.rels=true):El o=true:=by unfold El;rw[h,hr];simp[hf]
end Ob
end
section
open Go.RowKit Ob
theorem xX {a b:Bool} (h:a=b):Ending.returned (cV a)=Ending.returned (cV b):=by rw[h]
theorem vM (n:Int) (w:World):O U 96 #[cS .u8 n] w fun e w'=>e=cZ (cV (hO n))∧w=w':=by exact V323
theorem ze:({data:=#[32,98,114,101,97,107,32,99,111,117,110,116,32,101,108,115,101,32,101,120,116,101,114,110,32,101,120,116,114,97,32,102,110,32,105,102,32,105,110,116,32,108,111,110,103,32,112,117,116,32,114,101,116,117,114,110,32,115,116,97,116,105,99,32,115,116,114,117,99,116,32,119,104,105,108,101,32]}:ByteArray).data.toList=Pa:=by kernel_rfl
theorem ee:({data:=#[32,98,114,101,97,107,32,99,111,117,110,116,32,101,108,115,101,32,101,120,116,101,114,110,32,101,120,116,114,97,32,102,110,32,105,102,32,105,110,116,32,108,111,110,103,32,112,117,116,32,114,101,116,117,114,110,32,115,116,97,116,105,99,32,115,116,114,117,99,116,32,119,104,105,108,101,32]}:ByteArray).size<4294967281:=of_decide_eq_true Kr
theorem rJ (s:ByteArray) (k:Nat) (h:k<s.size):s.data.toList.getD k 0=s[k]:=by rw[aN,aB (by simpa using h)];rfl
theorem U1 {P:UInt8→Prop} (h:∀j,j<s.size→P (s.data.toList.getD j 0)):∀c∈s.data.toList,P c:=by intro c hc;obtain⟨j,hj⟩:=List.getElem?_of_mem hc;have hl:=(List.getElem?_eq_some_iff.1 hj).1;have:=h j (by simpa using hl);rwa[aN,hj]at this
theorem nO (s:ByteArray):s.data.toList.length=s.size:=by rw[Array.length_toList];rfl
theorem Ug (s:ByteArray) (m:Int) (w:World) (hm:w.cell? ⟨0,0,none⟩=some (cS dA m)) (hl:∀c∈s.data.toList,c≠32):
 O U 97 #[cU {data:=#[32,98,114,101,97,107,32,99,111,117,110,116,32,101,108,115,101,32,101,120,116,101,114,110,32,101,120,116,114,97,32,102,110,32,105,102,32,105,110,116,32,108,111,110,103,32,112,117,116,32,114,101,116,117,114,110,32,115,116,97,116,105,99,32,115,116,114,117,99,116,32,119,104,105,108,101,32]},cU ({data:=#[32]}++s++{data:=#[32]})] w fun e w'=>e=cZ (cV (reserved.contains s.data.toList))∧w=w':=by(have e1:({data:=#[32]}++s++{data:=#[32]}:ByteArray).data.toList=32::(s.data.toList++[32]):=by simp);generalize ({data:=#[32]}++s++{data:=#[32]}:ByteArray)=sub at*;have e2:=ze;have e3:=ee;generalize ({data:=#[32,98,114,101,97,107,32,99,111,117,110,116,32,101,108,115,101,32,101,120,116,101,114,110,32,101,120,116,114,97,32,102,110,32,105,102,32,105,110,116,32,108,111,110,103,32,112,117,116,32,114,101,116,117,114,110,32,115,116,97,116,105,99,32,115,116,114,117,99,116,32,119,104,105,108,101,32]}:ByteArray)=ws at*;refine(Tryz.strings_Contains ws sub m w e3 hm).mono ?_;rintro e w' ⟨rfl,rfl⟩;refine⟨xX ?_,rfl⟩;rw[e1,e2];exact Dg _ hl
theorem rU (s:ByteArray) (m:Int) (w:World) (hs:s.size≤9223372036854775807) (hm:w.cell? ⟨0,0,none⟩=some (cS dA m)):
 O U 49 #[cU s] w fun e w'=>e=cZ (cV (kI s.data.toList))∧w=w':=by
 have HW:Hid ((∀c∈s.data.toList,c≠32)→O U 97 #[cU {data:=#[32,98,114,101,97,107,32,99,111,117,110,116,32,101,108,115,101,32,101,120,116,101,114,110,32,101,120,116,114,97,32,102,110,32,105,102,32,105,110,116,32,108,111,110,103,32,112,117,116,32,114,101,116,117,114,110,32,115,116,97,116,105,99,32,115,116,114,117,99,116,32,119,104,105,108,101,32]},cU ({data:=#[32]}++s++{data:=#[32]})] w fun e w'=>e=cZ (cV (reserved.contains s.data.toList))∧w=w'):=Ug s m w hm;obtain⟨t,ht⟩:∃t,kI s.data.toList=t:=⟨_,rfl⟩;rw[ht];have HT:=Ih ht;have OJ:=nO s;have At:=Ih OJ;clear ht hm OJ;by_cases h1:s.size<1;(·(obtain rfl:t=false:=by rw[←HT.out];exact tV (.inl (by rw[At.out];exact h1)));exact V123);by_cases h2:16<s.size;(·(obtain rfl:t=false:=by rw[←HT.out];exact tV (.inr (by rw[At.out];exact h2)));exact V123);have hp:0<s.size:=Om;(have Tx:(s[0].toNat:Int)<256:=by have:=s[0].toNat_lt;omega);by_cases h3:hO (s[0].toNat:Int)=true
 ·have d1:decide ((s.size:Int)<1)=false:=decide_eq_false Om;have d2:decide (16<(s.size:Int))=false:=decide_eq_false Om;(have H3:Hid (nameAt s.data.toList 0=true):=by show nameAt _ _=_;unfold nameAt;rw[if_pos rfl,rJ s 0 hp];exact h3);go_in;go_wp2_with (go_at_call 96;refine(vM _ _).mono ?_;rintro e w' ⟨rfl,rfl⟩);clear h3 Tx;go_loopg[4] (s.size-1) (fun gk i wr=>∃k:Nat,1≤k∧k≤s.size∧gk=s.size-k∧i=cS dA k∧w=wr∧∀j,j<k→nameAt s.data.toList j=true)
  case atStart=>exact⟨1,by omega,by omega,rfl,rfl,rfl,fun j hj=>by
   obtain rfl:j=0:=Om
   exact H3⟩
  (case round=>obtain⟨k,vP,hk,hgk,rfl,rfl,eT⟩:=hrel;have HG:=Ih hgk;have HN:=Ih eT;clear hgk eT;by_cases dH:k<s.size;(·(have hb:(s[k].toNat:Int)<256:=by have:=s[k].toNat_lt;omega);(have HA:Hid (nameAt s.data.toList k=nP (s[k].toNat:Int)):=by show nameAt _ _=_;unfold nameAt;rw[if_neg Om,rJ s k dH]);by_cases hl:hO (s[k].toNat:Int)=true;(·(have HK:Hid (nameAt s.data.toList k=true):=by show nameAt _ _=true;rw[HA.out];unfold nP;rw[hl];rfl);exact V44);(·(have KB:hO (s[k].toNat:Int)=false:=by simpa using hl);clear hl;by_cases h5:(s[k].toNat:Int)=95;(·(have e5:((s[k].toNat:Int) !=95)=false:=by simp[h5]);(have HK:Hid (nameAt s.data.toList k=true):=by show nameAt _ _=true;rw[HA.out];unfold nP;rw[h5];rfl);clear h5;exact V44);(·(have e5:((s[k].toNat:Int) !=95)=true:=by simp[h5]);(have e6:((s[k].toNat:Int)==95)=false:=by simp[h5]);have E6:=Ih e6;clear h5 e6;by_cases hd:nL (s[k].toNat:Int)=true;(·(have HK:Hid (nameAt s.data.toList k=true):=by show nameAt _ _=true;rw[HA.out];unfold nP;rw[hd,Bool.true_or,Bool.or_true]);(have c1:decide ((s[k].toNat:Int)<48)=false:=by unfold nL at hd;simp at hd⊢;omega);(have c2:decide (57<(s[k].toNat:Int))=false:=by unfold nL at hd;simp at hd⊢;omega);clear hd;exact V44);(·(have hd':nL (s[k].toNat:Int)=false:=by simpa using hd);clear hd;(obtain rfl:t=false:=by rw[←HT.out];refine Cr (j:=k) (by rw[At.out];exact dH) ?_;rw[HA.out];unfold nP;rw[KB,hd',E6.out];rfl);by_cases c1:(s[k].toNat:Int)<48;(·exact V238);(·(have c2:57<(s[k].toNat:Int):=by unfold nL at hd';simp at hd';omega);exact V238)))));(·(have HF:Hid ((!reserved.contains s.data.toList)=t):=by exact V397);(have HC:Hid (∀c∈s.data.toList,c≠32):=by show ∀c∈s.data.toList,c≠32;exact U1 (fun j hj=>A8 (HN j Om)));go_wp2_with fail;refine(HW HC).mono ?_;rintro e w' ⟨rfl,rfl⟩;go_wp2_with fail;go_ret;exact⟨xX (by have:=HF;rwa[List.contains_eq_mem]at this),rfl⟩))
 (·(obtain rfl:t=false:=by rw[←HT.out];refine Cr (j:=0) (by rw[At.out];exact hp) ?_;unfold nameAt;rw[if_pos rfl,rJ s 0 hp];simpa using h3);(have h3':hO (s[0].toNat:Int)=false:=by simpa using h3);clear h3;go_in;exact V238)
theorem Wh (s:ByteArray) (w:World) (hs:s.size≤9223372036854775807):
 O U 20 #[cU s] w fun e w'=>e=cZ (cV (qR s.data.toList))∧w=w':=by obtain⟨t,ht⟩:∃t,qR s.data.toList=t:=⟨_,rfl⟩;rw[ht];have HT:=Ih ht;have OJ:=nO s;have At:=Ih OJ;clear ht OJ;by_cases h1:s.size<1;(·(obtain rfl:t=false:=by rw[←HT.out];exact Pe (.inl (by rw[At.out];exact h1)));exact V123);by_cases h2:2000<s.size;(·(obtain rfl:t=false:=by rw[←HT.out];exact Pe (.inr (by rw[At.out];exact h2)));exact V123);have d1:decide ((s.size:Int)<1)=false:=decide_eq_false Om;have d2:decide (2000<(s.size:Int))=false:=decide_eq_false Om;go_in;go_wp2_with fail;go_loopg[3] s.size (fun gk i wr=>∃k:Nat,k≤s.size∧gk=s.size-k∧i=cS dA k∧w=wr∧∀j,j<k→qL s.data.toList j=true);(case atStart=>exact⟨0,by omega,rfl,rfl,rfl,fun _ h=>absurd h Om⟩);(case round=>have Zdd:=0;exact V309)
theorem xW (n:Int) (w:World):O U 41 #[cS .u8 n] w fun e w'=>e=cZ (cV (hO n))∧w=w':=by exact V323
theorem ir (n:Int) (w:World):O U 42 #[cS .u8 n] w fun e w'=>e=cZ (cV (nL n))∧w=w':=by go_in;go_wp2_with fail;(all_goals go_ret);(all_goals refine⟨xX ?_,rfl⟩);(all_goals(unfold nL;first|(simp[*];done)|(rw[Bool.eq_iff_iff];simp;omega)))
def LX (w:World) (b:Nat) (l:List ByteArray):Prop:=∀j (h:j<l.length),w.cell? ⟨b,j,none⟩=some (cU l[j])
theorem I7 (s:ByteArray) (b n gN:Nat) (l:List ByteArray) (w:World) (hl:l.length=n) (hn:n≤9223372036854775807) (h:LX w b l):
 O U 37 #[cT (some ⟨b,0,none⟩) n gN,cU s] w fun e w'=>e=cZ (cV ((l.map (·.data.toList)).contains s.data.toList))∧w=w':=by have Z6n:=0;exact V133
end
section
namespace Ty
open Ob (kI hO nL nP reserved)
inductive T where
 |mk (kind:Int) (name:ByteArray) (names:List ByteArray) (parts:List T) (many:Bool)
namespace T
def kind:T→Int|mk k _ _ _ _=>k
def name:T→ByteArray|mk _ n _ _ _=>n
def names:T→List ByteArray|mk _ _ l _ _=>l
def parts:T→List T|mk _ _ _ l _=>l
def many:T→Bool|mk _ _ _ _ b=>b
end T
mutual
def eV:T→Nat×Bool
 | .mk k _ _ ps _=>if k=2 then(2,true)else if k=3 then(let r:=sizeL (0,false) ps;(if r.2 then r.1+r.1%2 else r.1,r.2))else(1,false)
def sizeL:Nat×Bool→List T→Nat×Bool
 |st,[]=>st
 |st,p::r=>let x:=eV p;sizeL ((if x.2 then st.1+st.1%2 else st.1)+x.1,st.2||x.2) r
end
def SR (st x:Nat×Bool):Nat×Bool:=((if x.2 then st.1+st.1%2 else st.1)+x.1,st.2||x.2)
theorem vC (st:Nat×Bool) (p:T) (r:List T):sizeL st (p::r)=sizeL (SR st (eV p)) r:=by rw[sizeL];rfl
theorem Sc (l r:List T):∀st,sizeL st (l++r)=sizeL (sizeL st l) r:=by
 induction l with
  |nil=>intro st;rw[bJ,sizeL]
  |cons p l ih=>intro st;rw[bI,vC,vC,ih]
def iQ (ps:List T) (i:Nat):Nat×Bool:=sizeL (0,false) (ps.take i)
theorem vU (ps:List T):iQ ps 0=(0,false):=by simp[iQ,sizeL]
theorem vV {ps:List T} (h:i<ps.length):iQ ps (i+1)=SR (iQ ps i) (eV ps[i]):=by unfold iQ;rw[aL h,Sc,vC,sizeL]
theorem Ra (ps:List T):iQ ps ps.length=sizeL (0,false) ps:=by unfold iQ;rw[List.take_length]
def jW (ps:List T) (i:Nat):Nat:=let e:=(iQ ps i).1;match ps[i]? with|some p=>(if(eV p).2 then e+e%2 else e)|none=>e
theorem lL {t:T} (h2:t.kind≠2) (h3:t.kind≠3):eV t=(1,false):=by obtain⟨k,n,ns,ps,m⟩:=t;have h2:k≠2:=h2;have h3:k≠3:=h3;rw[eV,if_neg h2,if_neg h3]
theorem nB {t:T} (h:t.kind=2):eV t=(2,true):=by obtain⟨k,n,ns,ps,m⟩:=t;have h:k=2:=h;rw[eV,if_pos h]
theorem vB {t:T} (h:t.kind=3):eV t=(let r:=sizeL (0,false) t.parts;(if r.2 then r.1+r.1%2 else r.1,r.2)):=by obtain⟨k,n,ns,ps,m⟩:=t;have h:k=3:=h;subst h;rw[eV,if_neg De,if_pos rfl];rfl
def nW (s:ByteArray):Bool:=kI s.data.toList
def sC (t:T):Bool:=t.name.size==0&&t.names.length==0
def fH:Nat→T→Bool
 |0,_=>false
 |d+1,t=>
  if t.kind=1∨t.kind=2 then sC t&&t.parts.length==0&&!t.many
  else if t.kind=3 then !t.many&&nW t.name&&t.names.length==t.parts.length&&(decide (1≤t.parts.length)&&decide (t.parts.length≤6))&&t.parts.all (fH d)&&(t.names.all nW&&(t.names.map fun s=>s.data.toList).Nodup)&&decide ((eV t).1≤12)
  else if t.kind=4 then sC t&&(decide (1≤t.parts.length)&&decide (t.parts.length≤7))&&t.parts.all (fH d)
  else false
def oM (t:T):Bool:=fH 4 t
theorem IZ {t:T} (h:fH d t=true):fH (d+1) t=true:=by
 induction d generalizing t with
  |zero=>simp[fH]at h
  |succ d ih=>
   rw[fH]at h⊢
   have eT:∀l:List T,l.all (fH d)=true→l.all (fH (d+1))=true:=fun l hl=>by
    rw[cJ]at hl⊢
    exact fun x hx=>ih (hl x hx)
   by_cases a:t.kind=1∨t.kind=2
   ·rw[if_pos a]at h⊢
    exact h
   ·rw[if_neg a]at h⊢
    by_cases b:t.kind=3
    ·rw[if_pos b]at h⊢
     simp only[aV]at h⊢
     exact⟨⟨⟨h.1.1.1,eT _ h.1.1.2⟩,h.1.2⟩,h.2⟩
    ·rw[if_neg b]at h⊢
     by_cases c:t.kind=4
     ·rw[if_pos c]at h⊢
      simp only[aV]at h⊢
      exact⟨h.1,eT _ h.2⟩
     ·rw[if_neg c]at h
      cases h
structure MayIt (d:Nat) (t:T):Prop where
 kind:1≤t.kind∧t.kind≤4
 parts:∀p∈t.parts,fH d p=true
 plain:t.kind≤2→t.parts=[]∧t.many=false
 struct:t.kind=3→t.many=false∧nW t.name=true∧t.names.length=t.parts.length∧1≤t.parts.length∧t.parts.length≤6∧(∀s∈t.names,nW s=true)∧(t.names.map fun s=>s.data.toList).Nodup∧(eV t).1≤12
 fn:t.kind=4→1≤t.parts.length∧t.parts.length≤7
 bare:t.kind≠3→t.name=⟨#[]⟩∧t.names=[]
theorem Zk {t:T} (h:sC t=true):t.name=⟨#[]⟩∧t.names=[]:=by unfold sC at h;simp only[aV,beq_iff_eq]at h;refine⟨?_,List.eq_nil_of_length_eq_zero h.2⟩;have h1:=h.1;revert h1;generalize t.name=n;intro h1;obtain⟨d⟩:=n;have:d.size=0:=h1;rw[Array.eq_empty_of_size_eq_zero this]
theorem iL {t:T} (h:fH (d+1) t=true):MayIt d t:=by rw[fH]at h;split at h;(·rename_i hk;simp only[aV,beq_iff_eq,Bool.not_eq_true']at h;have hp:t.parts=[]:=List.eq_nil_of_length_eq_zero h.1.2;exact⟨by omega,fun p Vd=>(by rw[hp]at Vd;cases Vd),fun _=>⟨hp,h.2⟩,fun e=>by omega,fun e=>by omega,fun _=>Zk h.1.1⟩);(·split at h;(·rename_i hk;simp only[aV,beq_iff_eq,Bool.not_eq_true',decide_eq_true_eq,cJ]at h;exact⟨by omega,h.1.1.2,fun e=>by omega,fun _=>⟨h.1.1.1.1.1.1,h.1.1.1.1.1.2,h.1.1.1.1.2,h.1.1.1.2.1,h.1.1.1.2.2,h.1.2.1,h.1.2.2,h.2⟩,fun e=>by omega,fun e=>absurd hk e⟩);(·split at h;(·rename_i hk;simp only[aV,decide_eq_true_eq,cJ]at h;exact⟨by omega,h.2,fun e=>by omega,fun e=>by omega,fun _=>h.1.2,fun _=>Zk h.1.1⟩);(·cases h)))
def GX:List UInt8:=[105,110,116]
def Q6:List UInt8:=[108,111,110,103]
def mA:List UInt8:=[115,116,114,117,99,116,32]
def Do:List UInt8:=[102,110,40]
def eJ:List (List UInt8)→List ByteArray→List UInt8
 |x::r,n::ns=>x++[32]++n.data.toList++[59]++eJ r ns
 |_,_=>[]
def dZ:Bool→List (List UInt8)→List UInt8
 |_,[]=>[]
 |first,x::r=>(if first then x else 44::x)++dZ false r
def gI (none many:Bool):List UInt8:=if many then(if none then [46,46,46]else [44,46,46,46])else []
mutual
def dN:T→List UInt8
 | .mk k n ns ps m=>if k=1 then GX else if k=2 then Q6 else if k=3 then mA++n.data.toList++[123]++eJ (textsL ps) ns++[125]
  else if k=4 then Do++dZ true ((textsL ps).take (ps.length-1))++gI (ps.length==1) m++[41]++(textsL ps).getD (ps.length-1) []
  else []
def textsL:List T→List (List UInt8)
 |[]=>[]
 |p::r=>dN p::textsL r
end
theorem tR (l:List T):textsL l=l.map dN:=by
 induction l with
  |nil=>rw[textsL];rfl
  |cons p r ih=>rw[textsL,ih];rfl
def Hf (t:T):List UInt8:=if oM t then dN t else []
mutual
def Q8:T→T→Bool
 | .mk k n ns ps m,.mk k' n' Xd yA m'=>decide (k=k')&&decide (n=n')&&decide (m=m')&&decide (ns=Xd)&&sameL ps yA
def sameL:List T→List T→Bool
 |[],[]=>true
 |p::r,p'::r'=>Q8 p p'&&sameL r r'
 |_,_=>false
end
mutual
theorem Pg:∀a b:T,Q8 a b=true↔a=b
 | .mk k n ns ps m,.mk k' n' Xd yA m'=>by
  rw[Q8]
  simp only[aV,decide_eq_true_eq,sameL_iff ps yA,T.mk.injEq]
  constructor
  ·rintro⟨⟨⟨⟨a,b⟩,c⟩,d⟩,e⟩;exact⟨a,b,d,e,c⟩
  ·rintro⟨a,b,d,e,c⟩;exact⟨⟨⟨⟨a,b⟩,c⟩,d⟩,e⟩
theorem sameL_iff:∀a b:List T,sameL a b=true↔a=b
 |[],[]=>by simp[sameL]
 |[],_::_=>by simp[sameL]
 |_::_,[]=>by simp[sameL]
 |p::r,p'::r'=>by
  rw[sameL,aV,Pg p p',sameL_iff r r']
  simp
end
instance:DecidableEq T:=fun a b=>decidable_of_iff _ (Pg a b)
end Ty
namespace Ty
open Ob (kI hO nL nP reserved nameAt)
theorem We {c:UInt8} {l l' r r':List UInt8} (hl:c∉l) (KB:c∉l') (h:l++c::r=l'++c::r'):l=l'∧r=r':=by
 induction l generalizing l' with
  |nil=>
   cases l' with
   |nil=>simpa using h
   |cons a l'=>
    simp only[bJ,bI,cD]at h
    exact absurd (h.1▸aU ..) KB
  |cons a l ih=>
   cases l' with
   |nil=>
    simp only[bJ,bI,cD]at h
    exact absurd (h.1▸aU ..) hl
   |cons a' l'=>
    simp only[bI,cD]at h
    obtain⟨h1,h2⟩:=ih (fun hm=>hl (aP _ hm)) (fun hm=>KB (aP _ hm)) h.2
    exact⟨by rw[h.1,h1],h2⟩
theorem Xg {l:List UInt8} (h:kI l=true):∀c∈l,nP c.toNat=true:=by unfold kI at h;simp only[aV,cJ,List.mem_range]at h;intro c hc;obtain⟨j,hj,rfl⟩:=aQ hc;have hn:=h.1.2 j hj;unfold nameAt at hn;rw[aN,aN,aB hj]at hn;simp only[Option.getD_some]at hn;split at hn;(·rename_i h0;subst h0;rw[aB hj]at hn;unfold nP;rw[show hO ↑(l[0]).toNat=true from hn];rfl);(·exact hn)
theorem Cq {l:List UInt8} (h:kI l=true) {c:UInt8} (hc:nP c.toNat=false):c∉l:=fun hm=>by
 have:=Xg h c hm
 rw[hc]at this
 cases this
theorem Pq {a b:ByteArray} (h:a.data.toList=b.data.toList):a=b:=by obtain⟨a⟩:=a;obtain⟨b⟩:=b;simp only at h;rw[Array.toList_inj.1 h]
def tH (t:T):UInt8:=if t.kind=1 then 105 else if t.kind=2 then 108 else if t.kind=3 then 115 else 102
theorem uX {t:T} (h:fH (d+1) t=true):∃r,dN t=tH t::r:=by have hk:=(iL h).kind;obtain⟨k,n,ns,ps,m⟩:=t;unfold tH;rw[dN];change 1≤k∧k≤4 at hk;show ∃r,(if k=1 then GX else _)=(if k=1 then 105 else if k=2 then 108 else if k=3 then 115 else 102)::r;by_cases h1:k=1;(·subst h1;exact⟨_,rfl⟩);(·by_cases h2:k=2;(·subst h2;exact⟨_,rfl⟩);(·by_cases h3:k=3;(·subst h3;exact⟨_,rfl⟩);(·obtain rfl:k=4:=Om;exact⟨_,rfl⟩)))
theorem Tt (t:T):tH t=105∨tH t=108∨tH t=115∨tH t=102:=by unfold tH;(repeat' split);(all_goals simp)
def ye (d:Nat):Prop:=∀a b:T,fH d a=true→fH d b=true→∀x y,dN a++x=dN b++y→a=b∧x=y
theorem qB {t:T} (h:fH d t=true) {c:UInt8} (hc:c≠105∧c≠108∧c≠115∧c≠102) {x r:List UInt8} (he:dN t++x=c::r):False:=by
 cases d with
  |zero=>simp[fH]at h
  |succ d=>
   obtain⟨r',hr⟩:=uX h
   rw[hr,bI,cD]at he
   have:=Tt t
   rw[he.1]at this
   obtain⟨h1,h2,h3,h4⟩:=hc
   rcases this with e|e|e|e
   ·exact h1 e
   ·exact h2 e
   ·exact h3 e
   ·exact h4 e
theorem Gu (ih:ye d):∀(ps yA:List T) (ns Xd:List ByteArray),ns.length=ps.length→Xd.length=yA.length→(∀p∈ps,fH d p=true)→(∀p∈yA,fH d p=true)→(∀s∈ns,nW s=true)→(∀s∈Xd,nW s=true)→
 ∀x y,eJ (ps.map dN) ns++125::x=eJ (yA.map dN) Xd++125::y→ps=yA∧ns=Xd∧x=y
 |[],[],ns,Xd,h1,h2,_,_,_,_,x,y,h=>by
  obtain rfl:ns=[]:=List.eq_nil_of_length_eq_zero h1
  obtain rfl:Xd=[]:=List.eq_nil_of_length_eq_zero h2
  simp only[cM,eJ,bJ,cD,true_and]at h
  exact⟨rfl,rfl,h⟩
 |[],p::yA,ns,[],h1,h2,_,_,_,_,x,y,h=>by simp at h2
 |[],p::yA,ns,n::Xd,h1,h2,_,hp,_,_,x,y,h=>by
  simp only[cM,bC,eJ,bJ,bP]at h
  exact(qB (hp p (aU ..)) De h.symm).elim
 |p::ps,[],[],Xd,h1,h2,_,_,_,_,x,y,h=>by simp at h1
 |p::ps,[],n::ns,Xd,h1,h2,hp,_,_,_,x,y,h=>by
  simp only[cM,bC,eJ,bJ,bP]at h
  exact(qB (hp p (aU ..)) De h).elim
 |p::ps,p'::yA,[],_,h1,h2,_,_,_,_,x,y,h=>by simp at h1
 |p::ps,p'::yA,n::ns,[],h1,h2,_,_,_,_,x,y,h=>by simp at h2
 |p::ps,p'::yA,n::ns,n'::Xd,h1,h2,hp,Vd,hn,AP,x,y,h=>by
  simp only[bC,eJ,bP]at h
  obtain⟨e0,g⟩:=ih p p' (hp _ (aU ..)) (Vd _ (aU ..)) _ _ h
  clear h
  simp only[bI,bJ,cD,true_and]at g
  obtain⟨e,g2⟩:=We (c:=59) (Cq (hn n (aU ..)) De) (Cq (AP n' (aU ..)) De) g
  have e1:=Pq e
  obtain⟨e2,e3,e4⟩:=Gu ih ps yA ns Xd (by simpa using h1) (by simpa using h2) (fun q hq=>hp q (aP _ hq)) (fun q hq=>Vd q (aP _ hq)) (fun q hq=>hn q (aP _ hq)) (fun q hq=>AP q (aP _ hq)) x y g2
  subst e0 e1 e2 e3 e4
  exact⟨rfl,rfl,rfl⟩
theorem Gb (ih:ye d):∀(ps yA:List T) (m m':Bool),(∀p∈ps,fH d p=true)→(∀p∈yA,fH d p=true)→
 ∀x y,dZ false (ps.map dN)++(gI false m++41::x)=dZ false (yA.map dN)++(gI false m'++41::y)→ps=yA∧m=m'∧x=y
 |[],[],m,m',_,_,x,y,h=>by
  cases m<;>cases m'<;>simp[dZ,gI]at h⊢
  ·exact h
  ·exact h
 |[],p::yA,m,m',_,hp,x,y,h=>by
  simp only[cM,bC,dZ,bJ,Bool.false_eq_true,if_false,bI,bP]at h
  cases m
  ·simp[gI]at h
  ·simp only[gI,if_true,Bool.false_eq_true,if_false,bI,bJ,cD,true_and]at h
   exact(qB (hp p (aU ..)) De h.symm).elim
 |p::ps,[],m,m',hp,_,x,y,h=>by
  simp only[cM,bC,dZ,bJ,Bool.false_eq_true,if_false,bI,bP]at h
  cases m'
  ·simp[gI]at h
  ·simp only[gI,if_true,Bool.false_eq_true,if_false,bI,bJ,cD,true_and]at h
   exact(qB (hp p (aU ..)) De h).elim
 |p::ps,p'::yA,m,m',hp,Vd,x,y,h=>by
  simp only[bC,dZ,Bool.false_eq_true,if_false,bI,bP,cD,true_and]at h
  obtain⟨e0,g⟩:=ih p p' (hp _ (aU ..)) (Vd _ (aU ..)) _ _ h
  obtain⟨e1,e2,e3⟩:=Gb ih ps yA m m' (fun q hq=>hp q (aP _ hq)) (fun q hq=>Vd q (aP _ hq)) x y g
  subst e0 e1 e2 e3
  exact⟨rfl,rfl,rfl⟩
theorem pe (ih:ye d) (ps yA:List T) (m m':Bool) (hp:∀p∈ps,fH d p=true) (Vd:∀p∈yA,fH d p=true) (x y:List UInt8)
 (h:dZ true (ps.map dN)++(gI (ps.length==0) m++41::x)=dZ true (yA.map dN)++(gI (yA.length==0) m'++41::y)):ps=yA∧m=m'∧x=y:=by
 cases ps with
  |nil=>
   cases yA with
   |nil=>cases m<;>cases m'<;>simp[dZ,gI]at h⊢<;>exact h
   |cons p yA=>
    simp only[cM,bC,dZ,bJ,if_true,bP]at h
    cases m
    ·simp only[gI,Bool.false_eq_true,if_false,bJ]at h
     exact(qB (Vd p (aU ..)) De h.symm).elim
    ·simp only[gI,if_true,aT,beq_self_eq_true,bI,bJ]at h
     exact(qB (Vd p (aU ..)) De h.symm).elim
  |cons p ps=>
   cases yA with
   |nil=>
    simp only[cM,bC,dZ,bJ,if_true,bP]at h
    cases m'
    ·simp only[gI,Bool.false_eq_true,if_false,bJ]at h
     exact(qB (hp p (aU ..)) De h).elim
    ·simp only[gI,if_true,aT,beq_self_eq_true,bI,bJ]at h
     exact(qB (hp p (aU ..)) De h).elim
   |cons p' yA=>
    simp only[bC,dZ,if_true,bP]at h
    have e0:∀(q:T) (l:List T),((q::l).length==0)=false:=fun q l=>by simp
    rw[e0,e0]at h
    obtain⟨e1,g⟩:=ih p p' (hp _ (aU ..)) (Vd _ (aU ..)) _ _ h
    obtain⟨e2,e3,e4⟩:=Gb ih ps yA m m' (fun q hq=>hp q (aP _ hq)) (fun q hq=>Vd q (aP _ hq)) x y g
    subst e1 e2 e3 e4
    exact⟨rfl,rfl,rfl⟩
theorem ug {l:List T} (h:1≤l.length):∃i x,l=i++[x]:=⟨l.dropLast,l.getLast (by intro e;rw[e]at h;simp at h),(List.dropLast_concat_getLast _).symm⟩
theorem wv (n:ByteArray) (ns:List ByteArray) (i:List T) (r:T) (m:Bool):dN (.mk 4 n ns (i++[r]) m)=Do++(dZ true (i.map dN)++(gI (i.length==0) m++41::dN r)):=by rw[dN,if_neg De,if_neg De,if_neg De,if_pos rfl,tR];(have e1:(i++[r]).length-1=i.length:=by simp);rw[e1,aS];(have e2:(i.map dN++[r].map dN).take i.length=i.map dN:=by rw[List.take_append_of_le_length Si,aY Si]);(have e3:(i.map dN++[r].map dN).getD i.length []=dN r:=by rw[aN,bD Si];simp);(have e4:((i++[r]).length==1)=(i.length==0):=by rw[Bool.eq_iff_iff];simp);rw[e2,e3,e4];simp only[bP,bI,bJ]
theorem NV:∀d,ye d
 |0=>fun a b ha=>by simp[fH]at ha
 |d+1=>fun a b ha hb x y h=>by
  have ih:=NV d
  have ia:=iL ha
  have ib:=iL hb
  obtain⟨ra,hra⟩:=uX ha
  obtain⟨rb,Qh⟩:=uX hb
  have hk:a.kind=b.kind:=by
   have hh:tH a=tH b:=by
    rw[hra,Qh,bI,bI,cD]at h
    exact h.1
   have h1:=ia.kind
   have h2:=ib.kind
   unfold tH at hh
   by_cases a1:a.kind=1<;>by_cases a2:a.kind=2<;>by_cases a3:a.kind=3<;>by_cases b1:b.kind=1<;>by_cases b2:b.kind=2<;>by_cases b3:b.kind=3<;>simp[a1,a2,a3,b1,b2,b3]at hh<;>omega
  clear hra Qh
  obtain⟨k,n,ns,ps,m⟩:=a
  obtain⟨k',n',Xd,yA,m'⟩:=b
  obtain rfl:k=k':=hk
  have h1:=ia.kind
  change 1≤k∧k≤4 at h1
  rcases(show k=1∨k=2∨k=3∨k=4 by omega)with e|e|e|e
  ·subst e
   obtain⟨a1,a2⟩:=ia.plain (by simp[T.kind])
   obtain⟨b1,b2⟩:=ib.plain (by simp[T.kind])
   obtain⟨a3,a4⟩:=ia.bare (by simp[T.kind])
   obtain⟨b3,b4⟩:=ib.bare (by simp[T.kind])
   simp only[T.parts,T.many,T.name,T.names]at a1 a2 a3 a4 b1 b2 b3 b4
   subst a1 a2 a3 a4 b1 b2 b3 b4
   exact⟨rfl,List.append_cancel_left h⟩
  ·subst e
   obtain⟨a1,a2⟩:=ia.plain (by simp[T.kind])
   obtain⟨b1,b2⟩:=ib.plain (by simp[T.kind])
   obtain⟨a3,a4⟩:=ia.bare (by simp[T.kind])
   obtain⟨b3,b4⟩:=ib.bare (by simp[T.kind])
   simp only[T.parts,T.many,T.name,T.names]at a1 a2 a3 a4 b1 b2 b3 b4
   subst a1 a2 a3 a4 b1 b2 b3 b4
   exact⟨rfl,List.append_cancel_left h⟩
  ·subst e
   obtain⟨a1,a2,a3,_,_,a4,_⟩:=ia.struct rfl
   obtain⟨b1,b2,b3,_,_,b4,_⟩:=ib.struct rfl
   have ap:=ia.parts
   have bp:=ib.parts
   simp only[T.parts,T.many,T.name,T.names]at a1 a2 a3 a4 b1 b2 b3 b4 ap bp
   subst a1 b1
   rw[dN,dN,if_neg De,if_neg De,if_pos rfl,if_neg De,if_neg De,if_pos rfl,tR,tR]at h
   simp only[bP]at h
   have g:=List.append_cancel_left h
   simp only[bI,bJ]at g
   obtain⟨e,g2⟩:=We (c:=123) (Cq a2 De) (Cq b2 De) g
   have e1:=Pq e
   obtain⟨e2,e3,e4⟩:=Gu ih ps yA ns Xd a3 b3 ap bp a4 b4 x y g2
   subst e1 e2 e3 e4
   exact⟨rfl,rfl⟩
  ·subst e
   obtain⟨a3,a4⟩:=ia.bare (by simp[T.kind])
   obtain⟨b3,b4⟩:=ib.bare (by simp[T.kind])
   have ap:=ia.parts
   have bp:=ib.parts
   obtain⟨al,_⟩:=ia.fn rfl
   obtain⟨bl,_⟩:=ib.fn rfl
   simp only[T.parts,T.many,T.name,T.names]at a3 a4 b3 b4 ap bp al bl
   subst a3 a4 b3 b4
   obtain⟨i,r,rfl⟩:=ug al
   obtain⟨i',r',rfl⟩:=ug bl
   rw[wv,wv]at h
   simp only[bP]at h
   have g:=List.append_cancel_left h
   simp only[bI,bJ]at g
   obtain⟨e1,e2,g2⟩:=pe ih i i' m m' (fun p hp=>ap p (List.mem_append_left _ hp)) (fun p hp=>bp p (List.mem_append_left _ hp)) _ _ g
   obtain⟨e3,e4⟩:=ih r r' (ap r Si) (bp r' Si) x y g2
   subst e1 e2 e3 e4
   exact⟨rfl,rfl⟩
theorem Q3 {a b:T} (ha:oM a=true) (hb:oM b=true) (h:Hf a=Hf b):a=b:=by unfold Hf at h;rw[if_pos ha,if_pos hb]at h;exact(NV 4 a b ha hb [] [] (by simpa using h)).1
theorem zn {a:T} (ha:oM a=true):Hf a≠[]:=by unfold Hf;rw[if_pos ha];obtain⟨r,hr⟩:=uX (d:=3) ha;rw[hr];simp
end Ty
namespace Ty
open Ob (kI hO nL nP reserved)
def dQ (t:T):Nat:=if oM t then(eV t).1 else 0
def Yw (t:T):Bool:=oM t&&(eV t).2
structure Ord where
 op:Int
 d:List Int
 s:List Int
 n:Int
 name:ByteArray
 ty:T
structure oJ where
 name:ByteArray
 static:Bool
 ty:T
 regs:Int
 code:List Ord
structure Af where
 name:ByteArray
 static:Bool
 ty:T
 value:Int
structure yh where
 name:ByteArray
 ty:T
 fn:Bool
structure Mad where
 bodies:List oJ
 globals:List Af
 outs:List yh
def mL (t:T):Bool:=decide (t.kind=4)&&oM t
def sI (t:T):Bool:=oM t&&(decide (t.kind=1)||decide (t.kind=2))
def dT (t:T):List T:=t.parts.take (t.parts.length-1)
def eR (t:T):Nat:=((dT t).map dQ).sum
def mH (t:T):Nat:=match t.parts[t.parts.length-1]? with|some p=>dQ p|none=>0
def Cf (t:T):Bool:=decide (t.kind=0)&&t.name.size==0&&t.names.length==0&&t.parts.length==0&&!t.many
structure Row where
 d:Int
 s:Int
 n:Bool
 least:Int
 most:Int
 name:Bool
 typ:Bool
def rowOf (rets:Nat) (many:Bool) (nc:Nat) (op:Int):Row×Bool:=
 if op=1 then(⟨1,0,true,-2147483648,2147483647,false,false⟩,true)
 else if op=2 then(⟨1,1,false,0,0,false,false⟩,true)
 else if op=3 then(⟨1,2,true,1,12,false,false⟩,true)
 else if op=4 then(⟨1,0,true,0,1,true,false⟩,true)
 else if op=5 then(⟨0,1,true,0,1,true,false⟩,true)
 else if op=6 then(⟨1,0,false,0,0,true,false⟩,true)
 else if op=7 then(⟨-1,-1,false,0,0,true,true⟩,true)
 else if op=8 then(⟨-1,-1,false,0,0,false,true⟩,true)
 else if op=9 then(⟨0,0,true,0,(nc:Int)-1,false,false⟩,true)
 else if op=10 then(⟨0,1,true,0,(nc:Int)-1,false,false⟩,true)
 else if op=11 then(⟨0,1,false,0,0,false,false⟩,true)
 else if op=12 then(⟨0,rets,false,0,0,false,false⟩,true)
 else if op=13 then(⟨1,0,false,0,0,false,false⟩,many)
 else if op=14 then(⟨1,1,false,0,0,false,false⟩,many)
 else(⟨0,0,false,0,0,false,false⟩,false)
def Td (regs:Int) (l:List Int):Bool:=l.all fun r=>decide (0≤r)&&decide (r<regs)
def Ct (w:Row) (n:Int):Bool:=if w.n then decide (w.least≤n)&&decide (n≤w.most)else decide (n=0)
def kY (w:Row) (s:ByteArray):Bool:=(w.name==nW s)&&(w.name||s.size==0)
def lQ (o:Ord):Int:=(o.s.length:Int)-eR o.ty-(if o.op=8 then 1 else 0)
def jG (o:Ord):Bool:=mL o.ty&&o.d.length==mH o.ty&&decide o.d.Nodup&&(decide (lQ o=0)||(decide (0<lQ o)&&o.ty.many&&decide (lQ o≤12)))
def iY (w:Row) (o:Ord):Bool:=Cf o.ty&&decide ((o.d.length:Int)=w.d)&&decide ((o.s.length:Int)=w.s)
def eD (b:oJ) (o:Ord):Bool:=
 let w:=rowOf (mH b.ty) b.ty.many b.code.length o.op
 w.2&&Td b.regs o.d&&Td b.regs o.s&&Ct w.1 o.n&&kY w.1 o.name&&(if w.1.typ then jG o else iY w.1 o)
def kM (l:List Ord):Int:=match l[l.length-1]? with|some o=>o.op|none=>0
def nV (b:oJ):Bool:=
 nW b.name&&decide (b.ty.kind=4)&&oM b.ty&&decide ((eR b.ty:Int)≤b.regs)&&decide (b.regs≤8000)&&decide (1≤b.code.length)&&decide (b.code.length≤6000)&&b.code.all (eD b)&&(decide (kM b.code=9)||decide (kM b.code=12))
def oX (g:Af):Bool:=sI g.ty&&(decide (g.ty.kind≠1)||(decide (-2147483648≤g.value)&&decide (g.value≤2147483647)))
def wW (o:yh):Bool:=if o.fn then mL o.ty else sI o.ty
def Mad.names (m:Mad):List ByteArray:=m.bodies.map (·.name)++m.globals.map (·.name)++m.outs.map (·.name)
def gW (m:Mad):Bool:=m.bodies.all nV&&m.globals.all oX&&m.outs.all wW&&m.names.all nW&&decide (m.names.map fun s=>s.data.toList).Nodup
def things (m:Mad):List (ByteArray×T×Bool):=m.bodies.map (fun b=>(b.name,b.ty,true))++m.globals.map (fun g=>(g.name,g.ty,false))++m.outs.map (fun o=>(o.name,o.ty,o.fn))
def jF (m:Mad) (s:ByteArray):Option (T×Bool):=((things m).find? fun x=>decide (x.1=s)).map (·.2)
def gB (m:Mad) (o:Ord):Bool:=
 o.name.size==0||(match jF m o.name with
  |none=>false
  |some (t,f)=>(f==(decide (o.op=7)||decide (o.op=6)))&&(decide (o.op≠7)||decide (t=o.ty))&&(f||decide (o.n<dQ t)))
def mT (m:Mad):Bool:=gW m&&m.bodies.all fun b=>b.code.all (gB m)
end Ty
end
section
open Go.RowKit Ob
def seen (l:List (List UInt8)):DataW Unit:=l.foldl (fun D k=>D.put (.string k) (.lit (.bool true))) (.map [])
theorem f9 (l:List (List UInt8)) (k:List UInt8):seen (l++[k])=(seen l).put (.string k) (.lit (.bool true)):=by unfold seen;rw[List.foldl_append];rfl
theorem j5 (l:List (List UInt8)) (D:DataW Unit) (hD:Maps.IsMap D) (k:List UInt8):
 Maps.IsMap (l.foldl (fun D k=>D.put (.string k) (.lit (.bool true))) D)∧
 (l.foldl (fun D k=>D.put (.string k) (.lit (.bool true))) D).atKey (.string k) (.lit (.bool false))=if l.contains k then .lit (.bool true)else D.atKey (.string k) (.lit (.bool false)):=by
 induction l generalizing D with
  |nil=>exact⟨hD,rfl⟩
  |cons x l ih=>
   obtain⟨h1,h2⟩:=ih (D.put (.string x) (.lit (.bool true))) (hD.put _ _)
   refine⟨h1,?_⟩
   rw[cA,h2,List.contains_cons]
   by_cases hl:l.contains k=true
   ·rw[if_pos hl,if_pos (by rw[hl,Bool.or_true])]
   ·rw[if_neg hl]
    by_cases e:k=x
    ·subst e
     rw[Maps.atKey_put_same hD (by trivial),if_pos Si]
    ·rw[Maps.atKey_put_other (by intro h;injection h with h;exact e h),if_neg (by simp[e]at hl⊢;exact hl)]
theorem GZ (l:List (List UInt8)) (k:List UInt8):(seen l).atKey (.string k) (.lit (.bool false))=.lit (.bool (l.contains k)):=by obtain⟨_,h⟩:=j5 l (.map []) Maps.isMap_empty k;unfold seen;rw[h];exact V396
theorem nF (he:P.underlying e=some .bool) {b:Bool} {ps:List MemPlace} (h:plainElem (H:=Unit) P e v=some (.lit (.bool b),ps)):v=.bool b:=by unfold plainElem at h;rw[he]at h;cases v<;>simp at h;rw[h.1]
theorem jm {n:Nat} {l:List (List UInt8)} (h:w.ownsMap U 9 (plainElem (H:=Unit) U 4) b n (seen l)) (s:ByteArray) (hs:s.size≤9223372036854775807):
 (Instr.lookup 233 (.map (some b)) (cU s) false).run U w=.ok (cV (l.contains s.data.toList)) w:=by
 obtain⟨v,ps,Kk,hv⟩:=h.lookup (Maps.string_keyed bW) Tryz.underlying233 (z:=.bool false) Kr (plainElem_bool bQ false)
  (WideMaps.keyOf_string_mk bW (s:=s) (by unfold maxLen;omega))
 rw[GZ]at hv;rw[Kk,nF bQ hv]
def RowsAt (w:World) (p:Option Addr) (sz:Nat) (ls:List (List Value)):Prop:=
 ls.length=0∨∃c co,p=some ⟨c,co,none⟩∧c<w.heap.size∧∀j (h:j<ls.length),w.rangeAt c (co+j*sz) ls[j]
theorem RowsAt.below {sz:Nat} {ls:List (List Value)} (h:RowsAt w p sz ls) (hb:dG w w'):RowsAt w' p sz ls:=by rcases h with h|⟨c,co,rfl,hc,hr⟩;(·exact .inl h);(·exact .inr ⟨c,co,rfl,aF hc hb.size,fun j hj i v hv=>(hb.cell (p:=⟨c,co+j*sz+i,none⟩) hc).trans (hr j hj i v hv)⟩)
def pU (s:lF):List Value:=[cU s.name,cS dA s.kind,cV s.static,cS dA s.pos,cS dA s.size,cU s.sign,cS dA s.frame]
def mR (x:uN):List Value:=[cS dA x.pos,cS dA x.sym,cS dA x.add]
def lJ (n:Int):Prop:=-9223372036854775808≤n∧n≤9223372036854775807
structure yg (s:lF):Prop where
 name:s.name.size≤9223372036854775807
 sign:s.sign.size≤9223372036854775807
 kind:lJ s.kind
 pos:lJ s.pos
 size:lJ s.size
 frame:lJ s.frame
structure QI (x:uN):Prop where
 pos:lJ x.pos
 sym:lJ x.sym
 add:lJ x.add
def jk (pc pd ps pr:Option Addr) (n kn d kd m km r kr:Nat):Value:=cX #[cT pc n kn,cT pd d kd,cT ps m km,cT pr r kr]
structure ObjAt (w:World) (pc pd ps pr:Option Addr) (n d m r:Nat) (o:Ob.Obj):Prop where
 nl:o.code.length=n
 dl:o.data.length=d
 ml:o.syms.length=m
 rl:o.rels.length=r
 nb:n≤9223372036854775807
 db:d≤9223372036854775807
 mb:m≤9223372036854775807
 rb:r≤9223372036854775807
 code:SliceAt w .u32 pc o.code
 data:SliceAt w .i32 pd o.data
 syms:RowsAt w ps 7 (o.syms.map pU)
 rels:RowsAt w pr 3 (o.rels.map mR)
 u32:∀j:Nat,0≤o.code.getD j 0∧o.code.getD j 0≤4294967295
 i32:In32 o.data
 symIn:∀s∈o.syms,yg s
 relIn:∀x∈o.rels,QI x
theorem ObjAt.below {n m:Nat} {o:Ob.Obj} (h:ObjAt w pc pd ps pr n d m r o) (hb:dG w w'):ObjAt w' pc pd ps pr n d m r o:=
 ⟨h.nl,h.dl,h.ml,h.rl,h.nb,h.db,h.mb,h.rb,h.code.below hb,h.data.below hb,h.syms.below hb,h.rels.below hb,h.u32,h.i32,h.symIn,h.relIn⟩
theorem ObjAt.sym {n m:Nat} {o:Ob.Obj} (h:ObjAt w pc pd ps pr n d m r o) (hk:k<m):∃c co,ps=some ⟨c,co,none⟩∧c<w.heap.size∧∃AZ:k<o.syms.length,w.rangeAt c (co+k*7) (pU o.syms[k]):=by(have AZ:k<o.syms.length:=by rw[h.ml];exact hk);rcases h.syms with h0|⟨c,co,rfl,hc,hr⟩;(·rw[aI]at h0;omega);(·exact V473)
theorem ObjAt.rel {n m:Nat} {o:Ob.Obj} (h:ObjAt w pc pd ps pr n d m r o) (hk:k<r):∃c co,pr=some ⟨c,co,none⟩∧c<w.heap.size∧∃AZ:k<o.rels.length,w.rangeAt c (co+k*3) (mR o.rels[k]):=by(have AZ:k<o.rels.length:=by rw[h.rl];exact hk);rcases h.rels with h0|⟨c,co,rfl,hc,hr⟩;(·rw[aI]at h0;omega);(·exact V473)
theorem ObjAt.word {n m:Nat} {o:Ob.Obj} (h:ObjAt w pc pd ps pr n d m r o) (hk:k<n):∃c co,pc=some ⟨c,co,none⟩∧c<w.heap.size∧w.cell? ⟨c,co+k,none⟩=some (cS .u32 (o.code.getD k 0)):=by rcases h.code with h0|⟨c,co,rfl,hc,hr⟩;(·rw[h.nl]at h0;omega);(·exact⟨c,co,rfl,hc,hr k (by rw[h.nl];exact hk)⟩)
def xG (L:List (List UInt8×Value)):DataW Value:=L.foldl (fun D x=>D.put (.string x.1) (.held x.2)) (.map [])
theorem Qu (L:List (List UInt8×Value)) (n:List UInt8) (v:Value):xG (L++[(n,v)])=(xG L).put (.string n) (.held v):=by unfold xG;rw[List.foldl_append];rfl
theorem E9 (L:List (List UInt8×Value)) (hn:(L.map Prod.fst).Nodup) (D:DataW Value) (hD:Maps.IsMap D) (k:List UInt8) (z:DataW Value):
 (L.foldl (fun D x=>D.put (.string x.1) (.held x.2)) D).atKey (.string k) z=match L.lookup k with|some x=>.held x|none=>D.atKey (.string k) z:=by
 induction L generalizing D with
  |nil=>rfl
  |cons x l ih=>
   obtain⟨n,v⟩:=x
   rw[bC,List.nodup_cons]at hn
   rw[cA,ih hn.2 _ (hD.put _ _)]
   by_cases e:k=n
   ·subst e
    have hl:l.lookup k=none:=by
     rw[List.lookup_eq_none_iff]
     intro p hp
     rw[bne_iff_ne]
     intro e
     exact hn.1 (List.mem_map.2 ⟨p,hp,e.symm⟩)
    rw[hl,List.lookup_cons_self]
    simp only
    exact Maps.atKey_put_same hD (k:=.string k) (by trivial) (.held v) z
   ·have hl:((n,v)::l).lookup k=l.lookup k:=by
     rw[List.lookup_cons,beq_eq_false_iff_ne.2 e]
    rw[hl]
    cases l.lookup k with
    |some y=>rfl
    |none=>exact Maps.atKey_put_other (k:=.string n) (k':=.string k) (by intro h;injection h with h;exact e h) (.held v) z
theorem wt (L:List (List UInt8×Value)) (hn:(L.map Prod.fst).Nodup) (k:List UInt8) (z:DataW Value):(xG L).atKey (.string k) z=match L.lookup k with|some x=>.held x|none=>z:=by unfold xG;rw[E9 L hn _ Maps.isMap_empty k z];rfl
def hR (v:Value):Option (DataW Value×List MemPlace):=some (.held v,[])
theorem BT (L:List (List UInt8×Value)) (hn:(L.map Prod.fst).Nodup) (k:List UInt8):Maps.has (xG L) (.string k)=(L.lookup k).isSome:=by
 have h:=fun z=>wt L hn k z
 cases e:L.lookup k with
  |none=>
   refine Maps.has_false_of_atKey (fun z=>?_)
   rw[h z,e]
  |some x=>
   exact Maps.has_true_of_atKey (y:=.held x) (fun z=>by rw[h z,e])
def Ax:Value:=cX #[cV false,cU ⟨#[]⟩,cS dA 0,cS dA 0,cU ⟨#[]⟩,cT none 0 0,cT none 0 0,cV false]
theorem Ft {n:Nat} {L:List (List UInt8×Value)} (h:w.ownsMap U 9 hR b n (xG L)) (hn:(L.map Prod.fst).Nodup) (s:ByteArray) (hs:s.size≤9223372036854775807):
 (Instr.lookup 90 (.map (some b)) (cU s) true).run U w=.ok (.tuple #[(L.lookup s.data.toList).getD Ax,cV (L.lookup s.data.toList).isSome]) w:=by
 (have hz:(zeroValue 130).run U w=.ok Ax w:=by kernel_rfl);have hk:=WideMaps.keyOf_string_mk bW (s:=s) (by unfold maxLen;omega)
 have Tg:∀v ps,hR v=some ((xG L).atKey (.string s.data.toList) (.held Ax),ps)→v=(L.lookup s.data.toList).getD Ax:=by
  intro v ps hv
  rw[wt L hn]at hv
  unfold hR at hv
  simp only[Option.some.injEq,Prod.mk.injEq,and_true]at hv
  cases e:L.lookup s.data.toList with
  |none=>rw[e]at hv;simp only[DataW.held.injEq]at hv;exact hv.1
  |some x=>rw[e]at hv;simp only[DataW.held.injEq]at hv;exact hv.1
 obtain⟨v,ps,Kk,hv⟩:=h.look_ok (Maps.string_keyed bW) Tryz.underlying90 hz (zd:=.held Ax) (zp:=[]) rfl hk;rw[Kk,BT L hn,Tg v ps hv]
theorem sT {n:Nat} (h:w.ownsRow base e size v n xs) {g:Nat} {es:Array MapEntry} {cl:Nat} (hg:w.heap[g]? =some (.map es cl)):some g≠v.ownBlock:=by rcases h.2 with⟨rfl,_⟩|⟨g',gN,mU,rfl,_,hh,_⟩;(·simp[cO]);(·intro he;(obtain rfl:g=g':=by simpa[cO]using he);rw[hg]at hh;injection hh with hh;cases hh)
end
section
open Go.RowKit Go.Shelf
theorem bSize:(U.info? 136).map (·.size)=some 2:=by kernel_rfl
theorem bLies:liesAt U U.depth 136 (2/U.cellsOf 136) 0 136 1=true:=by kernel_rfl
abbrev xN (B b:Nat) (bs:List Value) (w:World):Prop:=Lib.IsBuilderF 136 5 B b bs w
def OnlyB (B b:Nat) (w w':World):Prop:=Below B w w'∧Lib.OthersKept 5 (some b) w w'
theorem OnlyB.refl (B b:Nat) (w:World):OnlyB B b w w:=⟨aC _ _,Lib.OthersKept.refl _ _ _⟩
theorem OnlyB.trans (h:OnlyB B b w w1) (k:OnlyB B b w1 w2):OnlyB B b w w2:=⟨h.1.trans k.1,h.2.trans k.2⟩
theorem OnlyB.set (h:OnlyB B b w w1) (hB:B≤b) (j:Nat) (v:Value):OnlyB B b w (w1.setCell ⟨b,j,none⟩ v):=
 ⟨h.1.setCell (p:=⟨b,j,none⟩) hB v,h.2.setCell ⟨b,j,none⟩ rfl v⟩
theorem Oc (B b:Nat) (bs:List Value) (w:World) (h:xN B b bs w):
 O U 127 #[cW (some ⟨b,0,none⟩)] w fun e w'=>e=cZ (.tuple #[])∧Lib.BuilderAtF 136 5 B b (cW (some ⟨b,0,none⟩)) bs w'∧OnlyB B b w w':=by
 obtain⟨ti,Y9,TG⟩:=Option.map_eq_some_iff.1 bSize
 cases h with
  |inr hu=>
   have hc:=hu.cell0
   have HU:=Ih hu
   clear hu
   go_in
   go_wp2_with fail
   rw[Lib.run_neq_ptr_same w _ Tryz.underlying133 Y9]
   go_wp2_with fail
   go_end0
   exact⟨rfl,HU,OnlyB.refl _ _ _⟩
  |inl hf=>
   have hc:=hf.cell0
   have vz:=hf.frozen0
   have hsh:=hf.shape
   have HF:=Ih hf
   clear hf
   go_in
   go_wp2_with fail
   rw[Lib.run_to_unsafe w ⟨b,0,none⟩ Tryz.underlying133 Tryz.underlying234 Y9 (by rw[TG];decide) hsh (Nat.zero_lt_succ 1)]
   simp only[cG,Oper.upon_value]
   go_wp2_with fail
   rw[run_callFunc_extern Tryz.func134 Kr Kr Kr (e:=Extern.AbiNoEscape.same) Kr,Lib.run_noEscape]
   simp only[cG,Oper.upon_value]
   go_wp2_with fail
   rw[Lib.run_from_unsafe w ⟨b,0,none⟩ Tryz.underlying234 Tryz.underlying133 Y9 hsh bLies]
   simp only[cG,Oper.upon_value]
   go_wp2_with fail
   go_end0
   exact⟨rfl,HF.used _,(OnlyB.refl _ _ _).set HF.1 0 _⟩
theorem C4 {bs:List Value} (h:xN B b bs w) (hk:Lib.OthersKept 5 none w w') (hg:∀k<w.heap.size,w'.heap[k]? =w.heap[k]?):xN B b bs w':=by(have h1:∀p,Lib.BuilderAtF 136 5 B b p bs w→Lib.BuilderAtF 136 5 B b p bs w':=by rintro p ⟨hB,v,hb,dU,fM⟩;refine⟨hB,v,(hg b (dB hb)).trans hb,?_,fM⟩;refine⟨dU.1,?_⟩;rcases dU.2 with h|⟨g,gN,mU,fz,e,h1,h2,h3⟩;(·exact .inl h);(·exact .inr ⟨g,gN,mU,fz,e,h1,(hg g (dB h2)).trans h2,h3⟩));exact h.imp (h1 _) (h1 _)
theorem rH {bs:List Value} (h:xN B b bs w) (o:Obj):xN B b bs (w.alloc o):=
 C4 h ((Lib.OthersKept.refl _ _ _).alloc o) (fun k hk=>aR w o k hk)
theorem RV:(U.info? 5).map (fun i=>(i.zero,i.size,i.bytes))=some (some (cS .u8 0),1,1):=by kernel_rfl
theorem He (B b:Nat) (bs:List Value) (s:ByteArray) (w:World) (h:xN B b bs w) (kN:bs.length+s.size≤140737488355328) (hBw:B≤w.heap.size):
 O U 100 #[cW (some ⟨b,0,none⟩),cU s] w fun e w'=>e=cZ (.tuple #[cS dA s.size,.nilIface])∧xN B b (bs++Lib.strCells s) w'∧OnlyB B b w w':=by
 obtain⟨ui,hui,hu0,Hi,Ey⟩:=info_parts RV;have HCC:=Ih (Oc B b bs w h);clear h;go_in;go_wp2_with fail;refine HCC.mono ?_;rintro e w1 ⟨rfl,⟨hBb,v,jE,dU,fM⟩,UF⟩;have hB1:B≤w1.heap.size:=aG hBw UF.1.size;have WE:=dB jE;have c0:w1.cell? ⟨b,0,none⟩=some (.pointer (some ⟨b,0,none⟩)):=cell_of_row w1 b 0 _ _ _ jE;have c1:w1.cell? ⟨b,1,none⟩=some v:=cell_of_row w1 b 1 _ _ _ jE;have P0:=Ih UF;have zQ:=Ih fM;have eH:=Ih jE;have DU:=Ih dU;clear UF fM jE dU HCC;go_wp2_with (at_builtin;refine Lib.wpList_append_own_stringF _ rfl _ _ 134 9 rfl B 5 ui Tryz.underlying134 bW hui hu0 Hi Ey _ _ _ rfl DU s rfl (by unfold maxLen;omega) Om Om ?_);intro v2 w2 Gl oF _;have Yf:=(oF.block b WE (fun e=>zQ e.symm)).trans eH;have d0:w2.cell? ⟨b,0,none⟩=some (.pointer (some ⟨b,0,none⟩)):=cell_of_row w2 b 0 _ _ _ Yf;have d1:w2.cell? ⟨b,1,none⟩=some v:=cell_of_row w2 b 1 _ _ _ Yf;have f1:w2.frozen? ⟨b,1,none⟩=false:=Lib.frozen_of_heap Yf 1;(obtain⟨ao,n2,gN,rfl⟩:∃ao n2 gN,v2=.slice ao n2 gN:=by rcases Gl.2 with⟨e,_⟩|⟨g,gN,_,_,e,_⟩;(·exact⟨_,_,_,e⟩);(·exact⟨_,_,_,e⟩));have Rm:Hid (OnlyB B b w w2):=Ih ⟨P0.1.grown oF hB1 (fun k hk=>(DU.lt k hk).1),P0.2.grown oF (Lib.ownsRowF_kind DU)⟩
 have Ro:Hid (xN B b (bs++Lib.strCells s) (w2.setCell ⟨b,1,none⟩ (cT ao n2 gN))):=
  Ih (.inr (Lib.BuilderAtF.put (T:=136) (e:=5) hBb Yf (bs':=bs++Lib.strCells s) (by simpa[Lib.strCells_length]using Gl) De))
 clear Gl oF Yf c0 c1;go_wp2_with fail;go_ret2;exact⟨rfl,Ro,Rm.set hBb 1 _⟩
end
section
open Go.RowKit Ob Ty
def StrsAt (w:World) (p:Option Addr) (l:List ByteArray):Prop:=l.length=0∨∃c co,p=some ⟨c,co,none⟩∧c<w.heap.size∧∀j (h:j<l.length),w.cell? ⟨c,co+j,none⟩=some (cU l[j])
theorem StrsAt.below {l:List ByteArray} (h:StrsAt w p l) (hb:dG w w'):StrsAt w' p l:=by rcases h with h|⟨c,co,rfl,hc,hr⟩;(·exact .inl h);(·exact .inr ⟨c,co,rfl,aF hc hb.size,fun j hj=>(hb.cell (p:=⟨c,co+j,none⟩) hc).trans (hr j hj)⟩)
structure TV where
 pn:Option Addr
 nn:Nat
 kn:Nat
 pp:Option Addr
 np:Nat
 kp:Nat
def TV.cells (v:TV) (t:T):List Value:=[cS dA t.kind,cU t.name,cT v.pn v.nn v.kn,cT v.pp v.np v.kp,cV t.many]
structure TyIn (w:World) (t:T) (v:TV):Prop where
 nl:t.names.length=v.nn
 pl:t.parts.length=v.np
 nb:v.nn≤9223372036854775807
 pb:v.np≤9223372036854775807
 sz:t.name.size≤9223372036854775807
 szs:∀s∈t.names,s.size≤9223372036854775807
 kind:lJ t.kind
 strs:StrsAt w v.pn t.names
 nk:v.nn≤v.kn
 pk:v.np≤v.kp
 kb:v.kn≤9223372036854775807
 qb:v.kp≤9223372036854775807
theorem TyIn.below {t:T} {v:TV} (h:TyIn w t v) (hb:dG w w'):TyIn w' t v:=⟨h.nl,h.pl,h.nb,h.pb,h.sz,h.szs,h.kind,h.strs.below hb,h.nk,h.pk,h.kb,h.qb⟩
def TyAt (w:World):Nat→T→TV→Prop
 |0,_,_=>False
 |d+1,t,v=>TyIn w t v∧(t.parts.length=0∨∃c co,v.pp=some ⟨c,co,none⟩∧c<w.heap.size∧∀j (h:j<t.parts.length),∃v',w.rangeAt c (co+j*5) (TV.cells v' t.parts[j])∧TyAt w d t.parts[j] v')
theorem TyAt.below (hb:dG w w'):∀{d:Nat} {t:T} {v:TV},TyAt w d t v→TyAt w' d t v
 |0,_,_,h=>h
 |d+1,t,v,⟨h1,h2⟩=>by
  refine⟨h1.below hb,?_⟩
  rcases h2 with h|⟨c,co,e,hc,hr⟩
  ·exact .inl h
  ·refine .inr ⟨c,co,e,aF hc hb.size,fun j hj=>?_⟩
   obtain⟨v',h3,h4⟩:=hr j hj
   exact⟨v',fun i u hu=>(hb.cell (p:=⟨c,co+j*5+i,none⟩) hc).trans (h3 i u hu),h4.below hb⟩
theorem TyAt.up:∀{d:Nat} {t:T} {v:TV},TyAt w d t v→TyAt w (d+1) t v
 |0,_,_,h=>h.elim
 |d+1,t,v,⟨h1,h2⟩=>by
  refine⟨h1,?_⟩
  rcases h2 with h|⟨c,co,e,hc,hr⟩
  ·exact .inl h
  ·refine .inr ⟨c,co,e,hc,fun j hj=>?_⟩
   obtain⟨v',h3,h4⟩:=hr j hj
   exact⟨v',h3,h4.up⟩
theorem TyAt.in {t:T} {v:TV} (h:TyAt w d t v):TyIn w t v:=by
 cases d with
  |zero=>exact h.elim
  |succ d=>exact h.1
theorem TyAt.part {t:T} {v:TV} (h:TyAt w d t v) {j:Nat} (hj:j<t.parts.length):∃c co,v.pp=some ⟨c,co,none⟩∧c<w.heap.size∧∃v' d',d=d'+1∧w.rangeAt c (co+j*5) (TV.cells v' t.parts[j])∧TyAt w d' t.parts[j] v':=by
 cases d with
  |zero=>exact h.elim
  |succ d=>
   rcases h.2 with h|⟨c,co,e,hc,hr⟩
   ·omega
   ·obtain⟨v',h3,h4⟩:=hr j hj
    exact⟨c,co,e,hc,v',d,rfl,h3,h4⟩
def Mx (m:Int) (w:World):Prop:=w.cell? ⟨0,0,none⟩=some (cS dA m)
theorem Mx.below {m:Int} (h:Mx m w) (hb:dG w w'):Mx m w':=(hb.cell (p:=⟨0,0,none⟩) (fA h)).trans h
def fN (v:TV) (t:T):Value:=cX #[cS dA t.kind,cU t.name,cT v.pn v.nn v.kn,cT v.pp v.np v.kp,cV t.many]
theorem iR (h:s.size=0):s=⟨#[]⟩:=by obtain⟨d⟩:=s;have:d.size=0:=h;rw[Array.eq_empty_of_size_eq_zero this]
theorem pA (h:s.size≠0):(s.toList==[])=false:=by
 rw[cK]
 cases e:s.data.toList with
  |nil=>
   have:=congrArg List.length e
   rw[Array.length_toList]at this
   exact absurd this h
  |cons a l=>rfl
theorem Zj (t:T) (v:TV) (w:World) (h:TyIn w t v):O U 125 #[fN v t] w (RB w (cV (sC t))):=by have sX:=h.nl;(have hb:sC t=(t.name.size==0&&v.nn==0):=by unfold sC;rw[sX]);rw[hb];clear hb sX h;obtain⟨nm,fG⟩:=Ex t.name;unfold fN;rw[←fG];clear fG;by_cases h0:nm.size=0;(·have e:=iR h0;subst e;by_cases h1:v.nn=0;(·(have h2:((v.nn:Int)==0)=true:=by simp[h1]);(have e1:(v.nn==0)=true:=by simp[h1]);rw[e1];clear h1 e1;exact V49);(·(have h2:((v.nn:Int)==0)=false:=by simp[h1]);(have e1:(v.nn==0)=false:=by simp[h1]);rw[e1];clear h1 e1;exact V49));(·have h2:=pA h0;(have h3:nm.toList≠[]:=by simpa using h2);(have h4:(nm.size==0)=false:=by simp[h0]);rw[h4];clear h0 h4;exact V49)
def pE (l:List ByteArray):Bool:=l.all nW&&decide ((l.map fun s=>s.data.toList).Nodup)
theorem Pt {l:List ByteArray} (hk:k<l.length) (h:nW l[k]=false):pE l=false:=by unfold pE;rw[List.all_eq_false.2 ⟨_,aE hk,by simp[h]⟩];rfl
theorem Gd {l:List ByteArray} (hk:k<l.length) (h:((l.take k).map fun s=>s.data.toList).contains l[k].data.toList=true):pE l=false:=by unfold pE;rw[Bool.and_eq_false_iff];right;rw[decide_eq_false_iff_not];intro hn;rw[List.contains_eq_mem,decide_eq_true_eq]at h;obtain⟨x,hx,e⟩:=List.mem_map.1 h;obtain⟨j,hj,rfl⟩:=aQ hx;rw[aO]at hj;rw[List.getElem_take]at e;have hp:=List.pairwise_iff_getElem.1 hn j k (by rw[aI];omega) (by rw[aI];omega) Om;rw[cH,cH]at hp;exact hp e
theorem Pu {l:List ByteArray} (h:∀j (hj:j<l.length),nW l[j]=true∧((l.take j).map fun s=>s.data.toList).contains l[j].data.toList=false):pE l=true:=by unfold pE;rw[aV];refine⟨List.all_eq_true.2 fun x hx=>?_,decide_eq_true ?_⟩;(·obtain⟨j,hj,rfl⟩:=aQ hx;exact(h j hj).1);(·rw[List.nodup_iff_pairwise_ne,List.pairwise_iff_getElem];intro i j hi hj hij;rw[aI]at hi hj;rw[cH,cH];intro e;have h2:=(h j hj).2;rw[List.contains_eq_mem,decide_eq_false_iff_not]at h2;refine h2 (List.mem_map.2 ⟨l[i],?_,e⟩);rw[List.mem_take_iff_getElem];exact⟨i,by omega,rfl⟩)
theorem Jy {l:List ByteArray} (hk:k<l.length):((l.take (k+1)).map fun s=>s.data.toList)=((l.take k).map fun s=>s.data.toList)++[l[k].data.toList]:=by rw[aL hk,aS];rfl
theorem A6 (l:List ByteArray) (p:Option Addr) (n c:Nat) (m:Int) (w:World) (hl:l.length=n) (hn:n≤2000000) (hz:∀s∈l,s.size≤9223372036854775807) (h:StrsAt w p l) (hm:Mx m w):
 O U 126 #[cT p n c] w (RB w (cV (pE l))):=by
 have Qk:=@run_makeMap U;obtain⟨t,ht⟩:=Ex (pE l);rw[←ht];have HT:=Ih ht;have HL:=Ih hl;have HS:=Ih h;have HM:=Ih hm;have HZ:=Ih hz;clear ht hl h hm hz;go_in;go_wp2_with fail;clear Qk;go_loopg[9] n (fun gk v9 wr=>∃k:Nat,k≤n∧gk=n-k∧v9=cS dA k∧dG w wr∧wr.ownsMap U 9 (plainElem (H:=Unit) U 4) w.heap.size k (seen ((l.take k).map fun s=>s.data.toList))∧∀j (hj:j<l.length),j<k→nW l[j]=true∧((l.take j).map fun s=>s.data.toList).contains l[j].data.toList=false);(case atStart=>exact⟨0,aJ _,rfl,rfl,(aC _ _).alloc (aA _) _,World.ownsMap_made w U 9 _,fun j hj h=>by omega⟩)
 case round=>
  obtain⟨k,hk,hg,rfl,hb,jB,eT⟩:=hrel;have HG:=Ih hg;have HB:=Ih hb;have iO:=Ih jB;have fP:=Ih eT;clear hg hb jB eT;by_cases dH:k<n
  ·(have jS:k<l.length:=by rw[HL.out];exact dH);obtain⟨s,hs⟩:=Ex (l[k]);(obtain⟨b,o,rfl,jI⟩:∃b o,p=some ⟨b,o,none⟩∧wr.cell? ⟨b,o+k,none⟩=some (cU s):=by rcases(HS.below HB)with h0|⟨b,o,e,_,hr⟩;(·omega);(·exact⟨b,o,e,by rw[hs];exact hr k jS⟩));have gO:=HZ s (by rw[hs];exact aE jS);have HI:=Ih (rU s m wr gO (HM.below HB));have yD:(k:Int)<n:=Om;have HE:=Ih hs;clear hs;go_wp2_with fail;refine HI.mono ?_;rintro e w1 ⟨rfl,rfl⟩;obtain⟨q,hq⟩:=Ex (kI s.data.toList);rw[←hq];have gJ:=jm iO s gO;obtain⟨r,hr⟩:=Ex (((l.take k).map fun s=>s.data.toList).contains s.data.toList);rw[←hr]at gJ;have HQ:=Ih hq;have HR:=Ih hr;clear hq hr HI;cases q;(·have HF:Hid (t=false):=Ih (by rw[HT.out];exact Pt jS (by unfold nW;rw[←HE.out,←HQ.out]));exact V413)
   ·cases r
    ·have HN:Hid (nW l[k]=true∧((l.take k).map fun s=>s.data.toList).contains l[k].data.toList=false):=Ih ⟨by unfold nW;rw[←HE.out,←HQ.out],by rw[←HE.out,←HR.out]⟩;have FK:k<9000000:=Om;go_wp2_with (at_mapUpdate;refine wpList_mapUpdate_own (H:=Unit) _ rfl _ _ _ 233 rfl 9 4 (Maps.string_keyed bW) Tryz.underlying233 _ w.heap.size k _ rfl iO (by unfold maxLen;omega) _ _ (.string s.data.toList) rfl rfl (WideMaps.keyOf_string_mk bW (by unfold maxLen;omega)) (.lit (.bool true)) [] (plainElem_bool bQ true) ?_;intro w3 hown3 hgrow3);go_roundg (n-(k+1));(case measure=>have:=HG.out;omega)
     case rel=>exact⟨k+1,by omega,rfl,Gn,HB.grown hgrow3 HB.size (fun g e=>by injection e with e;omega),by
      rw[Jy jS,f9,←HE.out]
      exact hown3,fun j hj FL=>by
      by_cases e:j<k
      ·exact fP j hj e
      ·obtain rfl:j=k:=Om
       exact HN⟩
    (·have HF:Hid (t=false):=Ih (by rw[HT.out];exact Gd jS (by rw[←HE.out,←HR.out]));exact V413)
  (·obtain rfl:n=k:=Om;have HF:Hid (t=true):=Ih (by rw[HT.out];exact Pu (fun j hj=>fP j hj (by rw[HL.out]at hj;exact hj)));exact V413)
end
end Go.Proofs.YtfbmaffacikgbaaGreat
