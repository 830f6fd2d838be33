/- A part of the proof of EmitSays. -/
import Derived.Test.YtfbmaffacikgbaaGreatA8
import Derived.Test.YtfbmaffacikgbaaGreatA11
import Derived.Test.YtfbmaffacikgbaaGreatA20
set_option maxRecDepth 100000
set_option maxHeartbeats 4000000
set_option linter.unusedVariables false
set_option linter.unusedSimpArgs false
open Go renaming Calls→O
open Go.Proofs.Tryz renaming prog→U
open Nat renaming le_refl→aA,lt_of_lt_of_le→aF,le_trans→aG,zero_le→aJ
open List renaming getElem?_eq_getElem→aB,length_append→aD,getElem_mem→aE,length_map→aI,mem_singleton→aK,take_succ_eq_append_getElem→aL,length_cons→aM,length_take→aO,mem_cons_of_mem→aP,getElem_of_mem→aQ,map_append→aS,length_nil→aT,mem_cons_self→aU,take_of_length_le→aY,not_mem_nil→aZ,map_cons→bC,mem_cons→bF,getElem?_map→bH,cons_append→bI,nil_append→bJ,append_assoc→bP,set_cons_succ→bS,setIfInBounds_toArray→bX,mem_singleton_self→bY,set_cons_zero→bZ,foldl_cons→cA,replicate→cC,all_eq_true→cJ,map_nil→cM,length_set→cQ
open Go.RowKit.Below renaming refl→aC,heap_setCell→bV
open Go.World renaming alloc_heap_new→aH,ownsRow_nil→bE,frozen?→bN,cell?_of_block→bT,setCell→cN
open Go.Lib renaming alloc_old→aR
open Bool renaming and_eq_true→aV
open Go.Value renaming slice→aW,int→bL,string→cE
open Go.IntWalk renaming i64_in→aX
open Go.Proofs.Tryz renaming underlying3→bG,underlying9→bW
open And renaming intro→bM
open Go.ByteArray renaming toList_eq→cK
open Go.Value renaming int→cS
open Go.Value renaming slice→cT
open Go.Value renaming string→cU
open Go.Value renaming bool→cV
open Go.Value renaming pointer→cW
open Go.Value renaming agg→cX
open Go.Obj renaming cells→cY
open Go.Ending renaming returned→cZ
open Go.IntKind renaming i64→dA
namespace Go.Proofs.YtfbmaffacikgbaaGreat
variable {w W w' w0 wx:World} {B r k i base size d bm bp n' co b:Nat} {v v1 v0 v2 v3 v4 v5 v6 v7 v':Value} {e:TypeId} {chg:List TypeId} {xs:List Value} {l:List Int} {a:Act} {P:Program} {p ps:Option Addr} {L:List (List Int)} {s:ByteArray} {mx x:Int}
section
open Go.RowKit Go.Shelf Ob Ty
def sB (b:oJ):lF:=⟨b.name,1,b.static,0,0,dV b.ty,0⟩
def kL (o:yh):lF:=⟨o.name,if o.fn then 3 else 4,false,0,0,dV o.ty,0⟩
def oO (g:Af):List Int:=[wrap32 g.value,wrap32 (g.value/4294967296)].take (dQ g.ty)
def fU (l:List Af):List lF×List Int:=l.foldl (fun a g=>(a.1++[⟨g.name,2,g.static,(a.2.length:Nat),(dQ g.ty:Nat),dV g.ty,0⟩],a.2++oO g)) ([],[])
theorem ow (l:List Af) (g:Af):fU (l++[g])=((fU l).1++[⟨g.name,2,g.static,((fU l).2.length:Nat),(dQ g.ty:Nat),dV g.ty,0⟩],(fU l).2++oO g):=by unfold fU;rw[List.foldl_append];rfl
theorem Bl (l:List Af) (i:Nat) (h:i<l.length):fU (l.take (i+1))=((fU (l.take i)).1++[⟨l[i].name,2,l[i].static,((fU (l.take i)).2.length:Nat),(dQ l[i].ty:Nat),dV l[i].ty,0⟩],(fU (l.take i)).2++oO l[i]):=by rw[aL h,ow]
theorem uG (l:List Af):(fU l).1.length=l.length:=by
 have h:∀(l:List Af) (a:List lF×List Int),(l.foldl (fun a g=>(a.1++[(⟨g.name,2,g.static,(a.2.length:Nat),(dQ g.ty:Nat),dV g.ty,0⟩:lF)],a.2++oO g)) a).1.length=a.1.length+l.length:=by
  intro l
  induction l with
  |nil=>intro a;rfl
  |cons x l ih=>intro a;rw[cA,ih];simp;omega
 unfold fU;rw[h];simp
def fO (m:Mad):List lF:=m.bodies.map sB++(fU m.globals).1++m.outs.map kL
def fS (m:Mad):List Int:=(fU m.globals).2
def As (m:Mad):Prop:=(∃b∈m.bodies,2000<(dV b.ty).size)∨(∃g∈m.globals,2000<(dV g.ty).size)∨(∃o∈m.outs,2000<(dV o.ty).size)
theorem appN {ops:Array Oper} {rest:List Oper} {o:Oper} {Q:Exit→Act→World→Prop} {t:TypeId} (E:tL P t e size) (s x:Operand) (KM:o.guard=none)
 (ho:o.op=.call {callee:=.builtin .append,args:=#[s,x],argTypes:=#[t,t]})
 (base:Nat) (v:Value) (n:Nat) (xs:List Value) (hv:a.eval s=v) (dU:w.ownsRow base e size v n xs)
 (g k gN:Nat) (kB:List Value) (hx:a.eval x=cT (some ⟨g,0,none⟩) k gN) (hb:∀j u,kB[j]? =some u→w.cell? ((⟨g,0,none⟩:Addr).add j)=some u) (hl:kB.length=k*size) (h1:∀u∈kB,u.oneCell'=true)
 (hn:n≤100000) (hk:k≤1000) (oH:base≤w.heap.size)
 (h:∀v' w',w'.ownsRow base e size v' (n+k) (xs++kB)→w.grownBy w' v.ownBlock→wpList P ops Q rest (a.put o.dst v') w'):wpList P ops Q (o::rest) a w:=by
 obtain⟨i,z,ht,hi,hz,hs,Tu,Y4,h0⟩:=E;have Qj:(n+k)*i.bytes≤140737488355328:=aG (Nat.mul_le_mul (by omega:n+k≤101000) Tu) De
 exact oR KM s x t t ho base e i z size i.bytes ht hi hz hs rfl Y4 h0 v n xs hv dU _ k kB hx (Src.ofSlice _ ht _ k gN _ hl hb h1) (by unfold maxLen;omega) Qj oH
  fun v' w' h2 h3 h4=>h v' w' h2 h3
theorem QB:tL U 30 21 1:=kP (z:=.int .i32 0) (bytes:=4) Tryz.underlying30 Kr De De De
structure DcI (wA wx:World) (B bu bm:Nat) (ss:List lF) (ds:List Int):Prop where
 d:DecAt wx B bu bm ss ds
 f:EFc B yN wA wx
 s:∀s∈ss,s.sign.size≤2000
theorem EFc.old (f:EFc B chg w wx) (hb:dG wx w'):EFc B chg w w':=f.trans (EFr.of hb).c
theorem DcI.old {wA:World} {bu:Nat} {ss:List lF} {ds:List Int} (h:DcI wA wx B bu bm ss ds) (hb:dG wx w'):DcI wA w' B bu bm ss ds:=⟨h.d.old hb,h.f.old hb,h.s⟩
theorem DcI.said {wA:World} {bu:Nat} {ss:List lF} {ds:List Int} {s:lF} (h:DcI wA wx B bu bm ss ds) (hd:DecAt w' B bu bm (ss++[s]) ds) (f:EFc B yN wx w') (hs:s.sign.size≤2000):DcI wA w' B bu bm (ss++[s]) ds:=
 ⟨hd,h.f.trans f,fun x hx=>by
  rcases List.mem_append.1 hx with hx|hx
  ·exact h.s x hx
  ·rw[aK]at hx
   rw[hx];exact hs⟩
theorem iH {t:TypeId} (h:w.heap[b]? =some (cY #[v0,v1,v2] t (0,0))):w.cell? ⟨b,0,none⟩=some v0∧w.cell? ⟨b,1,none⟩=some v1∧w.cell? ⟨b,2,none⟩=some v2∧∀o,w.frozen? ⟨b,o,none⟩=false:=
 ⟨cell_of_row w b 0 _ _ _ h,cell_of_row w b 1 _ _ _ h,cell_of_row w b 2 _ _ _ h,fun o=>by simp[bN,h]⟩
theorem Lw {t:TypeId} (h:w.heap[b]? =some (cY #[v0,v1,v2,v3,v4,v5,v6,v7] t (0,0))):w.cell? ⟨b,0,none⟩=some v0∧w.cell? ⟨b,1,none⟩=some v1∧w.cell? ⟨b,2,none⟩=some v2∧w.cell? ⟨b,3,none⟩=some v3∧w.cell? ⟨b,4,none⟩=some v4∧w.cell? ⟨b,5,none⟩=some v5∧w.cell? ⟨b,6,none⟩=some v6∧w.cell? ⟨b,7,none⟩=some v7∧∀o,w.frozen? ⟨b,o,none⟩=false:=
 ⟨cell_of_row w b 0 _ _ _ h,cell_of_row w b 1 _ _ _ h,cell_of_row w b 2 _ _ _ h,cell_of_row w b 3 _ _ _ h,cell_of_row w b 4 _ _ _ h,cell_of_row w b 5 _ _ _ h,cell_of_row w b 6 _ _ _ h,cell_of_row w b 7 _ _ _ h,fun o=>by simp[bN,h]⟩
theorem Po {t:T} (h:sI t=true):dQ t=1∨dQ t=2:=by unfold sI at h;simp only[aV,Bool.or_eq_true,decide_eq_true_eq]at h;obtain⟨h1,h2⟩:=h;rw[yW h1];rcases h2 with h2|h2;(·left;rw[lL Om Om]);(·right;rw[nB h2])
theorem Ue (g:Af):(oO g).length≤2:=by unfold oO;rw[aO];simp;omega
theorem Ij:∀(l:List Af) (k:Nat),l.length≤k→(fU l).2.length≤2*k:=by
 have h:∀(l:List Af) (a:List lF×List Int),(l.foldl (fun a g=>(a.1++[(⟨g.name,2,g.static,(a.2.length:Nat),(dQ g.ty:Nat),dV g.ty,0⟩:lF)],a.2++oO g)) a).2.length≤a.2.length+2*l.length:=by
  intro l
  induction l with
  |nil=>intro a;simp
  |cons x l ih=>
   intro a
   rw[cA]
   refine aG (ih _) ?_
   have:=Ue x
   simp only[aD,aM]
   omega
 intro l k hk;have:=h l ([],[]);unfold fU;simp only[aT]at this;omega
theorem Yz {W w:World} {B bu bm:Nat} (m:Mad) (v:MV) (mx:Int) (hm:MadAt W m v) (hmx:Mx mx W) (dJ:dG W w) (PT:W.heap.size≤B) (h:DecAt w B bu bm [] []) (hglo:∀g∈m.globals,sI g.ty=true) (By:v.nb≤40∧v.ng≤40∧v.no≤40):
 O U 15 #[cW (some ⟨bu,0,none⟩),lR v] w fun x w'=>(As m∧x=uV∧Below B w w')∨(x=cZ (.tuple #[])∧(∀s∈fO m,s.sign.size≤2000)∧DecAt w' B bu bm (fO m) (fS m)∧EFc B yN w w'):=by obtain⟨WT,WR,WQ⟩:=By;obtain⟨hU,eS,Id,oL,hgm,hom,yJ,Qp,JS⟩:=hm;obtain⟨wV,dY,kb,yY,fW,kg,yX,iK,ko⟩:=v;simp only at WT WR WQ hU eS Id oL hgm hom yJ Qp JS;have yu:=Ih yJ;have YZ:=Ih Qp;have HOS:=Ih JS;have jC:=Ih hU;have Ou:=Ih eS;have Us:=Ih Id;have nN:=Ih hmx;have HW:=Ih dJ;have HGLO:=Ih hglo;have gO:=h.sz;have bb:=Ih h;unfold lR;simp only;clear hU eS Id yJ Qp JS hmx dJ hglo h;go_in;obtain⟨wA,gA⟩:∃wA,wA=(w.alloc (cY #[cW (some ⟨bu,0,none⟩)] 62)).alloc (cY #[cT wV dY kb,cT yY fW kg,cT yX iK ko] 26):=⟨_,rfl⟩;obtain⟨bp,Fe⟩:∃bp,bp=w.heap.size:=⟨_,rfl⟩;have N4:Hid (wA.heap[bp]? =some (cY #[cW (some ⟨bu,0,none⟩)] 62 (0,0))):=Ih (by rw[gA,Fe];exact dX _ (heap_alloc_new w _));have MB:Hid (wA.heap[bp+1]? =some (cY #[cT wV dY kb,cT yY fW kg,cT yX iK ko] 26 (0,0))):=Ih (by rw[gA,Fe];exact dF w _ _);have Za4:=0;exact V229
theorem CW (v:Value) (w:World):Sem.run U (Instr.typeAssert (.iface 60 v) 20 60 true) w=.ok (.tuple #[v,cV true]) w:=by kernel_rfl
theorem Gf (b2 b3:Nat) (a0 a1 a2 a3 e0:Value) (OA:List PanicEntry) (w:World) (h2:w.heap[b2]? =some (cY #[a0,a1,a2,a3] 34 (0,0))) (h3:w.heap[b3]? =some (cY #[e0] 35 (0,0))):
 CallsD U 14 #[cW (some ⟨b2,0,none⟩),cW (some ⟨b3,0,none⟩)] (.panicking ({v:=.iface 60 (cX #[]),recovered:=false}::OA)) w fun e u' w'=>
  e=cZ (.tuple #[])∧u'=.panicking ({v:=.iface 60 (cX #[]),recovered:=true}::OA)∧w'.heap[b2]? =some (cY #[cT none 0 0,cT none 0 0,cT none 0 0,cT none 0 0] 34 (0,0))∧w'.heap[b3]? =some (cY #[cS dA 1] 35 (0,0))∧(∀B,B≤b2→B≤b3→B≤w.heap.size→Below B w w'):=by have Z6t:=0;exact V137
theorem B7 (b2 b3:Nat) (w:World):
 CallsD U 14 #[cW (some ⟨b2,0,none⟩),cW (some ⟨b3,0,none⟩)] .returning w fun e u' w'=>e=cZ (.tuple #[])∧u'=.returning∧w'=w:=by have Z6u:=0;exact V137
def EV:Prop:=∀(m:Mad) (v:MV) (mx:Int) (w0 w:World),MadAt w0 m v→Mx mx w0→dG w0 w→0<w0.heap.size→(v.nb≤40∧v.ng≤40∧v.no≤40)→
 O U 13 #[lR v] w fun x w'=>x=cZ (cV (mT m))∧dG w w'
def iC (s:lF):ByteArray×Int×Bool×ByteArray:=(s.name,s.kind,s.static,s.sign)
def GU (l:List lF):Option (Int×Int):=l.foldl (fun a s=>a.bind fun cd=>Ob.take cd.1 cd.2 s) (some (0,0))
theorem zm (l:List lF) (s:lF):GU (l++[s])=(GU l).bind fun cd=>Ob.take cd.1 cd.2 s:=by unfold GU;rw[List.foldl_append];rfl
structure SyI (m:Mad) (i n:Nat) (ss:List lF):Prop where
 go:GU (ss.take i)=some (((n:Nat):Int),(0:Int))
 len:ss.length=(fO m).length
 tl:∀k,i≤k→ss[k]? =(fO m)[k]?
 key:ss.map iC=(fO m).map iC
 inn:∀s∈ss,yg s
theorem xU (m:Mad) (h:i<m.bodies.length):(fO m)[i]? =some (sB m.bodies[i]):=by unfold fO;rw[bP,List.getElem?_append_left (by rw[aI];exact h),bH,aB h];rfl
theorem pB (m:Mad):(fO m).length=m.bodies.length+m.globals.length+m.outs.length:=by unfold fO;rw[aD,aD,aI,aI,uG]
theorem SyI.step {m:Mad} {n fr:Nat} {ss:List lF} (h:SyI m i n ss) (hi:i<m.bodies.length) (hl:i<ss.length) (h1:n<n') (h2:n'≤6000) (h3:fr≤999):SyI m (i+1) n' (ss.set i {ss[i]with pos:=(n:Nat),size:=((n':Int)-(n:Int)),frame:=(fr:Nat)}):=by have e:=h.tl i (aA _);rw[xU m hi,aB hl]at e;injection e with e;refine⟨?_,by rw[cQ];exact h.len,fun k hk=>?_,?_,fun s hs=>?_⟩;(·(have e2:(ss.set i {ss[i]with pos:=(n:Nat),size:=((n':Int)-(n:Int)),frame:=(fr:Nat)}).take (i+1)=ss.take i++[{ss[i]with pos:=(n:Nat),size:=((n':Int)-(n:Int)),frame:=(fr:Nat)}]:=by rw[aL (by rw[cQ];exact hl),List.getElem_set_self];congr 1;exact List.take_set_of_le (aA _));rw[e2,zm,h.go,Option.bind_some];(have hk:ss[i].kind=1:=by rw[e];rfl);refine(Jc (c:=(n:Nat)) (d:=0) (s:={ss[i]with pos:=(n:Nat),size:=((n':Int)-(n:Int)),frame:=(fr:Nat)}) hk (by show ¬(((n':Int)-(n:Int))<1∨16000<((n':Int)-(n:Int)));omega) (by show(((n:Nat):Int)=(n:Nat))∧(0:Int)≤((fr:Nat):Int)∧((fr:Nat):Int)≤16000;omega)).trans ?_;show some (((n:Nat):Int)+((n':Int)-(n:Int)),(0:Int))=some ((n':Int),(0:Int));rw[show((n:Nat):Int)+((n':Int)-(n:Int))=(n':Int)by omega]);(·rw[List.getElem?_set_ne Om];exact h.tl k Om);(·rw[←h.key,List.map_set];have e3:iC {ss[i]with pos:=(n:Nat),size:=((n':Int)-(n:Int)),frame:=(fr:Nat)}=iC ss[i]:=rfl;rw[e3];refine List.ext_getElem? fun k=>?_;rw[List.getElem?_set,aI];split;(·rename_i hk;subst hk;rw[bH,aB hl];rfl);(·rfl));(·rcases List.mem_or_eq_of_mem_set hs with hs|rfl;(·exact h.inn s hs);(·obtain⟨q1,q2,q3,q4,q5,q6⟩:=h.inn _ (aE hl);exact⟨q1,q2,q3,⟨by simp only;omega,by simp only;omega⟩,⟨by simp only;omega,by simp only;omega⟩,⟨by simp only;omega,by simp only;omega⟩⟩))
theorem vT {m:Mad} (h:mT m=true):(∀b∈m.bodies,nV b=true)∧(∀g∈m.globals,oX g=true)∧(∀o∈m.outs,wW o=true)∧(∀s∈m.names,nW s=true)∧(m.names.map fun s=>s.data.toList).Nodup:=by unfold mT gW at h;simp only[aV,cJ,decide_eq_true_eq]at h;obtain⟨⟨⟨⟨⟨h1,h2⟩,h3⟩,h4⟩,h5⟩,-⟩:=h;exact⟨h1,h2,h3,h4,h5⟩
theorem Ld {g:Af} (h:oX g=true):sI g.ty=true:=by unfold oX at h;simp only[aV]at h;exact h.1
theorem Yq (l:List Af):(fU l).1.map (·.name)=l.map (·.name):=by
 have h:∀(l:List Af) (a:List lF×List Int),(l.foldl (fun a g=>(a.1++[(⟨g.name,2,g.static,(a.2.length:Nat),(dQ g.ty:Nat),dV g.ty,0⟩:lF)],a.2++oO g)) a).1.map (·.name)=a.1.map (·.name)++l.map (·.name):=by
  intro l
  induction l with
  |nil=>intro a;simp
  |cons x l ih=>intro a;rw[cA,ih];simp
 unfold fU;rw[h];simp
theorem uY (m:Mad):(fO m).map (·.name)=m.names:=by unfold fO Mad.names;rw[aS,aS,Yq,List.map_map,List.map_map];rfl
def Rb (m:Mad):Nat:=(m.bodies.map fun b=>30*b.regs.toNat+qU b.code).sum
def Lr (m:Mad) (i:Nat):Nat:=((m.bodies.take i).map fun b=>30*b.regs.toNat+qU b.code).sum
theorem qg (m:Mad) (h:i<m.bodies.length):Lr m (i+1)=Lr m i+(30*m.bodies[i].regs.toNat+qU m.bodies[i].code):=by unfold Lr;rw[aL h,aS,List.sum_append];simp
theorem Wc (l:List Nat) (i:Nat):(l.take i).sum≤l.sum:=by
 induction l generalizing i with
  |nil=>simp
  |cons x l ih=>
   cases i with
   |zero=>simp
   |succ i=>rw[List.take_succ_cons,List.sum_cons,List.sum_cons];have:=ih i;omega
theorem CN (m:Mad) (i:Nat):Lr m i≤Rb m:=by unfold Lr Rb;rw[List.map_take];exact Wc _ i
theorem IU {ss:List lF} {k:List UInt8} {x:Nat} (h:(Co ss).lookup k=some x):x<ss.length:=by have:=Eo h;unfold Co at this;obtain⟨j,hj,e⟩:=aQ this;rw[List.getElem_zipIdx]at e;injection e with _ e;rw[List.length_zipIdx,aI]at hj;omega
theorem tX {α β:Type} [BEq α] [LawfulBEq α] {L:List (α×β)} (hn:(L.map Prod.fst).Nodup) {k:α} {x:β} (h:(k,x)∈L):L.lookup k=some x:=by
 induction L with
  |nil=>cases h
  |cons y l ih=>
   obtain⟨n,v⟩:=y
   rw[bC,List.nodup_cons]at hn
   rw[List.lookup_cons]
   rcases List.mem_cons.1 h with e|hm
   ·injection e with e1 e2
    subst e1 e2
    simp
   ·have fM:k≠n:=fun e=>hn.1 (List.mem_map.2 ⟨_,hm,e⟩)
    rw[beq_eq_false_iff_ne.2 fM]
    exact ih hn.2 hm
theorem IV {ss:List lF} (hn:(ss.map fun s=>s.name.data.toList).Nodup) (h:i<ss.length):(Co ss).lookup ss[i].name.data.toList=some i:=by refine tX (by rw[Jn];exact hn) ?_;unfold Co;rw[List.mem_iff_getElem];exact⟨i,by rw[List.length_zipIdx,aI];exact h,by rw[List.getElem_zipIdx];simp⟩
theorem sm_of {ss:List lF} (h:w.ownsMap U 9 (plainElem (H:=Unit) U 3) bm ss.length (Wb (Co ss))) (hn:(ss.map fun s=>s.name.data.toList).Nodup) (h0:0<ss.length):SmAt w bm ss.length:=by
 refine⟨_,_,h,fun key=>⟨((Co ss).lookup key).getD 0,?_,ud _ (by rw[Jn];exact hn) key⟩⟩
 cases e:(Co ss).lookup key with
  |none=>exact h0
  |some x=>exact IU e
theorem sm_at {ss:List lF} (h:w.ownsMap U 9 (plainElem (H:=Unit) U 3) bm ss.length (Wb (Co ss))) (hn:(ss.map fun s=>s.name.data.toList).Nodup) (hi:i<ss.length) (hs:ss[i].name.size≤9223372036854775807):(Instr.lookup 63 (.map (some bm)) (.string ss[i].name) false).run U w=.ok (.int .i64 (i:Nat)) w:=by obtain⟨v,ps,Kk,hv⟩:=h.lookup (Maps.string_keyed bW) Tryz.underlying63 (z:=.int .i64 0) Kr (plainElem_int bG De) (WideMaps.keyOf_string_mk bW (s:=ss[i].name) (by unfold maxLen;omega));rw[ud _ (by rw[Jn];exact hn),IV hn hi]at hv;rw[Kk,sS bG hv];rfl
theorem ii {m:Mad} {o:Ord} (h:o.name.size≠0) (h2:jF m o.name=none):gB m o=false:=by unfold gB;rw[h2,beq_eq_false_iff_ne.2 h];rfl
theorem ig {m:Mad} {o:Ord} {t:T} {f:Bool} (h:o.name.size≠0) (h2:jF m o.name=some (t,f)):gB m o=((f==(decide (o.op=7)||decide (o.op=6)))&&(decide (o.op≠7)||decide (t=o.ty))&&(f||decide (o.n<dQ t))):=by unfold gB;rw[h2,beq_eq_false_iff_ne.2 h];rfl
theorem CS {b:oJ} {o:Ord} (h:eD b o=true) (h7:o.op=7):oM o.ty=true:=by obtain⟨-,-,hp⟩:=kH h;(have hc:jG o=true:=by rcases hp with h|h|h|h|h|h|h|h|h|h|h|h|h<;>first|exact h.2|omega);have hf:=(kQ hc Om).1;unfold mL at hf;simp only[aV]at hf;exact hf.2
theorem zo {a b:T} (ha:oM a=true) (hb:oM b=true) (h:dV a=dV b):a=b:=by refine Q3 ha hb ?_;unfold dV at h;injection h with h;have:=congrArg Array.toList h;simpa using this
theorem G4 {m:Mad} {L:List (List UInt8×Value)} (h:Ents W (things m) L) (hn:(L.map Prod.fst).Nodup) (s:ByteArray):
 (jF m s=none∧L.lookup s.data.toList=none)∨∃t f n tv e,jF m s=some (t,f)∧L.lookup s.data.toList=some (gH f (dV t) n tv t)∧TyAt W e t tv∧(s,t,f)∈things m:=by
 have hk:=h.key;unfold jF
 cases e:(things m).find? (fun x=>decide (x.1=s))with
  |none=>
   refine .inl ⟨rfl,?_⟩
   rw[List.lookup_eq_none_iff]
   intro p hp
   rw[bne_iff_ne]
   intro e2
   have h1:s.data.toList∈(things m).map fun x=>x.1.data.toList:=by rw[←hk,e2];exact List.mem_map.2 ⟨p,hp,rfl⟩
   obtain⟨x,hx,e3⟩:=List.mem_map.1 h1
   have:=List.find?_eq_none.1 e x hx
   simp only[decide_eq_true_eq]at this
   exact this (Pq e3)
  |some x=>
   have h1:=List.find?_some e
   simp only[decide_eq_true_eq]at h1
   have h2:=List.mem_of_find?_eq_some e
   obtain⟨j,hj,e3⟩:=aQ h2
   obtain⟨n,tv,ed,e4,ht⟩:=h.2 j hj (by rw[h.1];exact hj)
   rw[e3]at e4 ht
   refine .inr ⟨x.2.1,x.2.2,n,tv,ed,rfl,?_,ht,?_⟩
   ·refine tX hn ?_
    rw[←h1,←e4]
    exact aE _
   ·rw[←h1]
    exact h2
theorem Gc {t:TypeId} {n:Nat} {D:DataW Value} {R:Value→Option (DataW Value×List MemPlace)} (h:w.ownsMap P t R bm n D) (f:dG w w'):w'.ownsMap P t R bm n D:=by obtain⟨es,gK,h1,h2⟩:=h;exact⟨es,gK,Kb f h1,h2⟩
theorem ie {b:oJ} {v:BV} {m:Mad} {L:List (List UInt8×Value)} (hb:BodAt W b v) (dJ:dG W w) (hmx:Mx mx W) (pL:nV b=true) (ma:w.ownsMap U 9 hR bm L.length (xG L)) (hn:(L.map Prod.fst).Nodup) (he:Ents W (things m) L) (pJ:∀x∈things m,oM x.2.1=true) (gQ:v.nc≤6000):
 O U 24 #[gG v b,.map (some bm)] w (RB w (cV (b.code.all (gB m)))):=by obtain⟨hf,Tn,-,sY,-,eT,uD⟩:=iA pL;obtain⟨c,co,gP,hc,dM⟩:=hb.code.get sY;obtain⟨nc,jA⟩:=Ex v.nc;obtain⟨kc,oU⟩:=Ex v.kc;have ab:=Ih (hb.cl.trans jA.symm);(have qT:nc≤kc:=by rw[jA,oU];exact hb.ck);(have hnc6:nc≤6000:=by rw[jA];exact gQ);have HW:=Ih dJ;have nN:=Ih hmx;have fP:=Ih eT;have mN:=Ih dM;have ta:=Ih ma;have aa:=Ih hn;have HE:=Ih he;have pO:=Ih pJ;obtain⟨r,hr⟩:=Ex (b.code.all (gB m));rw[←hr];have HR:=Ih hr;unfold gG;rw[gP,←jA,←oU];clear hb dJ hmx pL ma hn he pJ gQ hf Tn sY eT uD dM gP jA oU hr;go_in;have wU:Hid (dG w (w.alloc (cY #[cU b.name,cV b.static,cS dA b.ty.kind,cU b.ty.name,cT v.tv.pn v.tv.nn v.tv.kn,cT v.tv.pp v.tv.np v.tv.kp,cV b.ty.many,cS dA b.regs,cT (some ⟨c,co,none⟩) nc kc] 48))):=Ih ((aC _ _).alloc (aA _) _);go_wp2_with fail;go_loopg[13] nc (fun gk v13 wx=>∃i:Nat,i≤nc∧gk=nc-i∧v13=cS dA i∧dG w wx∧∀j (hj:j<b.code.length),j<i→gB m b.code[j]=true);(case atStart=>exact⟨0,aJ _,rfl,rfl,wU,fun j hj h=>absurd h (Nat.not_lt_zero _)⟩);(case round=>clear wU;have Zju:=0;exact V494)
theorem Lj {α:Type} {l:List α} {p:α→Bool} (hi:i<l.length) (h:p l[i]=true) (hn:∀j (hj:j<l.length),j<i→p l[j]=false):l.find? p=some l[i]:=by rw[List.find?_eq_some_iff_getElem];exact⟨h,i,hi,rfl,fun j hj=>by rw[hn j Om hj];rfl⟩
theorem rK {α:Type} {l:List α} {p:α→Bool} (h:∀j (hj:j<l.length),p l[j]=false):l.find? p=none:=by rw[List.find?_eq_none];intro x hx;obtain⟨j,hj,rfl⟩:=aQ hx;rw[h j hj];exact Bool.false_ne_true
theorem sZ (m:Mad) (s:ByteArray):jF m s=(((m.bodies.find? fun b=>decide (b.name=s)).map fun b=>(b.ty,true)).or ((m.globals.find? fun g=>decide (g.name=s)).map fun g=>(g.ty,false))).or ((m.outs.find? fun o=>decide (o.name=s)).map fun o=>(o.ty,o.fn)):=by unfold jF things;rw[List.find?_append,List.find?_append,List.find?_map,List.find?_map,List.find?_map];have e1:((fun x:ByteArray×T×Bool=>decide (x.1=s))∘fun b:oJ=>(b.name,b.ty,true))=fun b=>decide (b.name=s):=rfl;have e2:((fun x:ByteArray×T×Bool=>decide (x.1=s))∘fun g:Af=>(g.name,g.ty,false))=fun g=>decide (g.name=s):=rfl;have e3:((fun x:ByteArray×T×Bool=>decide (x.1=s))∘fun o:yh=>(o.name,o.ty,o.fn))=fun o=>decide (o.name=s):=rfl;rw[e1,e2,e3];cases m.bodies.find? fun b=>decide (b.name=s)<;>cases m.globals.find? fun g=>decide (g.name=s)<;>cases m.outs.find? fun o=>decide (o.name=s)<;>rfl
theorem Sr {n:ByteArray} (h:n≠s):decide (n=s)=false:=decide_eq_false h
theorem oz {m:Mad} (hi:i<m.bodies.length) (h:m.bodies[i].name=s) (hn:∀j (hj:j<m.bodies.length),j<i→m.bodies[j].name≠s):jF m s=some (m.bodies[i].ty,true):=by rw[sZ,Lj hi (decide_eq_true h) (fun j hj h2=>Sr (hn j hj h2))];rfl
theorem oy {m:Mad} (hb:∀j (hj:j<m.bodies.length),m.bodies[j].name≠s) (hi:i<m.globals.length) (h:m.globals[i].name=s) (hn:∀j (hj:j<m.globals.length),j<i→m.globals[j].name≠s):jF m s=some (m.globals[i].ty,false):=by rw[sZ,rK (fun j hj=>Sr (hb j hj)),Lj hi (decide_eq_true h) (fun j hj h2=>Sr (hn j hj h2))];rfl
theorem F3 {m:Mad} (hb:∀j (hj:j<m.bodies.length),m.bodies[j].name≠s) (hg:∀j (hj:j<m.globals.length),m.globals[j].name≠s) (hi:i<m.outs.length) (h:m.outs[i].name=s) (hn:∀j (hj:j<m.outs.length),j<i→m.outs[j].name≠s):jF m s=some (m.outs[i].ty,m.outs[i].fn):=by rw[sZ,rK (fun j hj=>Sr (hb j hj)),rK (fun j hj=>Sr (hg j hj)),Lj hi (decide_eq_true h) (fun j hj h2=>Sr (hn j hj h2))];rfl
theorem ox {m:Mad} (hb:∀j (hj:j<m.bodies.length),m.bodies[j].name≠s) (hg:∀j (hj:j<m.globals.length),m.globals[j].name≠s) (ho:∀j (hj:j<m.outs.length),m.outs[j].name≠s):jF m s=none:=by rw[sZ,rK (fun j hj=>Sr (hb j hj)),rK (fun j hj=>Sr (hg j hj)),rK (fun j hj=>Sr (ho j hj))];rfl
def yw (m:Mad) (s:ByteArray) (x:Ending):Prop:=
 (∃(i:Nat) (h:i<m.bodies.length),x=cZ (.tuple #[cS dA 1,cS dA (i:Nat)])∧jF m s=some (m.bodies[i].ty,true))∨
 (∃(i:Nat) (h:i<m.globals.length),x=cZ (.tuple #[cS dA 2,cS dA (i:Nat)])∧jF m s=some (m.globals[i].ty,false))∨
 (∃(i:Nat) (h:i<m.outs.length),x=cZ (.tuple #[cS dA 3,cS dA (i:Nat)])∧jF m s=some (m.outs[i].ty,m.outs[i].fn))∨
 (x=cZ (.tuple #[cS dA 0,cS dA 0])∧jF m s=none)
theorem Sz {a b:ByteArray} (h:a≠b):(a.toList==b.toList)=false:=beq_eq_false_iff_ne.2 fun e=>h (Pq (by rwa[cK,cK]at e))
theorem F5 (m:Mad) (v:MV) (s:ByteArray) (hm:MadAt W m v) (dJ:dG W w):
 O U 92 #[lR v,cU s] w fun x w'=>yw m s x∧dG w w':=by have Z4Q:=0;exact V91
end
end Go.Proofs.YtfbmaffacikgbaaGreat
