/- For every unit in orders (of up to 40 bodies, of up to 200 registers and orders) the program makes an object that may be, with the unit's symbols, or tells what is wrong: the statement EmitSays. No conditions. -/
import Derived.Test.YtfbmaffacikgbaaGreatA24
import Derived.Lib.SmallJoins
import Derived.ProofKit
import Derived.OpenShut
import Derived.HandedShaped
set_option maxRecDepth 100000
set_option maxHeartbeats 4000000
set_option linter.unusedVariables false
set_option linter.unusedSimpArgs false
open Go renaming Calls→O
open Go.Proofs.Tryz renaming prog→U
open List renaming getElem?_eq_getElem→aB,length_map→aI,getD_eq_getElem?_getD→aN,getElem_map→cH
open Go.Proofs.Tryz renaming underlying3→bG,underlying4→bQ,underlying9→bW
open Go.DataW renaming trod→bU
open List.cons renaming injEq→cD
namespace Go.Proofs.YtfbmaffacikgbaaGreat.lawSays
open Go.ChangeShapes Go.WideShapes Go.ChangeAt Go.RowKit Go.Deep Go.Joins Go.Shelf Ob Ty
variable {w W w2 W':World} {r k i base size d n' co b:Nat} {v v1 v0 v2 v3 v4 v5 v6 v7 v9:Value} {e:TypeId} {a:Act} {p:Option Addr} {cs:Array Value} {s:ByteArray} {mx x:Int}
theorem in64_of_wf {n:Int} (h:(Lit.int .i64 n).wf=true):lJ n:=by unfold lJ;simpa[Lit.wf,IntKind.min,IntKind.max,IntKind.signed,IntKind.bits]using h
theorem open_els {α:Type} [Inhabited α] (Bk:α→List Value→Prop) (k:Nat) {H:Type} {enc:TypeId×Value→H} {t:TypeId} {uI:Nat} {x:DataW H×List MemPlace} (ht:U.underlying t=some (.slice e)) (hc:U.cellsOf e=k) (hk:0<k)
 (hone:∀n cs x,n<uI→bU enc U W 0 (fun _=>true) true n e cs=some x→∃s,Bk s cs)
 (h:bU enc U W 0 (fun _=>true) true uI t [v]=some x):∃(p:Option Addr) (n c:Nat) (ls:List α),v=.slice p n c∧n≤c∧c≤9223372036854775807∧ls.length=n∧
  (ls.length=0∨∃b vK,p=some ⟨b,vK,none⟩∧b<W.heap.size∧∀j (hj:j<ls.length),∃cs,W.rangeAt b (vK+j*k) cs∧Bk ls[j] cs)∧∀s∈ls,∃cs,Bk s cs:=by
 rcases DataW.trod_slice ht h with⟨kE,hx⟩|⟨a,len,gN,elems,rest,n,hn,kE,hx,_,hl,hm,kN,M8,_⟩;(·simp only[cD,and_true]at kE;exact⟨none,0,0,[],kE,by omega,by omega,rfl,.inl rfl,fun n hn=>by cases hn⟩)
 ·simp only[cD,and_true]at kE
  obtain⟨f,hf⟩:=choose_lt (n:=len) (α:=α) (p:=fun i s=>∃cs,W.cells? 0 (a.add (i*k)) k=some cs∧Bk s cs) (fun i hi=>by
   have h1:=M8 i hi
   rw[aB Om,hc]at h1
   obtain⟨cs,h2,h3⟩:=Option.bind_eq_some_iff.1 h1
   obtain⟨s,hs⟩:=hone n cs _ Om h3
   exact⟨s,cs,h2,hs⟩)
  refine⟨some a,len,gN,(List.range len).map f,kE,hl,by unfold maxLen at hm;omega,by simp,?_,fun s hs=>?_⟩;(·by_cases h0:len=0;(·exact .inl (by simp[h0]));(·right;obtain⟨cs0,h0s,-⟩:=hf 0 Om;obtain⟨_,Nv,h0c⟩:=World.cells?_some h0s;have c0:=h0c 0 Om;rw[aB Om]at c0;obtain⟨b,vK,spot⟩:=a;(have M1:spot=none:=by unfold Addr.add at c0;simp at c0;exact World.cell?_spot (a:=⟨b,vK,spot⟩) c0);subst M1;refine⟨b,vK,rfl,?_,?_⟩;(·rw[add_plain,add_plain]at c0;exact fA c0);(·intro j hj;simp only[aI,List.length_range]at hj;obtain⟨cs,hjs,hg⟩:=hf j hj;obtain⟨_,hlj,VF⟩:=World.cells?_some hjs;refine⟨cs,?_,by simpa using hg⟩;intro i u hu;have eZ:i<cs.length:=(List.getElem?_eq_some_iff.1 hu).1;have:=VF i Om;rw[add_plain,add_plain]at this;rw[this];exact hu)));(·obtain⟨i,mm,rfl⟩:=List.mem_map.1 hs;obtain⟨cs,-,hg⟩:=hf i (List.mem_range.1 mm);exact⟨cs,hg⟩)
theorem open_nums {H:Type} {enc:TypeId×Value→H} {uI:Nat} {x:DataW H×List MemPlace} (h:bU enc U W 0 (fun _=>true) true uI 69 [v]=some x):
 ∃(p:Option Addr) (n c:Nat) (ls:List Int),v=.slice p n c∧n≤c∧c≤9223372036854775807∧ls.length=n∧SliceAt W .i64 p ls∧∀r∈ls,lJ r:=by
 obtain⟨p,n,c,ls,rfl,h1,h2,h3,h4,h5⟩:=open_els (α:=Int) (fun s cs=>cs=[.int .i64 s]∧lJ s) 1 Tryz.underlying69 Kr De (fun m cs x _ hx=>by
  obtain⟨s,e,_,z⟩:=DataW.trod_int bG hx
  exact⟨s,e,in64_of_wf z⟩) h
 refine⟨p,n,c,ls,rfl,h1,h2,h3,?_,fun r hr=>?_⟩;(·rcases h4 with h4|⟨b,vK,rfl,hb,hr⟩;(·exact .inl h4);(·refine .inr ⟨b,vK,rfl,hb,fun j hj=>?_⟩;obtain⟨cs,hc,rfl,-⟩:=hr j hj;have:=hc 0 _ rfl;rw[Nat.mul_one,Nat.add_zero]at this;rw[this,aN,aB hj];rfl));(·obtain⟨cs,-,h⟩:=h5 r hr;exact h)
theorem open_texts {H:Type} {enc:TypeId×Value→H} {uI:Nat} {x:DataW H×List MemPlace} (h:bU enc U W 0 (fun _=>true) true uI 42 [v]=some x):
 ∃(p:Option Addr) (n c:Nat) (ls:List ByteArray),v=.slice p n c∧n≤c∧c≤9223372036854775807∧ls.length=n∧StrsAt W p ls∧∀s∈ls,s.size≤9223372036854775807:=by
 obtain⟨p,n,c,ls,rfl,h1,h2,h3,h4,h5⟩:=open_els (α:=ByteArray) (fun s cs=>cs=[.string s]∧s.size≤9223372036854775807) 1 Tryz.underlying42 Kr De (fun m cs x _ hx=>by
  obtain⟨s,e,_,z⟩:=DataW.trod_string bW hx
  exact⟨s,e,by unfold maxLen at z;omega⟩) h
 refine⟨p,n,c,ls,rfl,h1,h2,h3,?_,fun r hr=>?_⟩;(·rcases h4 with h4|⟨b,vK,rfl,hb,hr⟩;(·exact .inl h4);(·refine .inr ⟨b,vK,rfl,hb,fun j hj=>?_⟩;obtain⟨cs,hc,rfl,-⟩:=hr j hj;have:=hc 0 _ rfl;rw[Nat.mul_one,Nat.add_zero]at this;exact this));(·obtain⟨cs,-,h⟩:=h5 r hr;exact h)
theorem ty_more {w:World} {t:T} {v:TV} {d:Nat} (h:TyAt w d t v):∀k,TyAt w (d+k) t v
 |0=>h
 |k+1=>(ty_more h k).up
instance:Inhabited T:=⟨.mk 0 ⟨#[]⟩ [] [] false⟩
instance:Inhabited TV:=⟨⟨none,0,0,none,0,0⟩⟩
theorem row_pairs {α β:Type} {cells:β→α→List Value} {at_:α→β→Prop} {ls:List (α×β)}
 (h:ls.length=0∨∃b vK,p=some ⟨b,vK,none⟩∧b<W.heap.size∧∀j (hj:j<ls.length),∃cs,W.rangeAt b (vK+j*k) cs∧(cs=cells ls[j].2 ls[j].1∧at_ ls[j].1 ls[j].2)):
 (ls.map (·.1)).length=0∨∃c co,p=some ⟨c,co,none⟩∧c<W.heap.size∧∀j (h:j<(ls.map (·.1)).length),∃v,W.rangeAt c (co+j*k) (cells v (ls.map (·.1))[j])∧at_ (ls.map (·.1))[j] v:=by rcases h with h|⟨b,vK,rfl,hb,hr⟩;(·exact .inl (by rw[aI];exact h));(·refine .inr ⟨b,vK,rfl,hb,fun j hj=>?_⟩;rw[aI]at hj;obtain⟨cs,h1,rfl,h2⟩:=hr j hj;exact⟨ls[j].2,by rw[cH];exact h1,by rw[cH];exact h2⟩)
theorem open_ty {H:Type} {enc:TypeId×Value→H}:∀{uI:Nat} {cs:List Value} {x:DataW H×List MemPlace},bU enc U W 0 (fun _=>true) true uI 45 cs=some x→
 ∃z:T×TV,cs=TV.cells z.2 z.1∧TyAt W uI z.1 z.2:=by
 intro uI
 induction uI using Nat.strongRecOn with
  |ind uI IH=>
   intro cs x h
   obtain⟨ys,n',AP,hy,kN,Dp,hf⟩:=DataW.trod_struct Tryz.underlying45 h
   have h5:cs.length=5:=kN.trans Kr
   match cs,h5 with
   |[v0,v1,v2,v3,v4],_=>
    have cr:ys.length=5:=Dp
    match ys,cr with
    |[y0,y1,y2,y3,y4],_=>
     have g0:bU enc U W 0 (fun _=>true) true n' 3 [v0]=some y0:=hf 0 _ rfl
     have g1:bU enc U W 0 (fun _=>true) true n' 9 [v1]=some y1:=hf 1 _ rfl
     have g2:bU enc U W 0 (fun _=>true) true n' 42 [v2]=some y2:=hf 2 _ rfl
     have g3:bU enc U W 0 (fun _=>true) true n' 43 [v3]=some y3:=hf 3 _ rfl
     have g4:bU enc U W 0 (fun _=>true) true n' 4 [v4]=some y4:=hf 4 _ rfl
     obtain⟨s0,e0,_,z0⟩:=DataW.trod_int bG g0
     obtain⟨s1,e1,_,z1⟩:=DataW.trod_string bW g1
     obtain⟨s4,e4,_⟩:=DataW.trod_bool bQ g4
     obtain⟨p2,n2,c2,l2,rfl,a1,a2,a3,a4,a5⟩:=open_texts g2
     obtain⟨p3,n3,c3,l3,rfl,b1,b2,b3,b4,b5⟩:=open_els (α:=T×TV) (fun z cs=>cs=TV.cells z.2 z.1∧TyAt W n' z.1 z.2) 5 Tryz.underlying43 Kr De (fun m cs x hm hx=>by
      obtain⟨z,hz,ht⟩:=IH m Om hx
      refine⟨z,hz,?_⟩
      have:=ty_more ht (n'-m)
      rwa[show m+(n'-m)=n' by omega]at this) g3
     simp only[cD,and_true]at e0 e1 e4
     subst e0 e1 e4
     refine⟨(.mk s0 s1 l2 (l3.map (·.1)) s4,⟨p2,n2,c2,p3,n3,c3⟩),rfl,?_⟩
     rw[AP]
     refine⟨⟨a3,(aI ..).trans b3,?_,?_,by show s1.size≤_;unfold maxLen at z1;omega,a5,in64_of_wf z0,a4,a1,b1,a2,b2⟩,?_⟩
     ·show n2≤_;omega
     ·show n3≤_;omega
     ·exact row_pairs (cells:=TV.cells) (at_:=fun t v=>TyAt W n' t v) b4
instance:Inhabited Ord:=⟨⟨0,[],[],0,⟨#[]⟩,default⟩⟩
instance:Inhabited OV:=⟨⟨none,0,0,none,0,0,default⟩⟩
instance:Inhabited oJ:=⟨⟨⟨#[]⟩,false,default,0,[]⟩⟩
instance:Inhabited BV:=⟨⟨default,none,0,0⟩⟩
instance:Inhabited Af:=⟨⟨⟨#[]⟩,false,default,0⟩⟩
instance:Inhabited yh:=⟨⟨⟨#[]⟩,default,false⟩⟩
theorem open_ord {H:Type} {enc:TypeId×Value→H} {uI:Nat} {cs:List Value} {x:DataW H×List MemPlace} (h:bU enc U W 0 (fun _=>true) true uI 71 cs=some x):
 ∃z:Ord×OV,cs=oA z.2 z.1∧OrdAt W z.1 z.2:=by
 obtain⟨ys,n',AP,hy,kN,Dp,hf⟩:=DataW.trod_struct Tryz.underlying71 h;have h10:cs.length=10:=kN.trans Kr
 match cs,h10 with
  |[v0,v1,v2,v3,v4,v5,v6,v7,v8,v9],_=>
   have cr:ys.length=6:=Dp
   match ys,cr with
   |[y0,y1,y2,y3,y4,y5],_=>
    have g0:bU enc U W 0 (fun _=>true) true n' 3 [v0]=some y0:=hf 0 _ rfl
    have g1:bU enc U W 0 (fun _=>true) true n' 69 [v1]=some y1:=hf 1 _ rfl
    have g2:bU enc U W 0 (fun _=>true) true n' 69 [v2]=some y2:=hf 2 _ rfl
    have g3:bU enc U W 0 (fun _=>true) true n' 3 [v3]=some y3:=hf 3 _ rfl
    have g4:bU enc U W 0 (fun _=>true) true n' 9 [v4]=some y4:=hf 4 _ rfl
    have g5:bU enc U W 0 (fun _=>true) true n' 45 [v5,v6,v7,v8,v9]=some y5:=hf 5 _ rfl
    obtain⟨s0,e0,_,z0⟩:=DataW.trod_int bG g0
    obtain⟨p1,n1,c1,l1,rfl,a1,a2,a3,a4,a5⟩:=open_nums g1
    obtain⟨p2,n2,c2,l2,rfl,b1,b2,b3,b4,b5⟩:=open_nums g2
    obtain⟨s3,e3,_,z3⟩:=DataW.trod_int bG g3
    obtain⟨s4,e4,_,z4⟩:=DataW.trod_string bW g4
    obtain⟨⟨t5,w5⟩,e5,z5⟩:=open_ty g5
    simp only[TV.cells,cD,and_true]at e0 e3 e4 e5
    obtain⟨e50,e51,e52,e53,e54⟩:=e5
    subst e0 e3 e4 e50 e51 e52 e53 e54
    exact⟨(⟨s0,l1,l2,s3,s4,t5⟩,⟨p1,n1,c1,p2,n2,c2,w5⟩),rfl,⟨a3,b3,a1,b1,a2,b2,a4,b4,a5,b5,in64_of_wf z0,in64_of_wf z3,by show s4.size≤_;unfold maxLen at z4;omega,_,z5⟩⟩
theorem open_bod {H:Type} {enc:TypeId×Value→H} {uI:Nat} {cs:List Value} {x:DataW H×List MemPlace} (h:bU enc U W 0 (fun _=>true) true uI 48 cs=some x):
 ∃z:oJ×BV,cs=uK z.2 z.1∧BodAt W z.1 z.2:=by
 obtain⟨ys,n',AP,hy,kN,Dp,hf⟩:=DataW.trod_struct Tryz.underlying48 h;have h9:cs.length=9:=kN.trans Kr
 match cs,h9 with
  |[v0,v1,v2,v3,v4,v5,v6,v7,v8],_=>
   have cr:ys.length=5:=Dp
   match ys,cr with
   |[y0,y1,y2,y3,y4],_=>
    have g0:bU enc U W 0 (fun _=>true) true n' 9 [v0]=some y0:=hf 0 _ rfl
    have g1:bU enc U W 0 (fun _=>true) true n' 4 [v1]=some y1:=hf 1 _ rfl
    have g2:bU enc U W 0 (fun _=>true) true n' 45 [v2,v3,v4,v5,v6]=some y2:=hf 2 _ rfl
    have g3:bU enc U W 0 (fun _=>true) true n' 3 [v7]=some y3:=hf 3 _ rfl
    have g4:bU enc U W 0 (fun _=>true) true n' 46 [v8]=some y4:=hf 4 _ rfl
    obtain⟨s0,e0,_,z0⟩:=DataW.trod_string bW g0
    obtain⟨s1,e1,_⟩:=DataW.trod_bool bQ g1
    obtain⟨⟨t2,w2⟩,e2,z2⟩:=open_ty g2
    obtain⟨s3,e3,_,z3⟩:=DataW.trod_int bG g3
    obtain⟨p4,n4,c4,l4,rfl,b1,b2,b3,b4,b5⟩:=open_els (α:=Ord×OV) (fun z cs=>cs=oA z.2 z.1∧OrdAt W z.1 z.2) 10 Tryz.underlying46 Kr De (fun m cs x hm hx=>open_ord hx) g4
    simp only[TV.cells,cD,and_true]at e0 e1 e2 e3
    obtain⟨e20,e21,e22,e23,e24⟩:=e2
    subst e0 e1 e3 e20 e21 e22 e23 e24
    exact⟨(⟨s0,s1,t2,s3,l4.map fun z:Ord×OV=>z.1⟩,⟨w2,p4,n4,c4⟩),rfl,⟨(aI ..).trans b3,b1,b2,row_pairs (cells:=oA) (at_:=OrdAt W) b4,in64_of_wf z3,by show s0.size≤_;unfold maxLen at z0;omega,_,z2⟩⟩
theorem open_glo {H:Type} {enc:TypeId×Value→H} {uI:Nat} {cs:List Value} {x:DataW H×List MemPlace} (h:bU enc U W 0 (fun _=>true) true uI 50 cs=some x):
 ∃z:Af×TV,cs=uH z.2 z.1∧GloAt W z.1 z.2:=by
 obtain⟨ys,n',AP,hy,kN,Dp,hf⟩:=DataW.trod_struct Tryz.underlying50 h;have h8:cs.length=8:=kN.trans Kr
 match cs,h8 with
  |[v0,v1,v2,v3,v4,v5,v6,v7],_=>
   have cr:ys.length=4:=Dp
   match ys,cr with
   |[y0,y1,y2,y3],_=>
    have g0:bU enc U W 0 (fun _=>true) true n' 9 [v0]=some y0:=hf 0 _ rfl
    have g1:bU enc U W 0 (fun _=>true) true n' 4 [v1]=some y1:=hf 1 _ rfl
    have g2:bU enc U W 0 (fun _=>true) true n' 45 [v2,v3,v4,v5,v6]=some y2:=hf 2 _ rfl
    have g3:bU enc U W 0 (fun _=>true) true n' 2 [v7]=some y3:=hf 3 _ rfl
    obtain⟨s0,e0,_,z0⟩:=DataW.trod_string bW g0
    obtain⟨s1,e1,_⟩:=DataW.trod_bool bQ g1
    obtain⟨⟨t2,w2⟩,e2,z2⟩:=open_ty g2
    obtain⟨s3,e3,_,z3⟩:=DataW.trod_int Tryz.underlying2 g3
    simp only[TV.cells,cD,and_true]at e0 e1 e2 e3
    obtain⟨e20,e21,e22,e23,e24⟩:=e2
    subst e0 e1 e3 e20 e21 e22 e23 e24
    exact⟨(⟨s0,s1,t2,s3⟩,w2),rfl,⟨by show s0.size≤_;unfold maxLen at z0;omega,in64_of_wf z3,_,z2⟩⟩
theorem open_ous {H:Type} {enc:TypeId×Value→H} {uI:Nat} {cs:List Value} {x:DataW H×List MemPlace} (h:bU enc U W 0 (fun _=>true) true uI 56 cs=some x):
 ∃z:yh×TV,cs=tT z.2 z.1∧OusAt W z.1 z.2:=by
 obtain⟨ys,n',AP,hy,kN,Dp,hf⟩:=DataW.trod_struct Tryz.underlying56 h;have h7:cs.length=7:=kN.trans Kr
 match cs,h7 with
  |[v0,v1,v2,v3,v4,v5,v6],_=>
   have cr:ys.length=3:=Dp
   match ys,cr with
   |[y0,y1,y2],_=>
    have g0:bU enc U W 0 (fun _=>true) true n' 9 [v0]=some y0:=hf 0 _ rfl
    have g1:bU enc U W 0 (fun _=>true) true n' 45 [v1,v2,v3,v4,v5]=some y1:=hf 1 _ rfl
    have g2:bU enc U W 0 (fun _=>true) true n' 4 [v6]=some y2:=hf 2 _ rfl
    obtain⟨s0,e0,_,z0⟩:=DataW.trod_string bW g0
    obtain⟨⟨t2,w2⟩,e2,z2⟩:=open_ty g1
    obtain⟨s3,e3,_⟩:=DataW.trod_bool bQ g2
    simp only[TV.cells,cD,and_true]at e0 e2 e3
    obtain⟨e20,e21,e22,e23,e24⟩:=e2
    subst e0 e3 e20 e21 e22 e23 e24
    exact⟨(⟨s0,t2,s3⟩,w2),rfl,⟨by show s0.size≤_;unfold maxLen at z0;omega,_,z2⟩⟩
theorem open_made {H:Type} {enc:TypeId×Value→H} {b0:Nat} {x:DataW H} {p:List MemPlace} (hv:Value.okWide U W .any b0 26 v) (h:DataW.Trod enc U W 0 (fun _=>true) true 26 v x p):
 ∃(m:Mad) (mv:MV),v=lR mv∧MadAt W m mv:=by
 obtain⟨v0,v1,v2,y0,y1,y2,n,rfl,rfl,rfl,h0,h1,h2⟩:=open_agg3 Tryz.underlying26 Kr Kr hv h;obtain⟨p0,n0,c0,l0,rfl,a1,a2,a3,a4,a5⟩:=open_els (α:=oJ×BV) (fun z cs=>cs=uK z.2 z.1∧BodAt W z.1 z.2) 9 Tryz.underlying22 Kr De (fun m cs x hm hx=>open_bod hx) h0;obtain⟨p1,n1,c1,l1,rfl,b1,b2,b3,b4,b5⟩:=open_els (α:=Af×TV) (fun z cs=>cs=uH z.2 z.1∧GloAt W z.1 z.2) 8 Tryz.underlying23 Kr De (fun m cs x hm hx=>open_glo hx) h1;obtain⟨p2,n2,c2,l2,rfl,d1,d2,d3,d4,d5⟩:=open_els (α:=yh×TV) (fun z cs=>cs=tT z.2 z.1∧OusAt W z.1 z.2) 7 Tryz.underlying24 Kr De (fun m cs x hm hx=>open_ous hx) h2
 exact⟨⟨l0.map fun z:oJ×BV=>z.1,l1.map fun z:Af×TV=>z.1,l2.map fun z:yh×TV=>z.1⟩,⟨p0,n0,c0,p1,n1,c1,p2,n2,c2⟩,rfl,
  ⟨(aI ..).trans a3,(aI ..).trans b3,(aI ..).trans d3,by show n0≤_;omega,by show n1≤_;omega,by show n2≤_;omega,row_pairs (cells:=uK) (at_:=BodAt W) a4,row_pairs (cells:=uH) (at_:=GloAt W) b4,row_pairs (cells:=tT) (at_:=OusAt W) d4⟩⟩
theorem own:ownKnob U.godebug=none:=by kernel_rfl
theorem lifted (os:Os) (Sa:os.Started) (H:Type) (enc:TypeId×Value→H):
 ReturnsInHanded {} Tryz.checked os 3 .any (Rows.emitSaysSpec.pre6 enc U Tryz.f3 Rows.emitSaysRow.domain false) (Rows.emitSaysSpec.post enc U Tryz.f3 false true false false):=by
 refine returnsInHanded_of_change_shaped (C:=Tryz.checked) own Sa Kr Tryz.func3
  (ChangeSpec.witness6 (enc:=enc) (C:=Tryz.checked) false ⟨#[],#[.agg #[.slice none 0 0,.slice none 0 0,.slice none 0 0]],[]⟩ 8 Kr Kr Kr Kr) ?_
 intro W base args ds gs tJ hval0 hW hcnd _ hsh _;have Tg:∀(j:Nat) t v,Tryz.f3.params[j]? =some t→args[j]? =some v→Value.okWide U W .any base t v:=hval0;have hW':=hW;obtain⟨p,q,hA0,hV,rfl,vz,gZ⟩:=hW;have hA:DataW.TrodAll enc U W 0 (fun _=>true) true Tryz.f3.params.toList args.toList ds p:=hA0;obtain⟨rfl,rfl⟩:=trodVars_none hV;simp only[List.append_nil]at hW';have hA2:=hA;rw[Tryz.params3]at hA2 Tg;obtain⟨v0,vs0,d0,ds0,p0,q0,Ym,rfl,rfl,h0,r0⟩:=trodAll_cons hA2;obtain⟨rfl,rfl,rfl⟩:=trodAll_nil r0;(obtain rfl:args=#[v0]:=by cases args;simp_all);obtain⟨m,mv,rfl,hm⟩:=open_made (Tg 0 26 v0 rfl rfl) h0;obtain⟨mx,hmx⟩:=Go.Proofs.cell_of_shapedOpen_int (zero:=#[.int .i64 0]) (t:=3) (g:=0) hsh (of_decide_eq_true Kr) Kr rfl Kr Kr bG;refine(Ud m mv mx hm hmx (fA hmx)).mono fun e W' ⟨he,hg⟩=>?_;subst he
 exact⟨_,rfl,Sq Kr (by rw[Tryz.params3];decide+kernel) hW' hA (fun _ _ _=>(trodAll_cons_mk (shut_bool bQ _) trodAll_mk0)) rfl (fun _=>rfl)
  hg (ok_one Kr rfl (okWide_bool_mk bQ _))⟩
theorem over:Rows.emitSaysRow.holds Tryz.pinned (OpenSpec.ofChange Rows.emitSaysSpec):=
 OpenClaim.holds_of_wide 3 Tryz.f3 rfl rfl rfl rfl rfl rfl rfl ⟨rfl,rfl,rfl,rfl,rfl⟩ rfl rfl rfl rfl rfl Kr Tryz.func3 Kr
  (of_decide_eq_true Kr) (by unfold Func.isWrapper;first|(rw[if_pos (by decide+kernel)];kernel_rfl)|(rw[if_neg (by decide+kernel)];exact⟨rfl,rfl⟩))
  (fun os Sa H enc _=>lifted os Sa H enc)
theorem proved:Rows.EmitSaysSaid:=
 over
end Go.Proofs.YtfbmaffacikgbaaGreat.lawSays
