/- A part of the proof of EmitSays. -/
import Derived.Test.YtfbmaffacikgbaaGreatA2
import Derived.Test.YtfbmaffacikgbaaGreatA3
set_option maxRecDepth 100000
set_option maxHeartbeats 4000000
set_option linter.unusedVariables false
set_option linter.unusedSimpArgs false
open Go renaming Calls→O
open Go.Proofs.Tryz renaming prog→U
open Nat renaming le_refl→aA,lt_of_lt_of_le→aF,le_trans→aG,zero_le→aJ
open List renaming getElem?_eq_getElem→aB,length_append→aD,getElem_mem→aE,length_map→aI,mem_singleton→aK,take_succ_eq_append_getElem→aL,length_cons→aM,length_take→aO,mem_cons_of_mem→aP,getElem_of_mem→aQ,map_append→aS,length_nil→aT,mem_cons_self→aU,take_of_length_le→aY,not_mem_nil→aZ,map_cons→bC,getElem?_append_right→bD,mem_cons→bF,getElem?_map→bH,nil_append→bJ,append_assoc→bP,set_cons_succ→bS,setIfInBounds_toArray→bX,mem_singleton_self→bY,set_cons_zero→bZ,foldl_cons→cA,replicate→cC,getElem_map→cH,flatMap_cons→cL,map_nil→cM,length_set→cQ
open Go.RowKit.Below renaming refl→aC,heap_setCell→bV
open Go.World renaming alloc_heap_new→aH,ownsRow_nil→bE,frozen?→bN,cell?_alloc_lt→bO,cell?_of_block→bT,setCell→cN
open Go.Lib renaming alloc_old→aR,byteCells→bK
open Go.Value renaming slice→aW,int→bL,string→cE
open Go.IntWalk renaming i64_in→aX
open Go.Proofs.Tryz renaming underlying3→bG,underlying9→bW
open And renaming intro→bM
open Go.Value renaming int→cS
open Go.Value renaming slice→cT
open Go.Value renaming string→cU
open Go.Value renaming bool→cV
open Go.Value renaming pointer→cW
open Go.Value renaming agg→cX
open Go.Obj renaming cells→cY
open Go.Ending renaming returned→cZ
open Go.IntKind renaming i64→dA
namespace Go.Proofs.YtfbmaffacikgbaaGreat
variable {w W w' w1 wr w2 wx:World} {B r k i base size d bp k' co pg b:Nat} {v v1 v0 v2 v3 v4 v5 v6 vc vr vp v':Value} {e:TypeId} {chg:List TypeId} {xs vs:List Value} {l:List Int} {a:Act} {p pc pr ps:Option Addr} {cs:Array Value} {s:ByteArray} {x:Int}
section
open Go.RowKit Go.Shelf Ob Ty
theorem WZ:tL U 99 94 1:=kP (z:=.slice none 0 0) (bytes:=24) Tryz.underlying99 Kr De De De
theorem XA:tL U 100 4 1:=kP (z:=.bool false) (bytes:=1) Tryz.underlying100 Kr De De De
theorem elInt:tL U 69 3 1:=kP (z:=.int .i64 0) (bytes:=8) Tryz.underlying69 Kr De De De
structure PsAt (w:World) (base:Nat) (l:List (List Lc×Bool)) (vp vc:Value) (ps:List Value):Prop where
 params:w.ownsRow base 94 1 vp l.length ps
 each:∀i (h:i<l.length),∃pv,ps[i]? =some pv∧w.ownsRow base 149 2 pv l[i].1.length (fC l[i].1)
 copied:w.ownsRow base 4 1 vc l.length (l.map fun x=>cV x.2)
theorem PsAt.keep {l:List (List Lc×Bool)} {ps:List Value} (h:PsAt w base l vp vc ps) (f:EFr B chg w w') (h1:94∉chg) (h2:149∉chg) (h3:4∉chg):PsAt w' base l vp vc ps:=
 ⟨f.row h.params h1,fun i hi=>by obtain⟨pv,e,ho⟩:=h.each i hi;exact⟨pv,e,f.row ho h2⟩,f.row h.copied h3⟩
def Kg (n:Nat):List Value:=(List.range n).map fun i=>cS dA (i:Nat)
def nG (pl:Pl):Nat:=if pl.many≤2 then pl.many else 0
structure PlAt (w:World) (base:Nat) (pl:Pl) (vp vc vr:Value):Prop where
 ps:∃ps,PsAt w base pl.params vp vc ps
 res:w.ownsRow base 3 1 vr (nG pl) (Kg (nG pl))
def L7 (pl:Pl) (vp vc vr:Value):Value:=cX #[cS dA pl.result,cS dA pl.count,vp,vc,vr,cS dA (pl.area:Nat),cS dA (pl.extra:Nat)]
theorem E2 (bv:Nat) (w:World):O U 62 #[cV false,cW (some ⟨bv,0,none⟩)] w fun x w'=>x=cZ (cS dA (-1))∧w=w':=by exact V123
theorem mj (bv pg:Nat) (g:Nat×Nat) (b:Nat) (w:World) (hbv:w.heap[bv]? =some (cY #[cW (some ⟨pg,0,none⟩)] 156 (0,0))) (jE:w.heap[pg]? =some (jP g)) (hg:mO b g) (hb:b≤100000):
 O U 62 #[cV true,cW (some ⟨bv,0,none⟩)] w fun x w'=>x=cZ (cS dA ((gY g).1.2:Nat))∧w'.heap[pg]? =some (jP (gY g).2)∧w.grownBy w' (some pg):=by have hc:=Jt pg g b w jE hg Om;obtain⟨l,hl⟩:=Ex ((gY g).1);rw[←hl]at hc⊢;obtain⟨lb,ln⟩:=l;unfold sF at hc;simp only at hc⊢;have HC:=Ih hc;obtain⟨c0,f0⟩:=dE hbv;clear hc hl hbv jE;(have hfld:∀(a b:Value) (w:World),(Instr.field 149 (cX #[a,b]) 1).run U w=.ok b w:=fun _ _ _=>by kernel_rfl);go_in;go_wp2_with fail;refine HC.mono ?_;rintro y w2 ⟨rfl,eL,yG⟩;have gC:=Ih eL;have nX:=Ih yG;clear eL yG;go_wp2_with fail;go_ret;exact⟨rfl,gC,nX⟩
def An (q:Bool) (g:Nat×Nat):Int×(Nat×Nat):=if q then(((gY g).1.2:Nat),(gY g).2)else(-1,g)
theorem Ko (q:Bool) (bv pg:Nat) (g:Nat×Nat) (b:Nat) (w:World) (hbv:w.heap[bv]? =some (cY #[cW (some ⟨pg,0,none⟩)] 156 (0,0))) (jE:w.heap[pg]? =some (jP g)) (hg:mO b g) (hb:b≤100000):
 O U 62 #[cV q,cW (some ⟨bv,0,none⟩)] w fun x w'=>x=cZ (cS dA (An q g).1)∧w'.heap[pg]? =some (jP (An q g).2)∧w.grownBy w' (some pg):=by cases q;(·refine(E2 bv w).mono ?_;rintro x w' ⟨rfl,rfl⟩;exact⟨rfl,jE,World.grownBy.refl w _⟩);(·exact mj bv pg g b w hbv jE hg hb)
theorem s7 (t:T):mS t=An (decide (2<mH t)) (0,0):=by unfold mS An;by_cases h:2<mH t;(·rw[if_pos h,decide_eq_true h];rfl);(·rw[if_neg h,decide_eq_false h];rfl)
theorem Cm (t:T):(mS t).2=(0,0)∨(mS t).2=(1,0):=by unfold mS;split<;>simp
theorem Ga (t:T):iZ t=An t.many (mS t).2:=by unfold iZ An;rcases Cm t with h|h<;>rw[h]<;>cases t.many<;>rfl
theorem S6 (t:T):mO 0 (mS t).2:=by rcases Cm t with h|h<;>rw[h]<;>unfold mO<;>decide
theorem vH (t:T):mO 0 (iZ t).2:=by rw[Ga];unfold An;rcases Cm t with h|h<;>rw[h]<;>cases t.many<;>(unfold mO;decide)
theorem pV {Gw:Nat} {n:Nat} (h:w.ownsRow base e size v n xs) (hb:Gw≤base):w.ownsRow Gw e size v n xs:=
 ⟨h.1,h.2.imp id fun⟨g,gN,mU,h1,h2,h3⟩=>⟨g,gN,mU,h1,aG hb h2,h3⟩⟩
def Wz (cs:Array Value):Obj:=cY cs 102 (0,0)
def SI:Array Value:=#[cS dA 0,cS dA 0,cT none 0 0,cT none 0 0,cT none 0 0,cS dA 0,cS dA 0]
structure PlMid (w wr:World) (pg bp:Nat) (tc:Array Value) (g:Nat×Nat) (cs:Array Value):Prop where
 bel:dG w wr
 gv:wr.heap[pg]? =some (jP g)
 var:wr.heap[pg+1]? =some (cY #[cW (some ⟨pg,0,none⟩)] 156 (0,0))
 tbox:wr.heap[w.heap.size]? =some (cY tc 45 (0,0))
 rbox:wr.heap[w.heap.size+1]? =some (Wz SI)
 pbox:wr.heap[bp]? =some (Wz cs)
 o1:w.heap.size+1<pg
 o2:pg+1<bp
theorem PlMid.gvc {tc:Array Value} {g g':Nat×Nat} (h:PlMid w wr pg bp tc g cs) (hg:wr.grownBy w' (some pg)) (hb:w'.heap[pg]? =some (jP g')):PlMid w w' pg bp tc g' cs:=by have h1:=h.o1;have h2:=h.o2;have k:∀b o,wr.heap[b]? =some o→b≠pg→w'.heap[b]? =some o:=fun b o e fM=>(hg.block b (dB e) (by simpa using fM)).trans e;exact⟨h.bel.grown hg h.bel.size (fun b e=>by injection e with e;omega),hb,k _ _ h.var Om,k _ _ h.tbox Om,k _ _ h.rbox Om,k _ _ h.pbox Om,h1,h2⟩
theorem PlMid.app {tc:Array Value} {g:Nat×Nat} (h:PlMid w wr pg bp tc g cs) {n:Nat} (ho:wr.ownsRow w.heap.size e size v n xs) (he:e∉[158,156,45,102]) (hg:wr.grownBy w' v.ownBlock):PlMid w w' pg bp tc g cs:=by simp only[bF,aZ,or_false,not_or]at he;obtain⟨e1,e2,e3,e4⟩:=he;have k:∀(b:Nat) (cs:Array Value) (t:TypeId),wr.heap[b]? =some (Obj.cells cs t (0,0))→e≠t→w'.heap[b]? =some (Obj.cells cs t (0,0)):=fun b cs t hb fM=>(hg.block b (dB hb) (kA ho hb fM)).trans hb;exact⟨h.bel.grown hg h.bel.size (fun b e=>(ho.lt b e).1),k _ _ _ h.gv e1,k _ _ _ h.var e2,k _ _ _ h.tbox e3,k _ _ _ h.rbox e4,k _ _ _ h.pbox e4,h.o1,h.o2⟩
theorem PlMid.setp {tc:Array Value} {g:Nat×Nat} (h:PlMid w wr pg bp tc g cs) (i:Nat) (v:Value):PlMid w (wr.setCell ⟨bp,i,none⟩ v) pg bp tc g (cs.setIfInBounds i v):=by have h1:=h.o1;have h2:=h.o2;have k:∀b o,wr.heap[b]? =some o→b≠bp→(wr.setCell ⟨bp,i,none⟩ v).heap[b]? =some o:=fun b o e fM=>(bV _ _ _ _ fM).trans e;have hl:=dB h.tbox;exact⟨h.bel.setCell (p:=⟨bp,i,none⟩) Sv _,k _ _ h.gv Om,k _ _ h.var Om,k _ _ h.tbox Om,k _ _ h.rbox Om,eF h.pbox i v,h1,h2⟩
theorem PlMid.step {tc:Array Value} {g:Nat×Nat} (h:PlMid w wr pg bp tc g cs) (hb:dG wr w'):PlMid w w' pg bp tc g cs:=by have k:∀b o,wr.heap[b]? =some o→w'.heap[b]? =some o:=fun b o e=>(hb.block b (dB e)).trans e;exact⟨Tm h.bel hb,k _ _ h.gv,k _ _ h.var,k _ _ h.tbox,k _ _ h.rbox,k _ _ h.pbox,h.o1,h.o2⟩
theorem PlMid.drew {tc:Array Value} {g:Nat×Nat} (h:PlMid w wr pg bp tc g cs):PlMid w wr.drew pg bp tc g cs:=h.step (dD wr)
theorem rS {t:TypeId} (h:w.heap[b]? =some (cY #[v0,v1,v2,v3,v4,v5,v6] t (0,0))):
 w.cell? ⟨b,0,none⟩=some v0∧w.cell? ⟨b,1,none⟩=some v1∧w.cell? ⟨b,2,none⟩=some v2∧w.cell? ⟨b,3,none⟩=some v3∧w.cell? ⟨b,4,none⟩=some v4∧w.cell? ⟨b,5,none⟩=some v5∧w.cell? ⟨b,6,none⟩=some v6∧∀o,w.frozen? ⟨b,o,none⟩=false:=
 ⟨cell_of_row w b 0 _ _ _ h,cell_of_row w b 1 _ _ _ h,cell_of_row w b 2 _ _ _ h,cell_of_row w b 3 _ _ _ h,cell_of_row w b 4 _ _ _ h,cell_of_row w b 5 _ _ _ h,cell_of_row w b 6 _ _ _ h,fun o=>by simp[bN,h]⟩
theorem PsAt.snoc {w9 Vu Ci wf:World} {c1 c2 c3:List TypeId} {l:List (List Lc×Bool)} {vp' ZU lv:Value} {ps:List Value} {locs:List Lc} {cp:Bool} (h:PsAt w9 base l vp vc ps) (tO:w9.ownsRow base 149 2 lv locs.length (fC locs))
 (f1:EFr B c1 w9 Vu) (h1:149∉c1) (hp:Vu.ownsRow base 94 1 vp' (l.length+1) (ps++[lv]))
 (f2:EFr B c2 Vu Ci) (h2:149∉c2∧94∉c2) (Bw:Ci.ownsRow base 4 1 ZU (l.length+1) ((l.map fun x=>cV x.2)++[cV cp]))
 (f3:EFr B c3 Ci wf) (h3:149∉c3∧94∉c3∧4∉c3):PsAt wf base (l++[(locs,cp)]) vp' ZU (ps++[lv]):=by(have kN:ps.length=l.length:=by have:=h.params.1;omega);refine⟨?_,fun i hi=>?_,?_⟩;(·rw[aD];exact f3.row (f2.row hp h2.2) h3.2.1);(·by_cases hl:i<l.length;(·obtain⟨pv,e,ho⟩:=h.each i hl;rw[List.getElem_append_left hl,List.getElem?_append_left Om];exact⟨pv,e,f3.row (f2.row (f1.row ho h1) h2.1) h3.1⟩);(·rw[aD,List.length_singleton]at hi;obtain rfl:i=l.length:=Om;rw[bD Om,kN];refine⟨lv,by simp,?_⟩;simp only[List.getElem_append_right (aA _),Nat.sub_self,List.getElem_cons_zero];exact f3.row (f2.row (f1.row tO h1) h2.1) h3.1));(·rw[aD,aS];exact f3.row Bw h3.2.2)
theorem F1 (g:Nat×Nat) (l:List T):∀s:List (List Lc×Bool)×(Nat×Nat),(l.foldl nK s).1.length=s.1.length+l.length:=by
 induction l with
  |nil=>intro s;rfl
  |cons p l ih=>
   intro s
   rw[cA,ih]
   simp[nK]
   omega
theorem C6 {t:T} (h:k<(dT t).length) (h2:k<t.parts.length):(dT t)[k]=t.parts[k]:=List.getElem_take
theorem jw (n:Nat):Kg (n+1)=Kg n++[cS dA (n:Nat)]:=by unfold Kg;rw[List.range_succ,aS];rfl
def Lv (w:World) (b:Nat) (v0 v1 v2 v3 v4 v5 v6:Value):World:=(((((((w.setCell ⟨b,0,none⟩ v0).setCell ⟨b,1,none⟩ v1).setCell ⟨b,2,none⟩ v2).setCell ⟨b,3,none⟩ v3).setCell ⟨b,4,none⟩ v4).setCell ⟨b,5,none⟩ v5).setCell ⟨b,6,none⟩ v6)
theorem set7 {t:TypeId} {u0 u1 u2 u3 u4 u5 u6:Value} (h:w.heap[b]? =some (cY #[u0,u1,u2,u3,u4,u5,u6] t (0,0))) (v0 v1 v2 v3 v4 v5 v6:Value):
 (Lv w b v0 v1 v2 v3 v4 v5 v6).heap[b]? =some (cY #[v0,v1,v2,v3,v4,v5,v6] t (0,0))∧∀B (chg:List TypeId),B≤b→t∈chg→EFr B chg w (Lv w b v0 v1 v2 v3 v4 v5 v6):=by unfold Lv;have Z2l:=0;exact V39
theorem vG (t:T) (v:TV) (e:Nat) (m:Int) (w:World) (ht:TyAt w e t v) (hm:Mx m w) (hf:mL t=true):
 O U 30 #[fN v t,cT none 0 0] w fun x w'=>∃vp vc vr,x=cZ (.tuple #[L7 (dC t) vp vc vr,cS dA 0])∧PlAt w' w.heap.size (dC t) vp vc vr∧dG w w':=by obtain⟨hp1,hp7⟩:=fY hf;(have Tq:t.kind=4:=by unfold mL at hf;simp at hf;exact hf.1);(have pJ:oM t=true:=by unfold mL at hf;simp at hf;exact hf.2);obtain⟨c,co,gP,hc,dO⟩:=ht.rows Om;have Nq:=ht.in.qb;have dc:=ht.in.pk;have lB:=Ih ht.in.pl;obtain⟨np,nU⟩:=Ex v.np;obtain⟨n,hn⟩:∃n,np=n+1:=⟨v.np-1,by have:=ht.in.pl;omega⟩;have Dv:=fun w' (hb:dG w w')=>vL t v e m w' (ht.below hb) (hm.below hb);rw[pJ]at Dv;unfold fN at Dv⊢;rw[←nU]at lB dc Dv⊢;rw[gP]at Dv⊢;rw[Tq]at Dv⊢;have ZK:=Ih Dv;have lH:=Ih dO;have HM:=Ih hm;have Z8w:=0;exact V177
end
section
namespace Ty
def rk (l:Lc):Nat:=if l.1 then 4+l.2 else l.2
def gr (g:Nat×Nat):Nat:=if g.1<4 then g.1 else 4+g.2
structure Inc (lo hi:Nat) (l:List Lc):Prop where
 le:lo≤hi
 pw:l.Pairwise fun a b=>rk a<rk b
 bd:∀x∈l,lo≤rk x∧rk x<hi
 rg:∀x∈l,x.1=false→x.2<4
theorem Inc.nil {lo hi:Nat} (h:lo≤hi):Inc lo hi []:=⟨h,.nil,fun x h=>(by cases h),fun x h=>(by cases h)⟩
theorem Inc.app {lo mid hi:Nat} {a b:List Lc} (h:Inc lo mid a) (g:Inc mid hi b):Inc lo hi (a++b):=by refine⟨aG h.le g.le,List.pairwise_append.2 ⟨h.pw,g.pw,fun x hx y hy=>?_⟩,fun x hx=>?_,fun x hx=>?_⟩;(·have h1:=(h.bd x hx).2;have h2:=(g.bd y hy).1;omega);(·have hl:=h.le;have gl:=g.le;rcases List.mem_append.1 hx with hx|hx;(·have:=h.bd x hx;omega);(·have:=g.bd x hx;omega));(·rcases List.mem_append.1 hx with hx|hx;(·exact h.rg x hx);(·exact g.rg x hx))
theorem Inc.wide {lo lo' hi mm:Nat} {a:List Lc} (h:Inc lo hi a) (h1:lo'≤lo) (h2:hi≤mm):Inc lo' mm a:=
 ⟨by have:=h.le;omega,h.pw,fun x hx=>by have:=h.bd x hx;omega,h.rg⟩
theorem Kw (g:Nat×Nat):Inc (gr g) (gr (gY g).2) [(gY g).1]:=by obtain⟨r,p⟩:=g;unfold gY;split;(·rename_i h;simp only at h;refine⟨?_,by simp,fun x hx=>?_,fun x hx _=>?_⟩;(·unfold gr;simp only;split<;>split<;>omega);(·rw[aK]at hx;subst hx;unfold gr rk;simp only[Bool.false_eq_true,if_false];rw[if_pos h];refine⟨aA _,?_⟩;split<;>omega);(·rw[aK]at hx;subst hx;exact h));(·rename_i h;simp only at h;refine⟨?_,by simp,fun x hx=>?_,fun x hx e=>?_⟩;(·unfold gr;simp only;rw[if_neg h,if_neg h];omega);(·rw[aK]at hx;subst hx;unfold gr rk;simp only[if_true];rw[if_neg h,if_neg h];omega);(·rw[aK]at hx;subst hx;cases e))
theorem Qx (g:Nat×Nat):gr g≤gr (mK g):=by obtain⟨r,p⟩:=g;unfold mK;split;(·rename_i h;simp only at h;unfold gr;simp only;rw[if_pos h];split<;>omega);(·rename_i h;simp only at h;unfold gr;simp only;rw[if_neg h,if_neg h];omega)
theorem LM (t:T) (g:Nat×Nat):gr g≤gr (Ny t g):=by unfold Ny;split;(·exact Qx g);(·exact aA _)
theorem BW (t:T) {g:Nat×Nat} (h:g.1≤4):(Ny t g).1≤4:=by have:=Ub (b:=g.2) t ⟨h,aA _⟩;exact this.1
theorem oe (t:T) {g:Nat×Nat} (h:g.1≤4):gr g≤gr (vS t g):=by have h1:=LM t g;have h2:=BW t h;unfold vS;split;(·refine aG h1 (aG ?_ (Qx _));unfold gr;show _≤(if(4:Nat)<4 then 4 else 4+(Ny t g).2);rw[if_neg (Nat.lt_irrefl 4)];split<;>omega);(·exact h1)
theorem Qv (g:Nat×Nat):∀n,Inc (gr g) (gr (kJ n g).2) (kJ n g).1
 |0=>Inc.nil (aA _)
 |n+1=>(Qv g n).app (Kw _)
theorem uE (g:Nat×Nat):∀n,(kJ n g).1.length=n
 |0=>rfl
 |n+1=>by
  show((kJ n g).1++[_]).length=_
  rw[aD,uE g n]
  rfl
theorem Yp (t:T) {g:Nat×Nat} (h:g.1≤4):Inc (gr g) (gr (iN t g).2) (iN t g).1.1:=by unfold iN;split;(·exact Kw g);(·exact(Qv _ _).wide (oe t h) (aA _))
theorem Yo (t:T) (g:Nat×Nat):(iN t g).1.2=decide (4<dQ t)∧(iN t g).1.1.length=if 4<dQ t then 1 else dQ t:=by unfold iN;split;(·rename_i h;exact⟨by simp[h],by simp⟩);(·rename_i h;exact⟨by simp[h],by simp[uE]⟩)
theorem oh (l:List T):∀(lo:Nat) (s:List (List Lc×Bool)×(Nat×Nat)),s.2.1≤4→Inc lo (gr s.2) (s.1.flatMap (·.1))→Inc lo (gr (l.foldl nK s).2) ((l.foldl nK s).1.flatMap (·.1)):=by
 induction l with
  |nil=>intro lo s _ h;exact h
  |cons p l ih=>
   intro lo s h4 h
   rw[cA]
   refine ih lo _ (Kv (b:=s.2.2) p ⟨h4,aA _⟩).1 ?_
   unfold nK
   simp only
   rw[List.flatMap_append]
   refine h.app ?_
   simpa using Yp p h4
theorem oo (l:List T):∀(s:List (List Lc×Bool)×(Nat×Nat)),∃r,(l.foldl nK s).1=s.1++r∧r.length=l.length∧∀i (h:i<r.length) (h2:i<l.length),r[i].2=decide (4<dQ l[i])∧r[i].1.length=if 4<dQ l[i]then 1 else dQ l[i]:=by
 induction l with
  |nil=>intro s;exact⟨[],by simp,rfl,fun i h=>by simp at h⟩
  |cons p l ih=>
   intro s
   obtain⟨r,h1,h2,h3⟩:=ih (nK s p)
   refine⟨(iN p s.2).1::r,by rw[cA,h1];unfold nK;simp,by simp[h2],fun i h hi=>?_⟩
   cases i with
   |zero=>exact Yo p s.2
   |succ i=>
    have:=h3 i (by simpa using h) (by simpa using hi)
    simpa using this
structure XK (t:T):Prop where
 len:(dC t).params.length=(dT t).length
 at_:∀i (h:i<(dC t).params.length) (h2:i<(dT t).length),(dC t).params[i].2=decide (4<dQ (dT t)[i])∧(dC t).params[i].1.length=if 4<dQ (dT t)[i]then 1 else dQ (dT t)[i]
 nd:((dC t).params.flatMap (·.1)).Nodup
 reg:∀l∈(dC t).params.flatMap (·.1),l.1=false→l.2<4
 sm:∀l∈(dC t).params.flatMap (·.1),l.2≤40
 ex:t.many=true→∀l∈(dC t).params.flatMap (·.1),l.1=true→l.2<(dC t).extra
theorem S7 {t:T} (h:mL t=true):XK t:=by obtain⟨h1,h7⟩:=fY h;(have hi:(dT t).length≤6:=by unfold dT;rw[aO];omega);have hg:=(Kx (dT t) (vH t)).2;have hc4:=(vH t).1;obtain⟨r,q1,q2,q3⟩:=oo (dT t) ([],(iZ t).2);have mi:=oh (dT t) (gr (iZ t).2) ([],(iZ t).2) hc4 (Inc.nil (aA _));(have hp:(dC t).params=r:=by show(oW (dT t) (iZ t).2).1=r;unfold oW;rw[q1,bJ]);(have VM:((dT t).foldl nK ([],(iZ t).2)).1=r:=by rw[q1,bJ]);rw[VM]at mi;have KP:((dT t).foldl nK ([],(iZ t).2)).2=(lP t).2:=rfl;rw[KP]at mi;(have pI:(lP t).2.2≤36:=by show(oW (dT t) (iZ t).2).2.2≤36;omega);refine⟨by rw[hp,q2],fun i h h2=>?_,?_,?_,?_,?_⟩;(·have:=q3 i (by rw[←hp];exact h) h2;simp only[hp];exact this);(·rw[hp,List.nodup_iff_pairwise_ne];(exact mi.pw.imp fun Yn e=>by rw[e]at Yn;exact Nat.lt_irrefl _ Yn));(·rw[hp];exact mi.rg);(·rw[hp];intro l hl;have hb:=(mi.bd l hl).2;by_cases hs:l.1=true;(·unfold rk gr at hb;rw[if_pos hs]at hb;split at hb<;>omega);(·have:=mi.rg l hl (by simpa using hs);omega));(·intro hm;rw[hp];intro l hl hs;have hb:=(mi.bd l hl).2;unfold rk gr at hb;rw[if_pos hs]at hb;(have he:(lP t).2.2≤(dC t).extra:=by unfold dC pQ;simp only;rw[if_pos hm,if_pos hm];omega);split at hb<;>omega)
end Ty
end
section
open Go.RowKit Go.Shelf Ob Ty
theorem ik (l:List T):∀st,(sizeL st l).2=(st.2||l.any fun p=>(eV p).2):=by
 induction l with
  |nil=>intro st;simp[sizeL]
  |cons p l ih=>intro st;rw[vC,ih];simp[SR,Bool.or_assoc]
theorem Wg {t:T} (h:t.kind=3):(eV t).2=t.parts.any fun p=>(eV p).2:=by rw[vB h];simp only;rw[ik];simp
def Zq (e:Nat):Prop:=∀(t:T) (v:TV) (w:World),TyAt w e t v→
 O U 119 #[fN v t] w fun x w'=>x=cZ (cV (eV t).2)∧dG w w'
theorem Tb (t:T) (v:TV) (w:World) (hk:t.kind≠3):O U 119 #[fN v t] w (RB w (cV (eV t).2)):=by obtain⟨r,hr⟩:=Ex ((eV t).2);rw[←hr];unfold fN;by_cases h2:t.kind=2;(·rw[nB h2]at hr;rw[h2];have HR:=Ih hr;clear hr h2 hk;exact V532);(·rw[lL h2 hk]at hr;obtain⟨kd,jT⟩:=Ex t.kind;rw[←jT]at h2 hk⊢;have HR:=Ih hr;have k2:(kd==2)=false:=beq_eq_false_iff_ne.2 h2;have k3:(kd==3)=false:=beq_eq_false_iff_ne.2 hk;clear hr h2 hk jT;exact V532)
theorem rr {f:T→Bool} {l:List T} (hk:k<l.length) (h:f l[k]=true):l.any f=true:=List.any_eq_true.2 ⟨_,aE hk,h⟩
theorem CY {f:T→Bool} {l:List T} (h:∀j (hj:j<l.length),f l[j]=false):l.any f=false:=List.any_eq_false.2 fun x hx=>by
 obtain⟨j,hj,rfl⟩:=aQ hx
 rw[h j hj]
 simp
theorem Nk (e:Nat) (ih:Zq e) (t:T) (v:TV) (w:World) (ht:TyAt w (e+1) t v) (hk:t.kind=3):O U 119 #[fN v t] w (RB w (cV (eV t).2)):=by obtain⟨r,hr⟩:=Ex ((eV t).2);rw[←hr];rw[Wg hk]at hr;unfold fN;have HR:=Ih hr;have HT:=Ih ht;have HI:=Ih ih;have lB:=Ih ht.in.pl;have mE:=ht.in.pb;obtain⟨mn,lY⟩:=Ex t.many;obtain⟨nm,fG⟩:=Ex t.name;rw[hk,←lY,←fG];clear hr ht ih hk lY fG;go_in;have hB1:dG w (w.alloc (cY #[cS dA 3,cU nm,cT v.pn v.nn v.kn,cT v.pp v.np v.kp,cV mn] 45)):=(aC _ _).alloc (aA _) _;have fT:=aH w (cY #[cS dA 3,cU nm,cT v.pn v.nn v.kn,cT v.pp v.np v.kp,cV mn] 45);have lK:=Ih hB1;have eH:=Ih fT;clear hB1 fT;go_wp2_with fail;obtain⟨pp,pH⟩:=Ex v.pp;rw[←pH]at eH⊢;have Gx:=Ih pH;clear pH;have h0:Below (w.heap.size+1) (w.alloc (cY #[cS dA 3,cU nm,cT v.pn v.nn v.kn,cT pp v.np v.kp,cV mn] 45)) (w.alloc (cY #[cS dA 3,cU nm,cT v.pn v.nn v.kn,cT pp v.np v.kp,cV mn] 45)):=aC _ _;go_loopg[3] v.np (fun gk v3 wr=>∃k:Nat,k≤v.np∧gk=v.np-k∧v3=cS dA k∧dG w wr∧wr.heap[w.heap.size]? =some (cY #[cS dA 3,cU nm,cT v.pn v.nn v.kn,cT pp v.np v.kp,cV mn] 45 (0,0))∧∀j (hj:j<t.parts.length),j<k→(eV t.parts[j]).2=false);(case atStart=>exact⟨0,aJ _,rfl,rfl,by rw[Gx.out];exact lK,eH,fun j hj h=>by omega⟩);(case round=>obtain⟨k,hk,hgk,rfl,hb,fT,eT⟩:=hrel;have HG:=Ih hgk;have HB:=Ih hb;have fP:=Ih eT;have HX:=Ih fT;have z0:=fV fT;clear hgk hb eT fT;by_cases dH:k<v.np;(·have ZcI:=0;exact V293);(·obtain rfl:k=v.np:=Om;have HF:Hid (r=false):=Ih (by rw[HR.out];exact CY fun j hj=>fP j hj (by rw[lB.out]at hj;exact hj));exact V7))
theorem Bh:∀e,Zq e
 |0=>fun t v w ht=>ht.elim
 |e+1=>fun t v w ht=>by
  by_cases h:t.kind=3
  ·exact Nk e (Bh e) t v w ht h
  ·exact Tb t v w h
end
section
open Go.RowKit
theorem LT (b:Nat) (w:World):O U 136 #[cW (some ⟨b,0,none⟩),cS .i32 65] w fun e w'=>e=cZ (cW (some ⟨b,1,none⟩))∧w=w':=by go_in;go_wp2;go_ret;exact⟨rfl,rfl⟩
theorem LS (b:Nat) (w:World):O U 136 #[cW (some ⟨b,0,none⟩),cS .i32 66] w fun e w'=>e=cZ (cW (some ⟨b,2,none⟩))∧w=w':=by go_in;go_wp2;go_ret;exact⟨rfl,rfl⟩
theorem LR (b:Nat) (w:World):O U 136 #[cW (some ⟨b,0,none⟩),cS .i32 67] w fun e w'=>e=cZ (cW (some ⟨b,3,none⟩))∧w=w':=by go_in;go_wp2;go_ret;exact⟨rfl,rfl⟩
theorem LQ (b:Nat) (w:World):O U 136 #[cW (some ⟨b,0,none⟩),cS .i32 73] w fun e w'=>e=cZ (cW (some ⟨b,4,none⟩))∧w=w':=by go_in;go_wp2;go_ret;exact⟨rfl,rfl⟩
theorem U4 (op a b c i:Int) (w:World) (h1:-9223372036854775808≤op) (h2:op≤9223372036854775807) (hf:Cp.find op=none):
 O U 129 #[cX #[cS dA op,cS dA a,cS dA b,cS dA c,cS dA i]] w (RB w (.tuple #[Cp.formV op,cS dA (Cp.mayE op a b c i)])):=by(have hv:Cp.formV op=cX #[cU ⟨#[]⟩,cU ⟨#[]⟩,cS dA 0,cS dA 0]:=by unfold Cp.formV;rw[hf]);(have hm:Cp.mayE op a b c i=2:=by unfold Cp.mayE;rw[hf]);(have ho:∀w,O U 135 #[cS dA op] w (RB w (.tuple #[cX #[cU ⟨#[]⟩,cU ⟨#[]⟩,cS dA 0,cS dA 0],cV false])):=by intro w;have:=T9 op w h1 h2;rw[hv,hf]at this;exact this);rw[hv,hm];have HO:=Ih ho;clear ho hv hm hf;have ZhH:=0;exact V439
def MayAt (B J:Nat) (cI cF:Array Value) (W wr:World) (k:Nat):Prop:=
 wr.heap[B]? =some (cY cI 76 (0,0))∧(∃r0 r1 r2 r3,wr.heap[B+1]? =some (cY #[r0,r1,r2,r3] 224 (0,0)))∧wr.heap[J]? =some (cY cF 224 (0,0))∧
 wr.heap[J+1]? =some (.stringIter ⟨#[65,66,67,73]⟩ k)∧Below B W wr
theorem MayAt.step {J:Nat} {cI cF:Array Value} (h:MayAt B J cI cF W wr k) (hJ:B+1<J) (k':Nat):
 MayAt B J cI cF W (wr.iterAt (J+1) ⟨#[65,66,67,73]⟩ k') k':=by obtain⟨h1,⟨r0,r1,r2,r3,h2⟩,h3,h4,h5⟩:=h;refine⟨?_,⟨r0,r1,r2,r3,?_⟩,?_,Lib.iterAt_heap _ _ _ _ _ h4,Lib.below_iterAt h5 Om _ _⟩;(·rw[Lib.iterAt_other _ _ _ _ _ Om];exact h1);(·rw[Lib.iterAt_other _ _ _ _ _ Om];exact h2);(·rw[Lib.iterAt_other _ _ _ _ _ Om];exact h3)
theorem MayAt.drewN {J:Nat} {cI cF:Array Value} (h:MayAt B J cI cF W wr k) (n:Nat):MayAt B J cI cF W (wr.drewN n) k:=
 ⟨h.1,h.2.1,h.2.2.1,h.2.2.2.1,below_drewN h.2.2.2.2 n⟩
theorem MayAt.drew {J:Nat} {cI cF:Array Value} (h:MayAt B J cI cF W wr k):MayAt B J cI cF W wr.drew k:=
 ⟨h.1,h.2.1,h.2.2.1,h.2.2.2.1,h.2.2.2.2.drew⟩
theorem LP (k:Nat) (hk:k<4) (b:Nat) (w:World):O U 136 #[cW (some ⟨b,0,none⟩),cS .i32 (Cp.nameAt k)] w fun e w'=>e=cZ (cW (some ⟨b,k+1,none⟩))∧w=w':=by have:k=0∨k=1∨k=2∨k=3:=Om;rcases this with rfl|rfl|rfl|rfl;(·exact LT b w);(·exact LS b w);(·exact LR b w);(·exact LQ b w)
theorem qj (k:Nat) (hk:k<4) (F:ByteArray) (t:Bool) (ht:F.data.toList.contains (Cp.nameAt k).toNat.toUInt8=t) (w:World):
 O U 137 #[cU F,cS .i32 (Cp.nameAt k)] w fun e w'=>e=cZ (cV t)∧w=w':=by(have h0:0≤Cp.nameAt k∧Cp.nameAt k<128:=by unfold Cp.nameAt;split<;>(try split)<;>(try split)<;>omega);refine(Tryz.strings_ContainsRune_ascii F (Cp.nameAt k) w h0.1 h0.2).mono ?_;rintro e w' ⟨rfl,rfl⟩;rw[←ht,Lib.contains_iff_indexByte];exact⟨rfl,rfl⟩
theorem SO (k:Nat) (hk:k<4) (wr:World) (J:Nat) (hJ:wr.heap[J]? =some (.stringIter ⟨#[65,66,67,73]⟩ k)):
 (Instr.next (cW (some ⟨J,0,none⟩)) true 0).run U wr=.ok (.tuple #[cV true,cS dA k,cS .i32 (Cp.nameAt k)]) (wr.iterAt J ⟨#[65,66,67,73]⟩ (k+1)):=by have:k=0∨k=1∨k=2∨k=3:=Om;rcases this with rfl|rfl|rfl|rfl<;>exact Lib.run_next_ascii_at wr J _ _ 0 hJ De De
theorem U2 (op a b c i:Int) (nm F:ByteArray) (lo hi er:Int) (w:World)
 (ho:∀w,O U 135 #[cS dA op] w (RB w (.tuple #[cX #[cU nm,cU F,cS dA lo,cS dA hi],cV true])))
 (her:(if Cp.okAll F.data.toList lo hi a b c i then 0 else 6)=er):
 O U 129 #[cX #[cS dA op,cS dA a,cS dA b,cS dA c,cS dA i]] w (RB w (.tuple #[cX #[cU nm,cU F,cS dA lo,cS dA hi],cS dA er])):=by have HO:=Ih ho;clear ho;have HE:=Ih her;clear her;have ZhI:=0;exact V439
theorem CQ (op a b c i:Int) (w:World) (h1:-9223372036854775808≤op) (h2:op≤9223372036854775807):
 O U 129 #[cX #[cS dA op,cS dA a,cS dA b,cS dA c,cS dA i]] w (RB w (.tuple #[Cp.formV op,cS dA (Cp.mayE op a b c i)])):=by rcases hf:Cp.find op with _|⟨n,f,s⟩;(·exact U4 op a b c i w h1 h2 hf);(·(have hv:Cp.formV op=cX #[cU ⟨n.toArray⟩,cU ⟨f.toArray⟩,cS dA (Cp.loOf s),cS dA (Cp.hiOf s)]:=by unfold Cp.formV;rw[hf];rfl);(have hm:Cp.mayE op a b c i=if Cp.okAll f (Cp.loOf s) (Cp.hiOf s) a b c i then 0 else 6:=by unfold Cp.mayE;rw[hf]);rw[hv];refine U2 op a b c i ⟨n.toArray⟩ ⟨f.toArray⟩ (Cp.loOf s) (Cp.hiOf s) _ w (fun w=>?_) (by rw[hm]);have:=T9 op w h1 h2;rw[hv,hf]at this;exact this)
theorem G7 (op a b c i:Int) (fv:Value) (w:World) (h:Cp.mayE op a b c i=0) (hfv:∃v0 v1 v2 v3,fv=cX #[cU v0,cU v1,cS dA v2,cS dA v3])
 (hm:∀w,O U 129 #[cX #[cS dA op,cS dA a,cS dA b,cS dA c,cS dA i]] w (RB w (.tuple #[fv,cS dA 0]))):
 O U 110 #[cX #[cS dA op,cS dA a,cS dA b,cS dA c,cS dA i]] w (RB w (.tuple #[cS .u32 (Cp.encN op a b c i),cS dA 0])):=by obtain⟨h1,h2,a1,a2,b1,b2,c1,c2,i1,i2,hz⟩:=Cp.ok_bounds op a b c i h;have he:=Cp.enc_eq op a b c i h1 h2 a1 a2 b1 b2 c1 c2 i1 i2 hz;have HE:=Ih he;clear he hz h;obtain⟨v0,v1,v2,v3,rfl⟩:=hfv;have HM:=Ih hm;clear hm;go_in;go_wp2_with fail;refine(HM _).mono ?_;rintro e w1 ⟨rfl,hb⟩;(have hs:w.heap.size<w1.heap.size:=by have:=hb.size;simp at this;omega);have hI:=(hb.block w.heap.size Si).trans (heap_alloc_new w _);have p0:=fV hI;have hB:dG w w1:=((aC _ _).alloc (aA _) _).trans (hb.mono Si);clear hb hI;go_wp2_with fail;go_ret2;clear p0;exact⟨by rw[←HE.out];rfl,hB.alloc hB.size _⟩
theorem ph (op a b c i er:Int) (fv:Value) (w:World) (h:er=2∨er=6) (hfv:∃v0 v1 v2 v3,fv=cX #[cU v0,cU v1,cS dA v2,cS dA v3])
 (hm:∀w,O U 129 #[cX #[cS dA op,cS dA a,cS dA b,cS dA c,cS dA i]] w (RB w (.tuple #[fv,cS dA er]))):
 O U 110 #[cX #[cS dA op,cS dA a,cS dA b,cS dA c,cS dA i]] w (RB w (.tuple #[cS .u32 0,cS dA er])):=by obtain⟨v0,v1,v2,v3,rfl⟩:=hfv;have HM:=Ih hm;clear hm;rcases h with rfl|rfl;(all_goals go_in;go_wp2_with fail;refine(HM _).mono ?_;rintro e w1 ⟨rfl,hb⟩;have hB:dG w w1:=((aC _ _).alloc (aA _) _).trans (hb.mono Si);clear hb;go_wp2_with fail;go_ret2;exact⟨rfl,hB.alloc hB.size _⟩)
theorem jn (op a b c i:Int):Cp.mayE op a b c i=0∨Cp.mayE op a b c i=2∨Cp.mayE op a b c i=6:=by unfold Cp.mayE;split;(·exact .inr (.inl rfl));(·split<;>simp)
theorem Lg (op:Int):∃v0 v1 v2 v3,Cp.formV op=cX #[cU v0,cU v1,cS dA v2,cS dA v3]:=by unfold Cp.formV;split<;>exact⟨_,_,_,_,rfl⟩
theorem pi (op a b c i:Int) (w:World) (h1:-9223372036854775808≤op) (h2:op≤9223372036854775807):
 O U 110 #[cX #[cS dA op,cS dA a,cS dA b,cS dA c,cS dA i]] w fun e w'=>
  e=cZ (.tuple #[cS .u32 (if Cp.mayE op a b c i=0 then Cp.encN op a b c i else 0),cS dA (Cp.mayE op a b c i)])∧dG w w':=by have hm:=fun w=>CQ op a b c i w h1 h2;rcases jn op a b c i with e|e;(·have h:=e;rw[e]at hm⊢;exact G7 op a b c i _ w h (Lg op) hm);(·have fM:¬Cp.mayE op a b c i=0:=Om;rw[if_neg fM];exact ph op a b c i _ _ w e (Lg op) hm)
end
section
open Go.RowKit Go.Shelf Ob
def uV:Ending:=.panicked [{v:=.iface 60 (cX #[]),recovered:=false}]
structure UE where
 B:Nat
 bu:Nat
 vd:Value
 vs:Value
 vm:Value
def Ja (l:List Int):List Value:=l.map fun x=>cS .u32 x
def oS (l:List uN):List Value:=l.flatMap mR
theorem o7 (l:List uN):(oS l).length=l.length*3:=by
 induction l with
  |nil=>rfl
  |cons x l ih=>unfold oS at ih⊢;rw[cL,aD,ih,aM];show 3+_=_;omega
structure UAt (w:World) (E:UE) (cs:List Int) (rs:List uN):Prop where
 box:∃vc vr,w.heap[E.bu]? =some (cY #[vc,E.vd,E.vs,vr,E.vm] 65 (0,0))∧w.ownsRow E.B 79 1 vc cs.length (Ja cs)∧w.ownsRow E.B 74 3 vr rs.length (oS rs)
 hb:E.B≤E.bu
 sz:E.B≤w.heap.size
def eU:List TypeId:=[65,79,74]
theorem UAt.old {E:UE} {cs:List Int} {rs:List uN} (h:UAt w E cs rs) (hb:dG w w'):UAt w' E cs rs:=by obtain⟨vc,vr,h1,h2,h3⟩:=h.box;exact⟨⟨vc,vr,Kb hb h1,dR h2 fun g cs e=>hb.block g (dB e),dR h3 fun g cs e=>hb.block g (dB e)⟩,h.hb,aG h.sz hb.size⟩
theorem UAt.fr {E:UE} {cs:List Int} {rs:List uN} (h:UAt w E cs rs) (f:EFr E.B chg w w') (h1:65∉chg) (h2:79∉chg) (h3:74∉chg):UAt w' E cs rs:=by obtain⟨vc,vr,e1,e2,e3⟩:=h.box;exact⟨⟨vc,vr,f.obj e1 h1,f.row e2 h2,f.row e3 h3⟩,h.hb,aG h.sz f.size⟩
theorem elU32:tL U 29 79 1:=kP (z:=.int .u32 0) (bytes:=4) Tryz.underlying29 Kr De De De
theorem elRel:tL U 32 74 3:=kP (z:=.agg #[.int .i64 0,.int .i64 0,.int .i64 0]) (bytes:=24) Tryz.underlying32 Kr De De De
theorem zj (l:List Int) (x:Int):Ja (l++[x])=Ja l++[cS .u32 x]:=by unfold Ja;rw[aS];rfl
theorem iq (l:List uN) (x:uN):oS (l++[x])=oS l++mR x:=by unfold oS;rw[List.flatMap_append];simp
theorem UAt.put {E:UE} {cs:List Int} {rs:List uN} {n:Nat} (hn:n=cs.length) (h0:w.heap[E.bu]? =some (cY #[vc,E.vd,E.vs,vr,E.vm] 65 (0,0))) (h1:w.ownsRow E.B 79 1 vc n (Ja cs)) (h2:w.ownsRow E.B 74 3 vr rs.length (oS rs)) (hb:E.B≤E.bu) (hs:E.B≤w.heap.size)
 (ha:App w w1 E.B 79 1 vc v' n (Ja cs) [cS .u32 x]):w1.heap[E.bu]? =some (cY #[vc,E.vd,E.vs,vr,E.vm] 65 (0,0))∧UAt (w1.setCell ⟨E.bu,0,none⟩ v') E (cs++[x]) rs∧EFr E.B eU w (w1.setCell ⟨E.bu,0,none⟩ v'):=by subst hn;have f:EFr E.B [79] w w1:=ha.fr h1 (aA _) Si;have hx:=f.obj h0 De;have g:EFr E.B [65] w1 (w1.setCell ⟨E.bu,0,none⟩ v'):=EFr.set hx hb Si 0 v';have hy:=eF hx 0 v';simp only[bX,bS,bZ]at hy;refine⟨hx,⟨⟨v',vr,hy,?_,g.row (f.row h2 De) De⟩,hb,aG hs (aG f.size g.size)⟩,(f.mono (by unfold eU;simp)).trans (g.mono (by unfold eU;simp))⟩;rw[aD,zj];exact g.row ha.own De
theorem UAt.rel {E:UE} {cs:List Int} {rs:List uN} (h0:w.heap[E.bu]? =some (cY #[vc,E.vd,E.vs,vr,E.vm] 65 (0,0))) (h1:w.ownsRow E.B 79 1 vc cs.length (Ja cs)) (h2:w.ownsRow E.B 74 3 vr rs.length (oS rs)) (hb:E.B≤E.bu) (hs:E.B≤w.heap.size)
 {x:uN} (ha:App w w1 E.B 74 3 vr v' rs.length (oS rs) (mR x)):w1.heap[E.bu]? =some (cY #[vc,E.vd,E.vs,vr,E.vm] 65 (0,0))∧UAt (w1.setCell ⟨E.bu,3,none⟩ v') E cs (rs++[x])∧EFr E.B eU w (w1.setCell ⟨E.bu,3,none⟩ v'):=by have f:EFr E.B [74] w w1:=ha.fr h2 (aA _) Si;have hx:=f.obj h0 De;have g:EFr E.B [65] w1 (w1.setCell ⟨E.bu,3,none⟩ v'):=EFr.set hx hb Si 3 v';have hy:=eF hx 3 v';simp only[bX,bS,bZ]at hy;refine⟨hx,⟨⟨vc,v',hy,g.row (f.row h1 De) De,?_⟩,hb,aG hs (aG f.size g.size)⟩,(f.mono (by unfold eU;simp)).trans (g.mono (by unfold eU;simp))⟩;rw[aD,iq];exact g.row ha.own De
theorem jK {t:TypeId} (h:w.heap[b]? =some (cY #[v0,v1,v2,v3,v4] t (0,0))):w.cell? ⟨b,0,none⟩=some v0∧w.cell? ⟨b,1,none⟩=some v1∧w.cell? ⟨b,2,none⟩=some v2∧w.cell? ⟨b,3,none⟩=some v3∧w.cell? ⟨b,4,none⟩=some v4∧∀o,w.frozen? ⟨b,o,none⟩=false:=
 ⟨cell_of_row w b 0 _ _ _ h,cell_of_row w b 1 _ _ _ h,cell_of_row w b 2 _ _ _ h,cell_of_row w b 3 _ _ _ h,cell_of_row w b 4 _ _ _ h,fun o=>by simp[bN,h]⟩
theorem vF (E:UE) (cs:List Int) (rs:List uN) (op a b c imm:Int) (w:World) (h:UAt w E cs rs) (hc:cs.length≤100000) (fL:lJ op) (he:Cp.mayE op a b c imm=0):
 O U 70 #[cW (some ⟨E.bu,0,none⟩),cS dA op,cS dA a,cS dA b,cS dA c,cS dA imm] w fun x w'=>(6000≤cs.length∧x=uV∧Below E.B w w')∨(cs.length<6000∧x=cZ (.tuple #[])∧UAt w' E (cs++[Cp.encN op a b c imm]) rs∧EFr E.B eU w w'):=by have HE:=pi op a b c imm w fL.1 fL.2;rw[if_pos he,he]at HE;obtain⟨x,hx⟩:=Ex (Cp.encN op a b c imm);rw[←hx]at HE⊢;have HE:=Ih HE;have HU:=Ih h;obtain⟨n,hn⟩:=Ex cs.length;have HN:=Ih hn;rw[←hn]at hc⊢;clear h hx he fL hn;go_in;go_wp2_with fail;refine HE.mono ?_;rintro y w1 ⟨rfl,hb⟩;obtain⟨⟨vc,vr,jE,kE,D5⟩,hbu,gO⟩:=HU.old hb;have Rq:Hid (EFr E.B eU w w1):=Ih (.of hb);rw[←HN.out]at kE;obtain⟨pc,kc,rfl,vP,oE⟩:=dI kE;have HC:=Ih kE;have HR:=Ih D5;have eH:=Ih jE;have z0:=jK jE;have dH:=dB jE;have jC:=Ih (hb.mono HU.sz);clear HE hb jE kE D5;by_cases h6:6000≤n;(·have h6i:(6000:Int)≤n:=Om;go_wp2_with fail;exact⟨rfl,.inl ⟨h6,rfl,jC⟩⟩);(·have h6i:¬(6000:Int)≤n:=Om;have h6l:n<6000:=Om;have hd:decide (6000≤n)=false:=decide_eq_false h6;clear h6;go_wp2_with (at_builtin;go_loud (refine sD elU32 _ _ Rf Rf E.B _ n (Ja cs) Rf (HC.alloc _) _ [cS .u32 x] Rf (heap_alloc_new w1 _) rfl (by intro u hu;rw[aK]at hu;rw[hu];rfl) Om Sv ?_);intro v' w3 eM;go_loud (obtain⟨p',k',rfl,-,-⟩:=dI eM.own);go_loud (have HQ:=Ih (UAt.put (w:=w1.alloc (cY #[cS .u32 x] 79)) HN ((aR w1 _ _ (dB eH)).trans eH) (HC.alloc _) (HR.alloc _) hbu Sv eM));have y0:=jK HQ.1;clear eM;have JY:=dB HQ.1);go_end0;exact .inr ⟨h6l,rfl,HQ.2.1,Rq.trans ((EFr.of ((aC _ _).alloc (aA _) _)).trans HQ.2.2)⟩)
theorem Eg (E:UE) (cs:List Int) (rs:List uN) (sym add:Int) (w:World) (h:UAt w E cs rs) (hr:rs.length≤100000) (hc:cs.length≤100000):
 O U 83 #[cW (some ⟨E.bu,0,none⟩),cS dA sym,cS dA add] w fun x w'=>x=cZ (.tuple #[])∧UAt w' E cs (rs++[⟨(cs.length:Nat),sym,add⟩])∧EFr E.B eU w w':=by have HU:=Ih h;obtain⟨⟨vc,vr,jE,kE,D5⟩,hbu,gO⟩:=h;obtain⟨pc,kc,rfl,vP,oE⟩:=dI kE;obtain⟨pr,kr,rfl,pK,Tq⟩:=dI D5;have HC:=Ih kE;have HR:=Ih D5;obtain⟨k,hk⟩:∃k,k=cs.length:=⟨_,rfl⟩;have HN:=Ih hk;rw[←hk]at hc vP jE⊢;have eH:=Ih jE;have dH:=dB jE;have HBA0:Hid (dG w (w.drew.alloc (cY #[cS dA (k:Nat),cS dA sym,cS dA add] 74))):=Ih ((dD w).alloc (aA _) _);clear kE D5 hk jE;go_in;refine dP (fun w'=>w'.heap[E.bu]? =w.heap[E.bu]?) [20] [([0,1,2,3,4,5,6,7,8,9,10,11,12,13,14],15),([],16),([17,18,19],20)] [] eE Kr (fun _ _ d _ _ h=>by cases d<;>exact h) (rfl) ?_;intro ι _ F HD HE;have fz:=fun n=>jK ((HD.out n).trans eH.out);refine dL ?_;have Z0f:=0;exact V3
end
section
open Go.RowKit Go.Shelf Ob Ty
def pl (t:T) (k:Nat):Nat:=if k<t.parts.length then jW t.parts k else(eV t).1
def NZ (t:T) (k:Nat):Bool:=match t.parts[k]? with|some p=>(eV p).2|none=>(eV t).2
theorem NY {t:T} (hk:t.kind=3) (h:k≤t.parts.length):pl t k=if NZ t k then(iQ t.parts k).1+(iQ t.parts k).1%2 else(iQ t.parts k).1:=by unfold pl NZ;by_cases hl:k<t.parts.length;(·rw[if_pos hl,aB hl];unfold jW;rw[aB hl]);(·obtain rfl:k=t.parts.length:=Om;rw[if_neg hl,List.getElem?_eq_none (aA _),vB hk,Ra])
theorem G6 {t:T} (h:i<t.parts.length):pl t i+(eV t.parts[i]).1=(iQ t.parts (i+1)).1:=by unfold pl;rw[if_pos h,vV h];unfold jW SR;rw[aB h]
def Il (e:Nat):Prop:=∀(d:Nat) (t:T) (v:TV) (w:World),TyAt w e t v→SizeOk d t→
 O U 40 #[fN v t] w fun x w'=>x=cZ (cS dA ((eV t).1:Nat))∧dG w w'
def Md (e d:Nat) (t:T) (v:TV) (k:Nat):Prop:=∀(w:World),TyAt w (e+1) t v→
 O U 93 #[fN v t,cS dA (k:Nat)] w fun x w'=>x=cZ (cS dA (pl t k:Nat))∧dG w w'
theorem jh (e d:Nat) (SU:Il e) (t:T) (v:TV) (pK:t.kind=3) (uB:SizeOk (d+1) t) (k:Nat) (hk:k≤t.parts.length) (ihP:∀i,i<k→Md e d t v i):Md e d t v k:=by intro w ht;have hP:=fun i (hi:i<k)=>ihP i hi;(have sL:∀i,i≤v.np→(iQ t.parts i).1≤80:=fun i hi=>by exact V150);(have hple:∀i,i≤v.np→pl t i≤81:=fun i hi=>by rw[NY pK (by rw[ht.in.pl];exact hi)];have:=sL i hi;split<;>omega);have iU:=NY pK hk;rw[ht.in.pl]at hk;obtain⟨r,hr⟩:=Ex (pl t k);rw[←hr]at iU⊢;have mE:=ht.in.pb;have lB:=Ih ht.in.pl;have HT:=Ih ht;have HK3:=Ih pK;have rC:=Ih uB;have EG:=Ih SU;have HIP:=Ih hP;have Bp:=Ih sL;have HPE2:=Ih hple;have HR:=Ih iU;unfold fN;obtain⟨mn,lY⟩:=Ex t.many;obtain⟨nm,fG⟩:=Ex t.name;rw[pK,←lY,←fG];have sG:Hid (fN v t=cX #[cS dA 3,cU nm,cT v.pn v.nn v.kn,cT v.pp v.np v.kp,cV mn]):=Ih (by unfold fN;rw[pK,lY,fG]);clear ht pK uB SU ihP hP sL hple iU hr lY fG;obtain⟨pp,pH⟩:=Ex v.pp;rw[←pH]at sG⊢;have Gx:=Ih pH;clear pH;go_in;have lK:Hid (dG w (w.alloc (cY #[cS dA 3,cU nm,cT v.pn v.nn v.kn,cT pp v.np v.kp,cV mn] 45))):=Ih ((aC _ _).alloc (aA _) _);have eH:=Ih (aH w (cY #[cS dA 3,cU nm,cT v.pn v.nn v.kn,cT pp v.np v.kp,cV mn] 45));go_wp2_with fail;go_loopg[5,6] k (fun gk v5 v6 wr=>∃i:Nat,i≤k∧gk=k-i∧v6=cS dA i∧v5=cS dA ((iQ t.parts i).1:Nat)∧dG w wr∧wr.heap[w.heap.size]? =some (cY #[cS dA 3,cU nm,cT v.pn v.nn v.kn,cT pp v.np v.kp,cV mn] 45 (0,0)));(case atStart=>exact⟨0,aJ _,rfl,rfl,by rw[vU];rfl,lK,eH⟩);(case round=>obtain⟨i,hi,hgk,rfl,rfl,hb,fT⟩:=hrel;have HG:=Ih hgk;have HB:=Ih hb;have HX:=Ih fT;obtain⟨z0,z1,z2,z3,z4,zz⟩:=fV fT;clear hgk hb fT;by_cases dH:i<k;(·(have eZ:i<t.parts.length:=by rw[lB.out];omega);have Bw:=HIP i dH;obtain⟨pt,iD⟩:=Ex (t.parts[i]);obtain⟨c,co,pI,hc,pv,e',he,dM,fD⟩:=(HT.below HB).part eZ;obtain rfl:e=e':=Om;rw[←iD]at dM fD;have vi:=rC.part HK3 (p:=pt) (by rw[iD];exact aE eZ);have kE:∀w',dG wr w'→_:=fun w' hb=>EG d pt pv w' (fD.below hb) vi.1;have BJ:∀w',dG wr w'→_:=fun w' hb=>Bw w' ((HT.below HB).below hb);have AA:=G6 eZ;have hp81:=HPE2 i Om;have TM:=vi.2;rw[←iD]at AA;obtain⟨ps,kD⟩:=Ex (pl t i);obtain⟨ss,Qf⟩:=Ex ((eV pt).1);rw[←kD,←Qf]at AA;rw[←kD]at hp81 BJ;rw[←Qf]at kE TM;rw[sG.out]at BJ;unfold fN at kE;have GO:=Ih BJ;have iJ:=Ih kE;have XW:=Ih AA;have Z62:=0;exact V120);(·obtain rfl:i=k:=Om;have hev:=fun w' (hb:dG wr w')=>Bh (e+1) t v w' ((HT.below HB).below hb);rw[sG.out]at hev;have HEV:=Ih hev;have sL:=Bp i hk;obtain⟨en,mu⟩:=Ex ((iQ t.parts i).1);rw[←mu]at sL;(have hR:r=if NZ t i then en+en%2 else en:=by rw[mu];exact HR);rw[←mu];clear hev mu;have uD:∀(b:Bool) (wx:World),NZ t i=b→dG w wx→wx.heap[w.heap.size]? =some (cY #[cS dA 3,cU nm,cT v.pn v.nn v.kn,cT pp v.np v.kp,cV mn] 45 (0,0))→True:=fun _ _ _ _ _=>trivial;clear uD;by_cases xD:i<v.np;(·(have eZ:i<t.parts.length:=by rw[lB.out];exact xD);obtain⟨pt,iD⟩:=Ex (t.parts[i]);obtain⟨c,co,pI,hc,pv,e',he,dM,fD⟩:=(HT.below HB).part eZ;obtain rfl:e=e':=Om;rw[←iD]at dM fD;have kE:=Bh e pt pv wr fD;(have OS:NZ t i=(eV pt).2:=by unfold NZ;rw[aB eZ,←iD]);rw[OS]at hR;obtain⟨b,hb⟩:=Ex ((eV pt).2);rw[←hb]at hR kE;unfold fN at kE;have iJ:=Ih kE;have MN:=Ih hR;have Z63:=0;exact V120);(·obtain rfl:i=v.np:=Om;(have OS:NZ t v.np=(eV t).2:=by unfold NZ;rw[List.getElem?_eq_none (by rw[lB.out];exact aA _)]);rw[OS]at hR;obtain⟨b,hb⟩:=Ex ((eV t).2);rw[←hb]at hR HEV;have MN:=Ih hR;clear hb OS hR xD dH;go_wp2_with fail;refine(HEV _ (aC _ _)).mono ?_;rintro x w2 ⟨rfl,eL⟩;have gC:=Ih (Tm HB eL);clear eL HEV;exact V95)))
theorem r8 (e d:Nat) (SU:Il e) (t:T) (v:TV) (pK:t.kind=3) (uB:SizeOk (d+1) t) (k:Nat) (hk:k≤t.parts.length):Md e d t v k:=by
 induction k using Nat.strongRecOn with
  |ind k ih=>exact jh e d SU t v pK uB k hk (fun i hi=>ih i hi Om)
theorem Ni (t:T) (v:TV) (w:World) (pK:t.kind≠3):O U 40 #[fN v t] w (RB w (cS dA ((eV t).1:Nat))):=by unfold fN;by_cases oE:t.kind=2;(·rw[nB oE,oE];clear oE pK;exact V49);(·rw[lL oE pK];obtain⟨kd,jT⟩:=Ex t.kind;rw[←jT]at oE pK⊢;have k2:(kd==2)=false:=beq_eq_false_iff_ne.2 oE;have k3:(kd==3)=false:=beq_eq_false_iff_ne.2 pK;clear oE pK jT;exact V49)
theorem Ji (e d:Nat) (SU:Il e) (t:T) (v:TV) (w:World) (ht:TyAt w (e+1) t v) (pK:t.kind=3) (uB:SizeOk (d+1) t):O U 40 #[fN v t] w (RB w (cS dA ((eV t).1:Nat))):=by have hp:=fun w' (hb:dG w w')=>r8 e d SU t v pK uB t.parts.length (aA _) w' (ht.below hb);rw[show pl t t.parts.length=(eV t).1 by unfold pl;rw[if_neg Om],ht.in.pl]at hp;unfold fN at hp⊢;have HP:=Ih hp;have mE:=ht.in.pb;obtain⟨mn,lY⟩:=Ex t.many;obtain⟨nm,fG⟩:=Ex t.name;rw[pK,←lY,←fG]at HP⊢;clear hp ht pK uB SU lY fG;go_in;go_wp2_with fail;refine(HP _ ((aC _ _).alloc (aA _) _)).mono ?_;rintro x w2 ⟨rfl,eL⟩;have gC:Hid (dG w w2):=Ih (((aC _ _).alloc (aA _) _).trans (eL.mono Si));clear eL;go_wp2_with fail;go_ret;exact⟨rfl,gC⟩
theorem sR:∀e,Il e
 |0=>fun d t v w ht uB=>ht.elim
 |e+1=>fun d t v w ht uB=>by
  by_cases h:t.kind=3
  ·cases d with
   |zero=>exact absurd h uB
   |succ d=>exact Ji e d (sR e) t v w ht h uB
  ·exact Ni t v w h
end
end Go.Proofs.YtfbmaffacikgbaaGreat
