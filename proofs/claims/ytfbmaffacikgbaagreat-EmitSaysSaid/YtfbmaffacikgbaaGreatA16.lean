/- A part of the proof of EmitSays. -/
import Derived.Test.YtfbmaffacikgbaaGreatA14
set_option maxRecDepth 100000
set_option maxHeartbeats 4000000
set_option linter.unusedVariables false
set_option linter.unusedSimpArgs false
open Go renaming Calls→O
open Go.Proofs.Tryz renaming prog→U
open Nat renaming le_refl→aA,lt_of_lt_of_le→aF,le_trans→aG,zero_le→aJ
open List renaming getElem?_eq_getElem→aB,length_append→aD,getElem_mem→aE,length_map→aI,mem_singleton→aK,take_succ_eq_append_getElem→aL,length_cons→aM,length_take→aO,mem_cons_of_mem→aP,map_append→aS,length_nil→aT,mem_cons_self→aU,take_of_length_le→aY,not_mem_nil→aZ,mem_cons→bF,getElem?_map→bH,append_assoc→bP,set_cons_succ→bS,setIfInBounds_toArray→bX,mem_singleton_self→bY,set_cons_zero→bZ,replicate→cC,map_nil→cM,length_set→cQ
open Go.RowKit.Below renaming refl→aC,heap_setCell→bV
open Go.World renaming alloc_heap_new→aH,ownsRow_nil→bE,frozen?→bN,cell?_of_block→bT,setCell→cN
open Go.Lib renaming alloc_old→aR
open Go.Value renaming slice→aW,int→bL,string→cE
open Go.IntWalk renaming i64_in→aX
open Go.Proofs.Tryz renaming underlying3→bG,underlying9→bW
open And renaming intro→bM
open Go.Value renaming int→cS
open Go.Value renaming slice→cT
open Go.Value renaming string→cU
open Go.Value renaming bool→cV
open Go.Value renaming pointer→cW
open Go.Value renaming agg→cX
open Go.Obj renaming cells→cY
open Go.Ending renaming returned→cZ
open Go.IntKind renaming i64→dA
namespace Go.Proofs.YtfbmaffacikgbaaGreat
variable {w W w' w1 w2:World} {B r k ns i base size d bg b:Nat} {v va vj v1 v0 v2 vc vr vp:Value} {e:TypeId} {xs:List Value} {l:List Int} {a:Act} {P:Program} {ps:Option Addr} {L:List (List Int)} {cs:Array Value} {s:ByteArray} {mx x:Int}
section
open Go.RowKit Go.Shelf Ob Ty
theorem rR {o:Oper} {K:Act→Prop} {ι:Type} (F:ι→World) (ty:TypeId) (x:Operand) (ho:o.op=.load ty x) (b vK:Nat) (hx:a.eval x=cW (some ⟨b,vK,none⟩)) (cs:List Value) (d:TypeDesc) (hc:∀n,(F n).rangeAt b vK cs)
 (hu:P.underlying ty=some d) (hd:d.isRow=true) (hi:(P.info? ty).map (·.size)=some cs.length) (hk:K (a.put o.dst (.agg cs.toArray))):o.quiet P a (fun w'=>∃n,w'=F n) K:=by refine⟨.agg cs.toArray,?_,hk⟩;rintro w' ⟨n,rfl⟩;unfold Oper.quietAt execOp;simp only[ho,hx,Instr.loadAt,Instr.sureAddr,Sem.run_bind,Sem.run_pure,Result.andThen_ok,run_loadVar_mid (F n) b vK ty cs d (hc n) hu hd hi];exact⟨rfl,rfl⟩
theorem zH (t:T) (h:i<(dT t).length):i<t.parts.length:=by unfold dT at h;rw[aO]at h;omega
theorem Kh {t:T} (h:i<(dT t).length):(dT t)[i]=t.parts[i]'(zH t h):=List.getElem_take
theorem um (t:T) {i:Nat}:∀{j:Nat},i≤j→rT t i≤rT t j:=by
 intro j h
 induction j with
  |zero=>
   obtain rfl:i=0:=by omega
   exact aA _
  |succ j ih=>
   by_cases e:i=j+1
   ·subst e;exact aA _
   ·have h1:=ih (by omega)
    by_cases hj:j<(dT t).length
    ·rw[Sn hj];omega
    ·have:rT t (j+1)=rT t j:=by unfold rT;rw[aY (by omega),aY (by omega)]
     omega
theorem Q1 {t:T} {area M:Nat} (hp:XK t) (Yd:(dC t).extra≤100) (ha:area≤400) (hM:M≤12) (l:Lc) (hl:l∈(Uy t (dC t).params.length).map (pW area)++(List.range M).map fun k=>((true,area+(dC t).extra+k):Lc)):IsPl l∧l≠(false,12):=by rcases List.mem_append.1 hl with hl|hl;(·obtain⟨x,hx,rfl⟩:=List.mem_map.1 hl;(have hx':x∈(dC t).params.flatMap (·.1):=by(have e:Uy t (dC t).params.length=(dC t).params.flatMap Wl:=by unfold Uy;rw[List.take_length]);rw[e]at hx;exact(Wd _).subset hx);have h1:=hp.reg x hx';have h2:=hp.sm x hx';obtain⟨xs,xn⟩:=x;simp only at h1 h2;unfold pW;cases xs;(·have:=h1 rfl;exact⟨⟨fun h=>(by cases h),fun _=>(by show xn≤15;omega)⟩,fun h=>(by simp at h;omega)⟩);(·exact⟨⟨fun _=>(by show xn+area≤999;omega),fun h=>(by cases h)⟩,fun h=>(by simp at h)⟩));(·obtain⟨k,hk,rfl⟩:=List.mem_map.1 hl;rw[List.mem_range]at hk;exact⟨⟨fun _=>(by show area+(dC t).extra+k≤999;omega),fun h=>(by cases h)⟩,fun h=>(by simp at h)⟩)
theorem S5 (t:T):(dC t).result≤15∧-1≤(dC t).result∧(dC t).count≤15∧-1≤(dC t).count:=by have h:=Cm t;have h1:(dC t).result=(mS t).1:=rfl;have h2:(dC t).count=(iZ t).1:=rfl;rw[h1,h2];refine⟨?_,?_,?_,?_⟩;(·unfold mS;split<;>simp);(·unfold mS;split<;>simp);(·unfold iZ;split;(·rcases h with h|h<;>rw[h]<;>simp);(·simp));(·unfold iZ;split;(·rcases h with h|h<;>rw[h]<;>simp);(·simp))
theorem QG {t:TypeId} (h:w.heap[b]? =some (cY #[v0,v1,v2] t (0,0))):w.cell? ⟨b,0,none⟩=some v0∧w.cell? ⟨b,1,none⟩=some v1∧w.cell? ⟨b,2,none⟩=some v2∧∀o,w.frozen? ⟨b,o,none⟩=false:=
 ⟨cell_of_row w b 0 _ _ _ h,cell_of_row w b 1 _ _ _ h,cell_of_row w b 2 _ _ _ h,fun o=>by simp[bN,h]⟩
theorem XJ {lf xL:Bool} {ln pX area cp C:Nat} (h1:(((lf,ln):Lc).1=false→((lf,ln):Lc).2<4)∧((lf,ln):Lc).2≤40) (h2:(xL,pX)=pW area (lf,ln)) (ha:area≤400) (Bw:cp≤600) (hC:C≤72):
 (((((xL,pX):Lc),cp+C):Lc×Nat).1.1=false→((((xL,pX):Lc),cp+C):Lc×Nat).1.2<4)∧((((xL,pX):Lc),cp+C):Lc×Nat).1.2≤440∧((((xL,pX):Lc),cp+C):Lc×Nat).2≤999:=by obtain⟨h1,h3⟩:=h1;simp only at h1 h3⊢;unfold pW at h2;cases lf;(·simp at h2;obtain⟨rfl,rfl⟩:=h2;exact⟨fun _=>h1 rfl,by omega,by omega⟩);(·simp at h2;obtain⟨rfl,rfl⟩:=h2;exact⟨fun h=>(by cases h),by omega,by omega⟩)
theorem PlAt.param {n2 c2 c3:Nat} {q2 q3:Option Addr} {pl:Pl} (h:PlAt w B pl (cT q2 n2 c2) (cT q3 n2 c3) vr) (hn:n2=pl.params.length) (i:Nat) (hi:i<pl.params.length):
 ∃(g2 g3:Nat) (ll:Nat) (gl:Option Addr) (cp:Nat),q2=some ⟨g2,0,none⟩∧q3=some ⟨g3,0,none⟩∧g2<w.heap.size∧g3<w.heap.size∧n2≤c2∧n2≤c3∧w.cell? ⟨g2,i,none⟩=some (cT gl ll cp)∧w.cell? ⟨g3,i,none⟩=some (cV pl.params[i].2)∧ll=pl.params[i].1.length∧ll≤cp∧
  ∀k (hk:k<pl.params[i].1.length),∃gb,gl=some ⟨gb,0,none⟩∧(gb<w.heap.size∧(∃cs,w.heap[gb]? =some (cY cs 149 (0,0)))∧∃cs,w.heap[g2]? =some (cY cs 94 (0,0)))∧w.cell? ⟨gb,k*2,none⟩=some (cV (pl.params[i].1[k]).1)∧w.cell? ⟨gb,k*2+1,none⟩=some (cS dA ((pl.params[i].1[k]).2:Nat)):=by obtain⟨ps,hp⟩:=h.ps;obtain⟨g2,cp2,e2,h21,-,-,h22,sM⟩:=eN hp.params Om;obtain⟨g3,cp3,e3,h31,-,-,h32,hc3⟩:=eN hp.copied Om;injection e2 with e2 e2' e2'';injection e3 with e3 G8 e3'';obtain⟨pv,hpv,oK⟩:=hp.each i hi;obtain⟨gl,cp,rfl,hcp1,BJ⟩:=dI oK;refine⟨g2,g3,_,gl,cp,e2,e3,h22,h32,by rw[e2',e2''];exact h21,by rw[G8,e3''];exact h31,sM i _ hpv,hc3 i _ (by rw[bH,aB hi];rfl),rfl,hcp1,fun k hk=>?_⟩;obtain⟨gb,cpb,eb,-,-,-,KN,zL⟩:=eN oK Om;injection eb with eb _ _;obtain⟨d1,d2⟩:=sV pl.params[i].1 k hk;refine⟨gb,eb,⟨KN,?_,?_⟩,zL _ _ d1,zL _ _ d2⟩;(·rcases oK.2 with⟨h0,_⟩|⟨g,gN,mU,h1,h2,h3,_⟩;(·rw[eb]at h0;cases h0);(·rw[eb]at h1;injection h1 with h1 _ _;injection h1 with h1;injection h1 with h1;rw[h1];exact⟨_,h3⟩));(·rcases hp.params.2 with⟨h0,_⟩|⟨g,gN,mU,h1,h2,h3,_⟩;(·rw[e2]at h0;cases h0);(·rw[e2]at h1;injection h1 with h1 _ _;injection h1 with h1;injection h1 with h1;rw[h1];exact⟨_,h3⟩))
theorem wK (w:World) (o o' o2:Obj):(((w.alloc o).alloc o').alloc o2).heap[w.heap.size+2]? =some o2:=by have:=dF (w.alloc o) o' o2;rwa[World.size_alloc]at this
structure PaIn (W w:World) (E:UE) (G:GN) (o:Ord) (v:OV) (c:CV) (mx:Int) (area:Nat):Prop where
 ho:OrdAt W o v
 hmx:Mx mx W
 oi:Im G o
 hf:mL o.ty=true
 w1:SliceAt W dA c.pw (vZ o)
 w2:(vZ o).length=c.nw
 w3:c.nw≤c.kw
 w4:c.kw≤9223372036854775807
 wi:∀x∈vZ o,0≤x∧x<G.os.length
 pl:PlAt w E.B (dC o.ty) c.vp c.vc c.vr
 sl:(vZ o).length=eR o.ty+gF o
 mr:gF o≤12
 many:gF o=0∨o.ty.many=true
 ha:area≤400
 s8:o.op=8→0<o.s.length
 cp:G.copies≤600
 ce:G.callee≤999
 rs:G.result≤999
theorem Jk {W w:World} {E:UE} {G:GN} {va vj:Value} {ns n r:Nat} {o:Ord} {v:OV} {c:CV} {mx:Int} {area:Nat} (h:GenAt W w E G va vj) (sm:xK G) (ok:∀l∈G.os,l.1=false→l.2<12) (he:Em E ns n r w) (hi:PaIn W w E G o v c mx area):
 O U 113 #[cW (some ⟨G.bg,0,none⟩),iW v o,cX (tB o v c).toArray,cS dA (area:Nat)] w fun x w'=>Step E ns n r (3*c.nw+5) (.tuple #[]) w x w':=by obtain⟨ho,hmx,oi,hf,Qe,Ew,kh,Qd,hwi,iU,lX,Vf,oD,ha,hs8,Bw,KX,D5⟩:=hi;obtain⟨pw,nw,kw,vp,vc,vr⟩:=c;simp only at Qe Ew kh Qd iU;have Z66:=0;exact V124
theorem qi {o:Ord} {v:OV} {c:CV} (ho:OrdAt W o v) (hmx:Mx mx W) (hf:mL o.ty=true) (dJ:dG W w) (iU:PlAt w base (dC o.ty) c.vp c.vc c.vr):
 O U 67 #[cX (tB o v c).toArray] w (RB w (cS dA (Lo o.ty (dT o.ty).length:Nat))):=by obtain⟨pw,nw,kw,vp,vc,vr⟩:=c;simp only at iU;have Z67:=0;exact V124
theorem eu {E:UE} {G:GN} {n:Nat} (h:GenAt W w E G va vj) (sm:xK G) (ok:∀l∈G.os,l.1=false→l.2<12) (he:Em E ns n r w) (mx:Int) (hmx:Mx mx W) (hf:mL G.b.ty=true) (iU:G.pl=dC G.b.ty) (mD:eR G.b.ty≤G.os.length) (had:G.address≤999) (lb nl:Nat) (L:List Int) (jB:fR w lb nl L):
 O U 77 #[cW (some ⟨G.bg,0,none⟩),cT G.v.tv.pp (G.v.tv.np-1) G.v.tv.kp,.map (some lb)] w fun x w'=>Step E ns n r (3*eR G.b.ty) (.tuple #[]) w x w':=by have HG:=Ih h;have nM:=Ih sm;have rC:=Ih ok;have Hc:=Ih (Far.refl he);have HN6:=Ih he.n;have nN:=Ih hmx;have Vm:=Ih mD;have Z8R:=0;exact V187
end
end Go.Proofs.YtfbmaffacikgbaaGreat
