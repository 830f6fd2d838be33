/- A part of the proof of EmitSays. -/
import Derived.Test.YtfbmaffacikgbaaGreatA15
import Derived.Test.YtfbmaffacikgbaaGreatA16
set_option maxRecDepth 100000
set_option maxHeartbeats 4000000
set_option linter.unusedVariables false
set_option linter.unusedSimpArgs false
open Go renaming Calls→O
open Go.Proofs.Tryz renaming prog→U
open Nat renaming le_refl→aA,lt_of_lt_of_le→aF,le_trans→aG,zero_le→aJ
open List renaming getElem?_eq_getElem→aB,length_append→aD,getElem_mem→aE,length_map→aI,mem_singleton→aK,take_succ_eq_append_getElem→aL,length_cons→aM,getD_eq_getElem?_getD→aN,length_take→aO,mem_cons_of_mem→aP,map_append→aS,length_nil→aT,mem_cons_self→aU,take_of_length_le→aY,not_mem_nil→aZ,mem_cons→bF,getElem?_map→bH,append_assoc→bP,set_cons_succ→bS,setIfInBounds_toArray→bX,mem_singleton_self→bY,set_cons_zero→bZ,replicate→cC,all_eq_true→cJ,map_nil→cM,length_set→cQ
open Go.RowKit.Below renaming refl→aC,heap_setCell→bV
open Go.World renaming alloc_heap_new→aH,ownsRow_nil→bE,frozen?→bN,cell?_of_block→bT,setCell→cN
open Go.Lib renaming alloc_old→aR
open Bool renaming and_eq_true→aV
open Go.Value renaming slice→aW,int→bL,string→cE
open Go.IntWalk renaming i64_in→aX
open Go.Proofs.Tryz renaming underlying3→bG,underlying9→bW
open And renaming intro→bM
open Go.Value renaming int→cS
open Go.Value renaming slice→cT
open Go.Value renaming string→cU
open Go.Value renaming bool→cV
open Go.Value renaming pointer→cW
open Go.Value renaming agg→cX
open Go.Obj renaming cells→cY
open Go.Ending renaming returned→cZ
open Go.IntKind renaming i64→dA
namespace Go.Proofs.YtfbmaffacikgbaaGreat
variable {w W w' wr w2:World} {B r k ns i base size d bm n' k' bg b:Nat} {v va vj v1 v0 vc vr vp v':Value} {e:TypeId} {l:List Int} {a:Act} {P:Program} {p:Option Addr} {s:ByteArray} {mx x:Int}
section
open Go.RowKit Go.Shelf Ob Ty
theorem kQ {o:Ord} (h:jG o=true) (fL:o.op=7∨o.op=8):mL o.ty=true∧o.d.length=mH o.ty∧o.d.Nodup∧(o.op=8→0<o.s.length)∧(vZ o).length=eR o.ty+gF o∧gF o≤12∧(gF o=0∨o.ty.many=true)∧(vZ o).length≤o.s.length:=by unfold jG at h;simp only[aV,Bool.or_eq_true,decide_eq_true_eq,beq_iff_eq]at h;obtain⟨⟨⟨h1,h2⟩,h3⟩,h4⟩:=h;(have hm:0≤lQ o∧lQ o≤12∧(lQ o=0∨o.ty.many=true):=by rcases h4 with h4|⟨⟨h4,h5⟩,h6⟩;(·exact⟨by omega,by omega,.inl h4⟩);(·exact⟨by omega,h6,.inr h5⟩));unfold lQ at hm;rcases fL with fL|fL;(·(have hw:vZ o=o.s:=by unfold vZ;rw[if_neg Om]);rw[if_neg Om]at hm;(have hn:gF o=o.s.length-eR o.ty:=by unfold gF;rw[hw]);refine⟨h1,h2,h3,fun h=>by omega,by rw[hw,hn];omega,by omega,?_,by rw[hw];exact aA _⟩;rcases hm.2.2 with h|h;(·exact .inl Om);(·exact .inr h));(·(have hw:vZ o=o.s.drop 1:=by unfold vZ;rw[if_pos fL]);(have hl:(vZ o).length=o.s.length-1:=by rw[hw,List.length_drop]);rw[if_pos fL]at hm;(have hn:gF o=o.s.length-1-eR o.ty:=by unfold gF;rw[hl]);refine⟨h1,h2,h3,fun _=>by omega,by rw[hl,hn];omega,by omega,?_,by rw[hl];omega⟩;rcases hm.2.2 with h|h;(·exact .inl Om);(·exact .inr h))
theorem Rd {o:Ord} (v:OV) (m:Int) (W w:World) (OT:OrdAt W o v) (dJ:dG W w) (hm:Mx m w) (hf:mL o.ty=true) (h8:o.op=8→0<o.s.length) (lX:eR o.ty≤(vZ o).length) (hs:o.s.length≤1000):
 O U 66 #[iW v o] w fun x w'=>∃c:CV,x=cZ (cX (tB o v c).toArray)∧SliceAt W dA c.pw (vZ o)∧(vZ o).length=c.nw∧c.nw≤c.kw∧c.kw≤9223372036854775807∧PlAt w' w.heap.size (dC o.ty) c.vp c.vc c.vr∧dG w w':=by by_cases fL:o.op=8;(·exact Ze o v m W w OT dJ hm hf fL (h8 fL) lX hs);(·exact Zd o v m W w OT dJ hm hf fL lX hs)
theorem zC (t:T):mH t≤12:=by unfold mH;split;(·exact kW);(·omega)
theorem IC {E:UE} {G:GN} {n:Nat} (h:GenAt W w E G va vj) (he:Em E ns n r w):O U 76 #[cW (some ⟨G.bg,0,none⟩),cT none 0 0] w (Step E ns n r 0 (.tuple #[]) w):=
 uF h he [] none 0 0 rfl (aA _) Om (.inl rfl) Om (fun m h=>(by cases h)) Si (fun m h=>(by cases h))
structure ub (G:GN):Prop where
 cp:G.copies≤600
 ce:G.callee≤999
 rs:G.result≤900
 sz:G.size≤400
theorem Gm {G:GN} {x y:Nat} (h:wY G.os (x:Int)≠wY G.os (y:Int)):fQ G x≠fQ G y:=by unfold wY at h;rw[Int.toNat_natCast,Int.toNat_natCast]at h;intro e;apply h;unfold fQ at e;generalize G.os.getD x (false,0)=a at e⊢;generalize G.os.getD y (false,0)=b at e⊢;obtain⟨as_,an⟩:=a;obtain⟨bs_,bn⟩:=b;cases as_<;>cases bs_<;>simp at e<;>simp[e]
theorem ws_in {G:GN} {o:Ord} (oi:Im G o):∀x∈vZ o,0≤x∧x<G.os.length:=fun x hx=>by
 unfold vZ at hx
 split at hx
 ·exact oi.s x (List.mem_of_mem_drop hx)
 ·exact oi.s x hx
theorem Zf {E:UE} {G:GN} {n:Nat} (h:GenAt W w E G va vj) (sm:xK G) (ok:∀l∈G.os,l.1=false→l.2<12) (gu:L3 G) (ci:ub G) (he:Em E ns n r w)
 (o:Ord) (v:OV) (mx:Int) (ho:OrdAt W o v) (hmx:Mx mx W) (oi:Im G o) (vQ:jG o=true) (fL:o.op=8) (Gk:o.s.length≤200) (xB:∃bm,E.vm=.map (some bm)∧SmAt w bm ns) (Ii:∀x∈o.d,∀y∈o.d,x≠y→wY G.os x≠wY G.os y):
 O U 84 #[cW (some ⟨G.bg,0,none⟩),iW v o,cV true] w fun x w'=>Step E ns n r (3*(o.s.length+o.d.length)+G.us.length+10) (.tuple #[]) w x w':=by have Z3z:=0;exact V61
theorem Zg {E:UE} {G:GN} {n:Nat} (h:GenAt W w E G va vj) (sm:xK G) (ok:∀l∈G.os,l.1=false→l.2<12) (gu:L3 G) (ci:ub G) (he:Em E ns n r w)
 (o:Ord) (v:OV) (mx:Int) (ho:OrdAt W o v) (hmx:Mx mx W) (oi:Im G o) (vQ:jG o=true) (fL:o.op=7) (Gk:o.s.length≤200) (xB:∃bm,E.vm=.map (some bm)∧SmAt w bm ns) (Ii:∀x∈o.d,∀y∈o.d,x≠y→wY G.os x≠wY G.os y):
 O U 84 #[cW (some ⟨G.bg,0,none⟩),iW v o,cV true] w fun x w'=>Step E ns n r (3*(o.s.length+o.d.length)+G.us.length+10) (.tuple #[]) w x w':=by have Z3A:=0;exact V61
theorem Rg {t:TypeId} (h:w.heap[b]? =some (cY #[v0,v1] t (0,0))):w.cell? ⟨b,0,none⟩=some v0∧w.cell? ⟨b,1,none⟩=some v1∧∀o,w.frozen? ⟨b,o,none⟩=false:=
 ⟨cell_of_row w b 0 _ _ _ h,cell_of_row w b 1 _ _ _ h,fun o=>by simp[bN,h]⟩
theorem SS (l:Lc) (size bq bg:Nat) (w:World) (sN:w.heap[bq]? =some (cY #[cW (some ⟨bg,0,none⟩)] 105 (0,0))) (hc:w.cell? ⟨bg,10,none⟩=some (cS dA (size:Nat))) (eS:bg<w.heap.size) (h1:l.2≤1000) (h2:size≤1000):
 O U 72 #[sF l,cW (some ⟨bq,0,none⟩)] w fun x w'=>x=cZ (sF (pW size l))∧Below w.heap.size w w':=by obtain⟨c7,z7⟩:=dE sN;have l7:=dB sN;have eH:=Ih sN;obtain⟨s,n⟩:=l;simp only at h1;unfold sF pW;simp only;clear sN;cases s;(·go_in;go_wp2_with fail;exact bodyPost_ret (v:=cX #[cV false,cS dA (n:Nat)]) (by simp[results,Tryz.results72,go_sem]) rfl ⟨rfl,((aC _ _).alloc (aA _) _).alloc Si _⟩);(·have hw:IntKind.i64.wrap ((n:Int)+(size:Int))=(n:Int)+(size:Int):=aX _ Om;go_in;go_wp2_with fail;obtain⟨w2,Ew⟩:∃w2,w2=(w.alloc (cY #[cV true,cS dA (n:Nat)] 149)).alloc (cY #[cV false,cS dA 0] 149):=⟨_,rfl⟩;(have x1:w2.heap[w.heap.size]? =some (cY #[cV true,cS dA (n:Nat)] 149 (0,0)):=by rw[Ew];exact(aR _ _ _ Si).trans (heap_alloc_new w _));(have x2:w2.heap[w.heap.size+1]? =some (cY #[cV false,cS dA 0] 149 (0,0)):=by rw[Ew];have:=heap_alloc_new (w.alloc (cY #[cV true,cS dA (n:Nat)] 149)) (cY #[cV false,cS dA 0] 149);rwa[World.size_alloc]at this);(have eL:Below w.heap.size w w2:=by rw[Ew];exact((aC _ _).alloc (aA _) _).alloc Si _);have uR:=(eL.cell (p:=⟨bq,0,none⟩) l7).trans c7;have sM:=(eL.cell (p:=⟨bg,10,none⟩) eS).trans hc;have hl2:bg<w2.heap.size:=aF eS eL.size;have hl7:bq<w2.heap.size:=aF l7 eL.size;rw[←Ew];obtain⟨b2,kS⟩:∃b2,b2=w.heap.size:=⟨_,rfl⟩;rw[←kS]at x1 x2 eL⊢;have iT:=Ih x1;have jQ:=Ih x2;have gC:=Ih eL;have xQ:=Ih kS;clear Ew kS x1 x2 eL c7 z7 l7 eS hc eH;refine dP (fun w'=>w'.heap[b2]? =some (cY #[cV true,cS dA (n:Nat)] 149 (0,0))∧w'.cell? ⟨bq,0,none⟩=some (cW (some ⟨bg,0,none⟩))∧w'.cell? ⟨bg,10,none⟩=some (cS dA (size:Nat))∧bg<w'.heap.size∧bq<w'.heap.size) [9] [([0,1,2,3,4,5,6,7,8],9)] [] eE Kr (fun _ _ d _ _ h=>by cases d<;>exact h) (⟨iT.out,uR,sM,hl2,hl7⟩) ?_;intro ι _ F HD HE;have fb:=fun n=>Rg (HD.out n).1;have fg:=fun n=>(HD.out n).2;have fl:=fun n=>dB (HD.out n).1;refine dL ?_;have Z0A:=0;exact V3)
def Fb (r:Int) (q:Nat) (ms:List Mv):List Mv:=if 0≤r then ms++[((false,r.toNat),(true,q))]else ms
theorem Qo (r:Int) (q bl B m:Nat) (v:Value) (ms:List Mv) (w:World) (hU:w.heap[bl]? =some (cY #[v] 173 (0,0))) (hB:B≤bl) (UM:w.ownsRow B 175 4 v m (dK ms)) (hm:m=ms.length) (Ie:m≤1000):
 O U 74 #[cS dA r,cS dA (q:Nat),cW (some ⟨bl,0,none⟩)] w fun x w'=>x=cZ (.tuple #[])∧∃v',w'.heap[bl]? =some (cY #[v'] 173 (0,0))∧w'.ownsRow B 175 4 v' (Fb r q ms).length (dK (Fb r q ms))∧EFr B [175,173] w w':=by obtain⟨c7,z7⟩:=dE hU;have l7:=dB hU;have eH:=Ih hU;have HMS:=Ih UM;obtain⟨p,k,rfl,vP,oE⟩:=dI UM;have HM:=Ih hm;unfold Fb;clear hU UM hm;by_cases hr:0≤r;(·rw[if_pos hr];obtain⟨rn,rfl⟩:∃rn:Nat,r=(rn:Int):=⟨r.toNat,by omega⟩;clear hr;rw[Int.toNat_natCast];go_in;go_wp2_with (at_builtin;go_loud (refine sD sA _ _ Rf Rf B _ m (dK ms) Rf (HMS.alloc _) _ [cV false,cS dA (rn:Nat),cV true,cS dA (q:Nat)] Rf (heap_alloc_new w _) rfl (by intro u hu;simp only[bF,aZ,or_false]at hu;rcases hu with rfl|rfl|rfl|rfl<;>rfl) Om Sv ?_);intro v' w5 eM;go_loud (obtain⟨p',k',rfl,-,-⟩:=dI eM.own);go_loud (have rE:=Ih eM);go_loud (have f5:EFr B [175] w w5:=(EFr.of ((aC _ _).alloc (aA _) _)).trans (eM.fr (HMS.alloc _) (aA _) (bY _)));go_loud (have Nm:=f5.obj eH De);go_loud (obtain⟨s5,z5⟩:=dE Nm);go_loud (have l5:=dB Nm);go_loud (have It:=Ih f5);go_loud (have Oj:=Ih Nm);clear eM f5 Nm);go_end0;refine⟨rfl,_,eF Oj 0 _,?_,(It.mono De).trans (EFr.set Oj hB De 0 _)⟩;have h:=rE.own;rw[aD,←HM.out,fF];exact(EFr.set Oj hB (bY _) 0 _).row h De);(·rw[if_neg hr];go_in;go_wp2_with fail;go_end0;exact⟨rfl,_,eH,by rw[←HM.out];exact HMS,.refl _ _ _⟩)
theorem rm {E:UE} {G:GN} {n:Nat} (h:GenAt W w E G va vj) (sm:xK G) (ok:∀l∈G.os,l.1=false→l.2<12) (gu:L3 G) (ci:ub G) (he:Em E ns n r w)
 (o:Ord) (v:OV) (mx:Int) (ho:OrdAt W o v) (hmx:Mx mx W) (oi:Im G o) (vQ:jG o=true) (fL:o.op=7) (Gk:o.s.length≤200) (xB:∃bm,E.vm=.map (some bm)∧SmAt w bm ns) (Ii:∀x∈o.d,∀y∈o.d,x≠y→wY G.os x≠wY G.os y):
 O U 84 #[cW (some ⟨G.bg,0,none⟩),iW v o,cV false] w fun x w'=>Step E ns n r (3*(o.s.length+o.d.length)+G.us.length+10) (.tuple #[]) w x w':=by have Z3B:=0;exact V61
theorem rj {E:UE} {G:GN} {n:Nat} (h:GenAt W w E G va vj) (sm:xK G) (ok:∀l∈G.os,l.1=false→l.2<12) (gu:L3 G) (ci:ub G) (he:Em E ns n r w)
 (o:Ord) (v:OV) (mx:Int) (ho:OrdAt W o v) (hmx:Mx mx W) (oi:Im G o) (vQ:jG o=true) (fL:o.op=8) (Gk:o.s.length≤200) (xB:∃bm,E.vm=.map (some bm)∧SmAt w bm ns) (Ii:∀x∈o.d,∀y∈o.d,x≠y→wY G.os x≠wY G.os y):
 O U 84 #[cW (some ⟨G.bg,0,none⟩),iW v o,cV false] w fun x w'=>Step E ns n r (3*(o.s.length+o.d.length)+G.us.length+10) (.tuple #[]) w x w':=by have Z3C:=0;exact V61
theorem ij {n:Nat} (h:w.ownsRow b 3 1 (cT p n k) n (jR l)):SliceAt w dA p l:=by by_cases h0:n=0;(·have:=h.1;rw[Y1]at this;exact .inl Om);(·obtain⟨g,gN,hg,-,-,-,eS,kE⟩:=eN h Om;injection hg with e;subst e;refine .inr ⟨g,0,rfl,eS,fun j hj=>?_⟩;rw[Nat.zero_add,kE j _ (Ia hj),aN,aB hj];rfl)
theorem IL {E:UE} {G:GN} {n:Nat} (h:GenAt W w E G va vj) (sm:xK G) (ok:∀l∈G.os,l.1=false→l.2<12) (he:Em E ns n r w)
 (i:Nat) (hi:i<G.b.code.length) (oi:Im G (G.b.code[i])) (fL:G.b.code[i].op=7) (gZ:True) (kX:True) (gu:L3 G) (ci:ub G) (mx:Int) (hmx:Mx mx W) (vQ:jG (G.b.code[i])=true) (Gk:G.b.code[i].s.length≤200) (xB:∃bm,E.vm=.map (some bm)∧SmAt w bm ns) (Ii:∀x∈G.b.code[i].d,∀y∈G.b.code[i].d,x≠y→wY G.os x≠wY G.os y) (nS:G.tl.length≤100000):
 O U 33 #[cW (some ⟨G.bg,0,none⟩),cS dA (i:Nat)] w fun x w'=>Step E ns n r (3*(G.b.code[i].s.length+G.b.code[i].d.length)+G.us.length+10) (.tuple #[]) w x w':=by have Z5v:=0;exact V107
theorem IK {E:UE} {G:GN} {n:Nat} (h:GenAt W w E G va vj) (sm:xK G) (ok:∀l∈G.os,l.1=false→l.2<12) (he:Em E ns n r w)
 (i:Nat) (hi:i<G.b.code.length) (oi:Im G (G.b.code[i])) (fL:G.b.code[i].op=8) (gZ:True) (kX:True) (gu:L3 G) (ci:ub G) (mx:Int) (hmx:Mx mx W) (vQ:jG (G.b.code[i])=true) (Gk:G.b.code[i].s.length≤200) (xB:∃bm,E.vm=.map (some bm)∧SmAt w bm ns) (Ii:∀x∈G.b.code[i].d,∀y∈G.b.code[i].d,x≠y→wY G.os x≠wY G.os y) (nS:G.tl.length≤100000):
 O U 33 #[cW (some ⟨G.bg,0,none⟩),cS dA (i:Nat)] w fun x w'=>Step E ns n r (3*(G.b.code[i].s.length+G.b.code[i].d.length)+G.us.length+10) (.tuple #[]) w x w':=by have Z5w:=0;exact V107
theorem gh (n k b:Nat) (w:World) (fT:w.heap[b]? =some (cY #[cS dA (n:Nat)] 3 (0,0))) (h1:n≤100000) (h2:k≤100000):
 O U 68 #[cS dA (k:Nat),cW (some ⟨b,0,none⟩)] w fun x w'=>x=cZ (cS dA (n:Nat))∧w'=w.setCell ⟨b,0,none⟩ (cS dA ((n+k:Nat))):=by obtain⟨c7,z7⟩:=dE fT;have l7:=dB fT;have hw:IntKind.i64.wrap ((n:Int)+(k:Int))=((n+k:Nat):Int):=(aX _ Om).trans Om;have Ew:IntKind.i64.wrap (((n+k:Nat):Int)-(k:Int))=(n:Int):=(aX _ Om).trans Om;clear fT;exact V123
theorem Yt (q:Bool) (w:World):O U 69 #[cV q] w fun x w'=>x=cZ (cS dA ((if q then 1 else 0:Nat):Nat))∧w=w':=by cases q;(·exact V123);(·exact V123)
structure GOk (G:GN) (ns:Nat):Prop where
 sm:xK G
 ok:∀l∈G.os,l.1=false→l.2<12
 us:L3 G
 ca:ub G
 self:G.self<ns
 ct:G.count≤999
 ex:G.pl.extra≤999
 ptr:G.pointer≤999
 tl:G.tl.length≤100000
 regs:G.b.regs≤G.os.length
 res:G.pl.result<0→mH G.b.ty≤4
theorem Step.j {E:UE} {G:GN} {n m:Nat} {x:Ending} (h:GenAt W w E G va vj) (hj:JAt w E r m vj) (hk:k≤k') (hs:Step E ns n r k (.tuple #[]) w x w'):JStep W E G va ns n r k' m w x w':=by rcases hs with⟨h6,e,hb⟩|⟨e,n',r',he,a,b,c,f⟩;(·exact .inl ⟨by omega,e,hb⟩);(·exact .inr ⟨e,n',r',vj,he,a,by omega,c,h.u f,hj.u f c,f.mono fun t ht=>aP _ (aP _ ht)⟩)
theorem JStep.wide {E:UE} {G:GN} {n m:Nat} {x:Ending} (hk:k≤k') (hs:JStep W E G va ns n r k m w x w'):JStep W E G va ns n r k' m w x w':=by rcases hs with⟨h6,e,hb⟩|⟨e,n',r',NS,he,a,b,c⟩;(·exact .inl ⟨by omega,e,hb⟩);(·exact .inr ⟨e,n',r',NS,he,a,by omega,c⟩)
theorem Tc {regs:Int} (h:Td regs l=true):∀x∈l,0≤x∧x<regs:=by unfold Td at h;rw[cJ]at h;intro x hx;have:=h x hx;simp only[aV,decide_eq_true_eq]at this;exact this
theorem yQ {o:Ord} (h:jG o=true):o.s.length≤85:=by unfold jG at h;simp only[aV,Bool.or_eq_true,decide_eq_true_eq,beq_iff_eq]at h;obtain⟨⟨⟨h1,-⟩,-⟩,h4⟩:=h;have hp:=fY h1;(have hi:(dT o.ty).length≤6:=by unfold dT;rw[aO];omega);have hr:=Fy o.ty (i:=(dT o.ty).length) hi;rw[xY o.ty rfl]at hr;(have hm:lQ o≤12:=by rcases h4 with h4|h4<;>omega);unfold lQ at hm;split at hm<;>omega
theorem gM {w:Ty.Row} {o:Ord} (h:iY w o=true):(o.d.length:Int)=w.d∧(o.s.length:Int)=w.s:=by unfold iY at h;simp only[aV,decide_eq_true_eq]at h;exact⟨h.1.2,h.2⟩
theorem Cs {w:Ty.Row} {n:Int} (h:Ct w n=true) (hw:w.n=true):w.least≤n∧n≤w.most:=by unfold Ct at h;rw[if_pos hw]at h;simpa using h
theorem kH {b:oJ} {o:Ord} (h:eD b o=true):Td b.regs o.d=true∧Td b.regs o.s=true∧
 (
  o.op=1∧o.d.length=1∧o.s.length=0∨o.op=2∧o.d.length=1∧o.s.length=1∨o.op=3∧o.d.length=1∧o.s.length=2∧1≤o.n∧o.n≤12∨o.op=4∧o.d.length=1∧o.s.length=0∧0≤o.n∧o.n≤1∨
  o.op=5∧o.d.length=0∧o.s.length=1∧0≤o.n∧o.n≤1∨o.op=6∧o.d.length=1∧o.s.length=0∨(o.op=7∨o.op=8)∧jG o=true∨o.op=9∧o.d.length=0∧o.s.length=0∧0≤o.n∧o.n<b.code.length∨
  o.op=10∧o.d.length=0∧o.s.length=1∧0≤o.n∧o.n<b.code.length∨o.op=11∧o.d.length=0∧o.s.length=1∨o.op=12∧o.d.length=0∧o.s.length=mH b.ty∨o.op=13∧o.d.length=1∧o.s.length=0∨o.op=14∧o.d.length=1∧o.s.length=1):=by unfold eD at h;simp only[aV]at h;obtain⟨⟨⟨⟨⟨h1,h2⟩,h3⟩,h4⟩,-⟩,h5⟩:=h;refine⟨h2,h3,?_⟩;generalize fL:o.op=op at h1 h4 h5⊢;by_cases e1:op=1;(·subst e1;have hp:(o.d.length:Int)=1∧(o.s.length:Int)=0:=gM h5;exact .inl ⟨rfl,by omega,by omega⟩);by_cases e2:op=2;(·subst e2;have hp:(o.d.length:Int)=1∧(o.s.length:Int)=1:=gM h5;exact .inr (.inl ⟨rfl,by omega,by omega⟩));by_cases e3:op=3;(·subst e3;have hp:(o.d.length:Int)=1∧(o.s.length:Int)=2:=gM h5;have hn:(1:Int)≤o.n∧o.n≤12:=Cs h4 rfl;exact .inr (.inr (.inl ⟨rfl,by omega,by omega,by omega,by omega⟩)));by_cases e4:op=4;(·subst e4;have hp:(o.d.length:Int)=1∧(o.s.length:Int)=0:=gM h5;have hn:(0:Int)≤o.n∧o.n≤1:=Cs h4 rfl;exact .inr (.inr (.inr (.inl ⟨rfl,by omega,by omega,by omega,by omega⟩))));by_cases e5:op=5;(·subst e5;have hp:(o.d.length:Int)=0∧(o.s.length:Int)=1:=gM h5;have hn:(0:Int)≤o.n∧o.n≤1:=Cs h4 rfl;exact .inr (.inr (.inr (.inr (.inl ⟨rfl,by omega,by omega,by omega,by omega⟩)))));by_cases e6:op=6;(·subst e6;have hp:(o.d.length:Int)=1∧(o.s.length:Int)=0:=gM h5;exact .inr (.inr (.inr (.inr (.inr (.inl ⟨rfl,by omega,by omega⟩))))));by_cases e7:op=7;(·subst e7;exact .inr (.inr (.inr (.inr (.inr (.inr (.inl ⟨.inl rfl,h5⟩)))))));by_cases e8:op=8;(·subst e8;exact .inr (.inr (.inr (.inr (.inr (.inr (.inl ⟨.inr rfl,h5⟩)))))));by_cases e9:op=9;(·subst e9;have hp:(o.d.length:Int)=0∧(o.s.length:Int)=0:=gM h5;have hn:(0:Int)≤o.n∧o.n≤(b.code.length:Int)-1:=Cs h4 rfl;exact .inr (.inr (.inr (.inr (.inr (.inr (.inr (.inl ⟨rfl,by omega,by omega,by omega,by omega⟩))))))));by_cases e10:op=10;(·subst e10;have hp:(o.d.length:Int)=0∧(o.s.length:Int)=1:=gM h5;have hn:(0:Int)≤o.n∧o.n≤(b.code.length:Int)-1:=Cs h4 rfl;exact .inr (.inr (.inr (.inr (.inr (.inr (.inr (.inr (.inl ⟨rfl,by omega,by omega,by omega,by omega⟩)))))))));by_cases e11:op=11;(·subst e11;have hp:(o.d.length:Int)=0∧(o.s.length:Int)=1:=gM h5;exact .inr (.inr (.inr (.inr (.inr (.inr (.inr (.inr (.inr (.inl ⟨rfl,by omega,by omega⟩))))))))));by_cases e12:op=12;(·subst e12;have hp:(o.d.length:Int)=0∧(o.s.length:Int)=(mH b.ty:Nat):=gM h5;exact .inr (.inr (.inr (.inr (.inr (.inr (.inr (.inr (.inr (.inr (.inl ⟨rfl,by omega,by omega⟩)))))))))));by_cases e13:op=13;(·subst e13;have hp:(o.d.length:Int)=1∧(o.s.length:Int)=0:=gM h5;exact .inr (.inr (.inr (.inr (.inr (.inr (.inr (.inr (.inr (.inr (.inr (.inl ⟨rfl,by omega,by omega⟩))))))))))));by_cases e14:op=14;(·subst e14;have hp:(o.d.length:Int)=1∧(o.s.length:Int)=1:=gM h5;exact .inr (.inr (.inr (.inr (.inr (.inr (.inr (.inr (.inr (.inr (.inr (.inr ⟨rfl,by omega,by omega⟩))))))))))));(·unfold rowOf at h1;rw[if_neg e1,if_neg e2,if_neg e3,if_neg e4,if_neg e5,if_neg e6,if_neg e7,if_neg e8,if_neg e9,if_neg e10,if_neg e11,if_neg e12,if_neg e13,if_neg e14]at h1;cases h1)
def pD (o:Ord):Nat:=(if o.op=9∨o.op=12 then 12 else 30)+30*(o.d.length+o.s.length)
theorem jH {o:Ord} (h:o.op≠9∧o.op≠12):pD o=30+30*(o.d.length+o.s.length):=by unfold pD;rw[if_neg Om]
theorem tU {o:Ord} (h:o.op=9∨o.op=12):pD o=12+30*(o.d.length+o.s.length):=by unfold pD;rw[if_pos h]
theorem A1 (o:Ord):pD o≤30*(1+o.d.length+o.s.length):=by unfold pD;split<;>omega
theorem ot {E:UE} {G:GN} {n:Nat} (h:GenAt W w E G va vj) (gk:GOk G ns) (he:Em E ns n r w) (hj:JAt w E r G.b.code.length vj) (oH:G.base≤n) (mx:Int) (hmx:Mx mx W) (xB:∃bm,E.vm=.map (some bm)∧SmAt w bm ns)
 (i:Nat) (hi:i<G.b.code.length) (Bu:eD G.b (G.b.code[i])=true) (Ii:∀x∈G.b.code[i].d,∀y∈G.b.code[i].d,x≠y→wY G.os x≠wY G.os y):
 O U 33 #[cW (some ⟨G.bg,0,none⟩),cS dA (i:Nat)] w fun x w'=>JStep W E G va ns n r (pD G.b.code[i]) G.b.code.length w x w':=by have ZhL:=0;exact V443
theorem Fz {t:T} (h:mL t=true):(dC t).extra≤50∧(dC t).area≤50:=by exact V134
theorem CX {o:Ord} (h:jG o=true) (fL:o.op=7∨o.op=8):iX o≤62:=by obtain⟨hf,-,-,-,-,hm,-,-⟩:=kQ h fL;obtain⟨h1,h2⟩:=Fz hf;unfold iX;split<;>omega
def More (E:UE) (ns n:Nat) (x:Ending) (w':World):Prop:=x=cZ (.tuple #[])→∃n' r',Em E ns n' r' w'∧n<n'
theorem More.no {E:UE} {n:Nat}:More E ns n uV w':=fun h=>by unfold uV at h;cases h
section
variable {E:UE} {ns n r k k':Nat} {w wr w':World}
theorem Far.callM {f:FuncId} {args:Array Value} (h:Far E ns n r k w wr) (hs:E.B≤w.heap.size) (hc:∀n' r',Em E ns n' r' wr→Calls P f args wr fun x w'=>Step E ns n' r' k' (.tuple #[]) wr x w'∧More E ns n' x w'):
 Calls P f args wr fun x w'=>(6000<n+(k+k')∧x=uV∧Below E.B w w')∨(x=cZ (.tuple #[])∧Far E ns n r (k+k') w w'∧EFr E.B eU wr w'∧∃n' r',Em E ns n' r' w'∧n<n'):=by obtain⟨n',r',h1,h2,h3,h4,h5⟩:=h;refine(hc n' r' h1).mono ?_;rintro x w' ⟨⟨h6,hx,hb⟩|⟨hx,n2,r2,q1,q2,q3,q4,q5⟩,hm⟩;(·exact .inl ⟨by omega,hx,(h5.below hs).trans hb⟩);(·obtain⟨n3,r3,e3,l3⟩:=hm hx;exact .inr ⟨hx,⟨n2,r2,q1,by omega,by omega,by omega,h5.trans q5⟩,q5,n3,r3,e3,by omega⟩)
theorem S4 (h:Em E ns n r w) (op a b c i:Int) (he:Cp.mayE op a b c i=0):O U 70 #[cW (some ⟨E.bu,0,none⟩),cS dA op,cS dA a,cS dA b,cS dA c,cS dA i] w fun x w'=>Step E ns n r 1 (.tuple #[]) w x w'∧More E ns n x w':=by have ZdU:=0;exact V333
end
theorem Sh {W w:World} {E:UE} {G:GN} {va vj:Value} {ns n r:Nat} (h:GenAt W w E G va vj) (sm:xK G) (gu:L3 G) (ok:∀l∈G.os,l.1=false→l.2<12) (he:Em E ns n r w)
 (s:List Int) (p:Option Addr) (N k:Nat) (hs:SliceAt W dA p s) (hl:s.length=N) (hk:N≤k) (oE:k≤9223372036854775807) (hr:∀x∈s,0≤x∧x<G.os.length) (hN:N≤100) (sJ:G.pl.result<0→N≤4) (hp:G.pointer≤999):
 O U 86 #[cW (some ⟨G.bg,0,none⟩),cT p N k] w fun x w'=>Step E ns n r (3*N+G.us.length+4) (.tuple #[]) w x w'∧More E ns n x w':=by have Z48:=0;exact V70
theorem C2 {W w:World} {E:UE} {G:GN} {va vj:Value} {ns n r m:Nat} (h:GenAt W w E G va vj) (he:Em E ns n r w) (hj:JAt w E r m vj) (op o:Int) (a:Nat) (fL:op=2∨op=19∧(a:Int)=0∨op=20∨op=21∧(a:Int)=0) (ha:(a:Int)≤15) (ho:0≤o∧o<m) (hs:G.self<ns):
 O U 85 #[cW (some ⟨G.bg,0,none⟩),cS dA op,cS dA (a:Nat),cS dA o] w fun x w'=>JStep W E G va ns n r 1 m w x w'∧More E ns n x w':=by have Z46:=0;exact V69
theorem T2 {E:UE} {G:GN} {n:Nat} (h:GenAt W w E G va vj) (sm:xK G) (ok:∀l∈G.os,l.1=false→l.2<12) (he:Em E ns n r w)
 (i:Nat) (hi:i<G.b.code.length) (oi:Im G (G.b.code[i])) (fL:G.b.code[i].op=9) (gZ:G.b.code[i].d.length=0) (kX:G.b.code[i].s.length=0) (hj:JAt w E r G.b.code.length vj) (pY:G.self<ns) (hn:0≤G.b.code[i].n∧G.b.code[i].n<G.b.code.length):
 O U 33 #[cW (some ⟨G.bg,0,none⟩),cS dA (i:Nat)] w fun x w'=>JStep W E G va ns n r 1 G.b.code.length w x w'∧More E ns n x w':=by have Z1d:=0;exact V10
theorem A0 {E:UE} {G:GN} {n:Nat} (h:GenAt W w E G va vj) (sm:xK G) (ok:∀l∈G.os,l.1=false→l.2<12) (he:Em E ns n r w)
 (i:Nat) (hi:i<G.b.code.length) (oi:Im G (G.b.code[i])) (fL:G.b.code[i].op=12) (gZ:G.b.code[i].d.length=0) (kX:True) (gu:L3 G) (hN:G.b.code[i].s.length≤100) (sJ:G.pl.result<0→G.b.code[i].s.length≤4) (hp:G.pointer≤999):
 O U 33 #[cW (some ⟨G.bg,0,none⟩),cS dA (i:Nat)] w fun x w'=>Step E ns n r (3*G.b.code[i].s.length+G.us.length+4) (.tuple #[]) w x w'∧More E ns n x w':=by have Z1e:=0;exact V10
theorem F2 {E:UE} {G:GN} {n:Nat} (h:GenAt W w E G va vj) (gk:GOk G ns) (he:Em E ns n r w) (hj:JAt w E r G.b.code.length vj) (i:Nat) (hi:i<G.b.code.length) (Bu:eD G.b (G.b.code[i])=true) (hl:G.b.code[i].op=9∨G.b.code[i].op=12):
 O U 33 #[cW (some ⟨G.bg,0,none⟩),cS dA (i:Nat)] w fun x w'=>JStep W E G va ns n r (pD G.b.code[i]) G.b.code.length w x w'∧More E ns n x w':=by have ZhM:=0;exact V443
end
end Go.Proofs.YtfbmaffacikgbaaGreat
