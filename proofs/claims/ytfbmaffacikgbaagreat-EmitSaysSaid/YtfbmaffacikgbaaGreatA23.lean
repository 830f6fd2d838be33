/- A part of the proof of EmitSays. -/
import Derived.Test.YtfbmaffacikgbaaGreatA21
set_option maxRecDepth 100000
set_option maxHeartbeats 4000000
set_option linter.unusedVariables false
set_option linter.unusedSimpArgs false
open Go renaming Calls→O
open Go.Proofs.Tryz renaming prog→U
open Nat renaming le_refl→aA,lt_of_lt_of_le→aF,le_trans→aG,zero_le→aJ
open List renaming getElem?_eq_getElem→aB,length_append→aD,getElem_mem→aE,length_map→aI,mem_singleton→aK,take_succ_eq_append_getElem→aL,length_cons→aM,getD_eq_getElem?_getD→aN,length_take→aO,mem_cons_of_mem→aP,getElem_of_mem→aQ,map_append→aS,length_nil→aT,mem_cons_self→aU,take_of_length_le→aY,not_mem_nil→aZ,map_cons→bC,getElem?_append_right→bD,mem_cons→bF,getElem?_map→bH,nil_append→bJ,append_assoc→bP,set_cons_succ→bS,setIfInBounds_toArray→bX,mem_singleton_self→bY,set_cons_zero→bZ,foldl_cons→cA,replicate→cC,getElem_map→cH,all_eq_true→cJ,flatMap_cons→cL,map_nil→cM,length_set→cQ
open Go.RowKit.Below renaming refl→aC,heap_setCell→bV
open Go.World renaming alloc_heap_new→aH,ownsRow_nil→bE,frozen?→bN,cell?_of_block→bT,setCell→cN
open Go.Lib renaming alloc_old→aR
open Bool renaming and_eq_true→aV
open Go.Value renaming slice→aW,int→bL,string→cE
open Go.IntWalk renaming i64_in→aX
open Go.Proofs.Tryz renaming underlying3→bG,underlying9→bW
open And renaming intro→bM
open Go.ByteArray renaming toList_eq→cK
open Go.Value renaming int→cS
open Go.Value renaming slice→cT
open Go.Value renaming string→cU
open Go.Value renaming bool→cV
open Go.Value renaming pointer→cW
open Go.Value renaming agg→cX
open Go.Obj renaming cells→cY
open Go.Ending renaming returned→cZ
open Go.IntKind renaming i64→dA
namespace Go.Proofs.YtfbmaffacikgbaaGreat
variable {w W w' wr wx:World} {B r k ns i size d bm n' co pg b:Nat} {v v1 v0 v2 v3 vc vr:Value} {e:TypeId} {chg:List TypeId} {xs vs:List Value} {l:List Int} {a:Act} {p pc pd pr ps:Option Addr} {L:List (List Int)} {cs:Array Value} {s:ByteArray} {mx x:Int}
section
open Go.RowKit Go.Shelf Ob Ty
def L9 (m:Mad) (i:Nat):Bool:=(m.bodies.take i).any fun b=>decide (2000<(dV b.ty).size)
def C0 (m:Mad) (i:Nat):Bool:=(m.globals.take i).any fun b=>decide (2000<(dV b.ty).size)
def L8 (m:Mad) (i:Nat):Bool:=(m.outs.take i).any fun b=>decide (2000<(dV b.ty).size)
def Kc (m:Mad):Bool:=L9 m m.bodies.length||C0 m m.globals.length||L8 m m.outs.length
theorem Lz {α:Type} {l:List α} {p:α→Bool} (h:i<l.length):(l.take (i+1)).any p=((l.take i).any p||p l[i]):=by rw[aL h,List.any_append];simp
theorem JD {m:Mad} (h:As m):Kc m=true:=by unfold Kc L9 C0 L8;rw[List.take_length,List.take_length,List.take_length];simp only[Bool.or_eq_true,List.any_eq_true,decide_eq_true_eq];rcases h with h|h|h;(·exact .inl (.inl h));(·exact .inl (.inr h));(·exact .inr h)
theorem X3 (m:Mad) (v:MV) (hm:MadAt W m v) (dJ:dG W w) (By:v.nb≤40∧v.ng≤40∧v.no≤40) (pJ:∀x∈things m,oM x.2.1=true):
 O U 8 #[lR v] w (RB w (cV (Kc m))):=by have Nt:∀b∈m.bodies,oM b.ty=true:=fun b hb=>pJ (b.name,b.ty,true) (by unfold things;simp only[List.mem_append,List.mem_map];exact .inl (.inl ⟨b,hb,rfl⟩));have hmg:∀b∈m.globals,oM b.ty=true:=fun b hb=>pJ (b.name,b.ty,false) (by unfold things;simp only[List.mem_append,List.mem_map];exact .inl (.inr ⟨b,hb,rfl⟩));have M5:∀b∈m.outs,oM b.ty=true:=fun b hb=>pJ (b.name,b.ty,b.fn) (by unfold things;simp only[List.mem_append,List.mem_map];exact .inr ⟨b,hb,rfl⟩);have Z9W:=0;exact V225
structure DI (m:Mad) (B:Nat) (w':World) (v:Value):Prop where
 ex:∃(cs:List Int) (ss:List lF) (rs:List uN) (pc pd ps pr:Option Addr) (kc kd ks kr:Nat),v=jk pc pd ps pr cs.length kc (fS m).length kd ss.length ks rs.length kr∧
  w'.ownsRow B 79 1 (cT pc cs.length kc) cs.length (Ja cs)∧w'.ownsRow B 21 1 (cT pd (fS m).length kd) (fS m).length (pG (fS m))∧w'.ownsRow B 41 7 (cT ps ss.length ks) ss.length (mQ ss)∧w'.ownsRow B 74 3 (cT pr rs.length kr) rs.length (oS rs)∧
  GoodU ss.length cs rs∧SyI m m.bodies.length cs.length ss∧∀s∈fO m,s.sign.size≤2000
theorem Gg {b2 b3:Nat} {a0 a1 a2 a3 e0:Value} (h2:w.heap[b2]? =some (cY #[a0,a1,a2,a3] 34 (0,0))) (h3:w.heap[b3]? =some (cY #[e0] 35 (0,0))) (fM:¬b2=b3) (Nb:B≤b2) (hB3:B≤b3) (c0 c1 c2 c3 e:Value):
 (((((w.setCell ⟨b2,0,none⟩ c0).setCell ⟨b2,1,none⟩ c1).setCell ⟨b2,2,none⟩ c2).setCell ⟨b2,3,none⟩ c3).setCell ⟨b3,0,none⟩ e).heap[b2]? =some (cY #[c0,c1,c2,c3] 34 (0,0))∧
 (((((w.setCell ⟨b2,0,none⟩ c0).setCell ⟨b2,1,none⟩ c1).setCell ⟨b2,2,none⟩ c2).setCell ⟨b2,3,none⟩ c3).setCell ⟨b3,0,none⟩ e).heap[b3]? =some (cY #[e] 35 (0,0))∧
 Below B w (((((w.setCell ⟨b2,0,none⟩ c0).setCell ⟨b2,1,none⟩ c1).setCell ⟨b2,2,none⟩ c2).setCell ⟨b2,3,none⟩ c3).setCell ⟨b3,0,none⟩ e)∧
 EFr 0 [34,35] w (((((w.setCell ⟨b2,0,none⟩ c0).setCell ⟨b2,1,none⟩ c1).setCell ⟨b2,2,none⟩ c2).setCell ⟨b2,3,none⟩ c3).setCell ⟨b3,0,none⟩ e):=by have Tp:¬b3=b2:=fun e=>fM e.symm;have e0':=eF h2 0 c0;have e1':=eF e0' 1 c1;have e2':=eF e1' 2 c2;have G8:=eF e2' 3 c3;have k3:((((w.setCell ⟨b2,0,none⟩ c0).setCell ⟨b2,1,none⟩ c1).setCell ⟨b2,2,none⟩ c2).setCell ⟨b2,3,none⟩ c3).heap[b3]? =some (cY #[e0] 35 (0,0)):=fZ (fZ (fZ (fZ h3 Tp) Tp) Tp) Tp;refine⟨fZ (G8.trans rfl) fM,(eF k3 0 e).trans rfl,dW (dW (dW (dW (dW ⟨rfl,rfl,rfl,aA _,fun _ _=>rfl⟩ b2 0 _ Nb) b2 1 _ Nb) b2 2 _ Nb) b2 3 _ Nb) b3 0 _ hB3,?_⟩;have f0:EFr 0 [34,35] w _:=EFr.set h2 (aJ _) Si 0 c0;have f1:=f0.trans (EFr.set e0' (aJ _) Si 1 c1);have f2:=f1.trans (EFr.set e1' (aJ _) Si 2 c2);have f3:=f2.trans (EFr.set e2' (aJ _) Si 3 c3);exact f3.trans (EFr.set k3 (aJ _) Si 0 e)
theorem Eu:lJ 0:=⟨by decide,by decide⟩
theorem ST:lJ 1:=⟨by decide,by decide⟩
theorem BY (l:List Af):∀s∈(fU l).1,(∃g∈l,s.name=g.name)∧s.kind=2∧(0≤s.pos∧s.pos≤2*l.length)∧(0≤s.size∧s.size≤12)∧s.frame=0:=by
 have h:∀(l':List Af) (a:List lF×List Int) (k:Nat),a.2.length≤2*k→(∀s∈a.1,(0≤s.pos∧s.pos≤2*k)∧(∃g∈l,s.name=g.name)∧s.kind=2∧(0≤s.size∧s.size≤12)∧s.frame=0)→(∀g∈l',g∈l)→∀s∈(l'.foldl (fun a g=>(a.1++[(⟨g.name,2,g.static,(a.2.length:Nat),(dQ g.ty:Nat),dV g.ty,0⟩:lF)],a.2++oO g)) a).1,(0≤s.pos∧s.pos≤2*(k+l'.length:Nat))∧(∃g∈l,s.name=g.name)∧s.kind=2∧(0≤s.size∧s.size≤12)∧s.frame=0:=by
  intro l'
  induction l' with
  |nil=>intro a k _ ha _ s hs;exact ha s hs
  |cons x l' ih=>
   intro a k hk ha hl s hs
   rw[cA]at hs
   have hd:=Ue x
   have hw:=kW (t:=x.ty)
   have:=ih _ (k+1) (by simp only[aD];omega) (fun s hs=>by
    rcases List.mem_append.1 hs with hs|hs
    ·have:=ha s hs
     exact⟨⟨this.1.1,by omega⟩,this.2⟩
    ·rw[aK]at hs
     subst hs
     exact⟨⟨by simp only;omega,by simp only;omega⟩,⟨x,hl x aU,rfl⟩,rfl,⟨by simp only;omega,by simp only;omega⟩,rfl⟩) (fun g hg=>hl g (aP _ hg)) s hs
   refine⟨⟨this.1.1,?_⟩,this.2⟩
   have h2:=this.1.2
   simp only[aM]
   omega
 intro s hs;have:=h l ([],[]) 0 Si (fun s hs=>(by cases hs)) (fun g hg=>hg) s hs;exact⟨this.2.1,this.2.2.1,by have:=this.1;simpa using this,this.2.2.2.1,this.2.2.2.2⟩
theorem zu {m:Mad} {v:MV} (h:MadAt w m v) (By:v.ng≤40) (hs:∀s∈fO m,s.sign.size≤2000):∀s∈fO m,yg s:=fun s hm=>by
 have h64:∀n:Nat,n≤9223372036854775807→lJ (n:Int):=fun n hn=>⟨by omega,by omega⟩
 have Vc:=hs s hm
 unfold fO at hm
 rcases List.mem_append.1 hm with hm|hm
 ·rcases List.mem_append.1 hm with hm|hm
  ·obtain⟨b,hb,rfl⟩:=List.mem_map.1 hm
   obtain⟨j,hj,rfl⟩:=aQ hb
   obtain⟨c,co,-,-,hr⟩:=h.bodies.get Om
   obtain⟨ov,-,ho⟩:=hr j hj
   exact⟨ho.sz,by unfold sB;simp only;unfold sB at Vc;simp only at Vc;omega,ST,Eu,Eu,Eu⟩
  ·obtain⟨h1,h2,h3,h4,h5⟩:=BY m.globals s hm
   obtain⟨g,hg,e⟩:=h1
   obtain⟨j,hj,rfl⟩:=aQ hg
   obtain⟨c,co,-,-,hr⟩:=h.globals.get Om
   obtain⟨tv,-,ho⟩:=hr j hj
   have eS:=h.gl
   have hgm:=h.gm
   exact⟨by rw[e];exact ho.sz,by omega,by rw[h2];exact⟨by decide,by decide⟩,⟨by omega,by have:=By;omega⟩,⟨by omega,by omega⟩,by rw[h5];exact⟨by decide,by decide⟩⟩
 ·obtain⟨o,hb,rfl⟩:=List.mem_map.1 hm
  obtain⟨j,hj,rfl⟩:=aQ hb
  obtain⟨c,co,-,-,hr⟩:=h.outs.get Om
  obtain⟨ov,-,ho⟩:=hr j hj
  exact⟨ho.sz,by unfold kL;simp only;unfold kL at Vc;simp only at Vc;omega,by unfold kL;simp only;split<;>exact⟨by decide,by decide⟩,Eu,Eu,Eu⟩
def SN:Value:=cX #[cT none 0 0,cT none 0 0,cT none 0 0,cT none 0 0]
def DH (m:Mad) (w:World) (x:Ending) (w':World):Prop:=
 dG w w'∧((mT m=false∧x=cZ (.tuple #[SN,cS dA 2]))∨(mT m=true∧x=cZ (.tuple #[SN,cS dA 1])∧(As m∨6000<Rb m))∨(mT m=true∧∃v,x=cZ (.tuple #[v,cS dA 0])∧DI m w.heap.size w' v))
theorem Ar {t:TypeId} (h:w.heap[b]? =some (cY #[v0,v1,v2,v3] t (0,0))):w.cell? ⟨b,0,none⟩=some v0∧w.cell? ⟨b,1,none⟩=some v1∧w.cell? ⟨b,2,none⟩=some v2∧w.cell? ⟨b,3,none⟩=some v3∧∀o,w.frozen? ⟨b,o,none⟩=false:=
 ⟨cell_of_row w b 0 _ _ _ h,cell_of_row w b 1 _ _ _ h,cell_of_row w b 2 _ _ _ h,cell_of_row w b 3 _ _ _ h,fun o=>by simp[bN,h]⟩
theorem X0 (TH:ry) (E4:EV) {w:World} (m:Mad) (v:MV) (mx:Int) (hm:MadAt w m v) (hmx:Mx mx w) (h0:0<w.heap.size) (By:v.nb≤40∧v.ng≤40∧v.no≤40) (yJ:∀b∈m.bodies,b.regs≤200∧b.code.length≤200):
 O U 5 #[lR v] w fun x w'=>DH m w x w':=by
 have hmf:∀(fn:Fn) (first gN:Array Value) (w:World),(Instr.makeFunc fn first gN).run U w=.ok (.func fn first gN) w:=fun _ _ _ _=>rfl;have Qk:=@run_makeMap U;have K9:Hid (∀w',dG w w'→O U 13 #[lR v] w' (RB w' (cV (mT m)))):=Ih fun w' hb=>E4 m v mx w w' hm hmx hb h0 By;have EC:=Ih hm;have nN:=Ih hmx;have yu:=Ih yJ;have H40:=Ih By;have dj:=Ih TH;obtain⟨wV,dY,kb,yY,fW,kg,yX,iK,ko⟩:=v;unfold lR at K9⊢;simp only at K9⊢;have Yh:dY≤40:=By.1;have hU:m.bodies.length=dY:=hm.bl;have jC:=Ih hU;obtain⟨fb,Na⟩:=Ex (mT m);rw[←Na]at K9;have Vo:=Ih Na;clear hm hmx yJ By TH E4 Na hU;go_enter_defers Tryz.func5,Tryz.ntmps5;obtain⟨wA,gA⟩:=Ex (((w.alloc (cY #[cT wV dY kb,cT yY fW kg,cT yX iK ko] 26)).alloc (cY #[cT none 0 0,cT none 0 0,cT none 0 0,cT none 0 0] 34)).alloc (cY #[cS dA 0] 35));obtain⟨b1,kF⟩:=Ex w.heap.size;have iT:Hid (wA.heap[b1]? =some (cY #[cT wV dY kb,cT yY fW kg,cT yX iK ko] 26 (0,0))):=Ih (by rw[gA,kF];exact dX _ (dX _ (heap_alloc_new w _)));have jQ:Hid (wA.heap[b1+1]? =some (cY #[cT none 0 0,cT none 0 0,cT none 0 0,cT none 0 0] 34 (0,0))):=Ih (by rw[gA,kF];exact dX _ (dF w _ _));have zN:Hid (wA.heap[b1+1+1]? =some (cY #[cS dA 0] 35 (0,0))):=Ih (by rw[gA,kF];exact wK w _ _ _);have mX:Hid (dG w wA):=Ih (by rw[gA];exact(((aC _ _).alloc (aA _) _).alloc Si _).alloc Sv _);have uO:=Ih gA;have lK:=Ih kF;clear gA kF;go_wp2_with fail;rw[←uO.out];(try rw[←lK.out]);refine(K9.out wA mX.out).mono ?_;rintro y wF ⟨rfl,wn⟩;have Oh:=Ih (Kb wn iT.out);have Vj:=Ih (Kb wn jQ.out);have HY3:=Ih (Kb wn zN.out);have P6:Hid (dG w wF):=Ih (Tm mX.out wn);clear wn iT jQ zN;obtain⟨iF,qJ,qI,xI⟩:=iH Oh.out;obtain⟨Nc,Uk,Uj,Bn,c2z⟩:=Ar Vj.out;obtain⟨ro,c3z⟩:=dE HY3.out;have l1:=dB Oh.out;have l2:=dB Vj.out;have l3:=dB HY3.out;have Ns:¬b1+1=b1+1+1:=Om;have oN:¬b1+1+1=b1+1:=Om;(have ke:w.heap.size≤b1+1:=by rw[lK.out];omega);cases fb;(·go_wp2_with fail;obtain⟨wz,Ev⟩:=Ex ((((((wF.setCell ⟨b1+1,0,none⟩ (cT none 0 0)).setCell ⟨b1+1,1,none⟩ (cT none 0 0)).setCell ⟨b1+1,2,none⟩ (cT none 0 0)).setCell ⟨b1+1,3,none⟩ (cT none 0 0)).setCell ⟨b1+1+1,0,none⟩ (cS dA 2)));obtain⟨g2,g3,gb,ge⟩:=Gg Vj.out HY3.out Ns ke Om (cT none 0 0) (cT none 0 0) (cT none 0 0) (cT none 0 0) (cS dA 2);rw[←Ev]at g2 g3 gb ge;rw[←Ev];clear Ev iF qJ qI xI Nc Uk Uj Bn c2z ro c3z;obtain⟨z0,z1,z2,z3,zz⟩:=Ar g2;obtain⟨y0,yz⟩:=dE g3;have Mr:=Ih (P6.out.trans gb);clear g2 g3 gb ge K9;simp[bodyPostD,Leaves,settle,results,Tryz.results5,go_sem,z0,z1,z2,z3,y0];exact⟨Mr.out,.inl ⟨Vo.out.symm,rfl⟩⟩)
 ·skip;obtain⟨hfb1,hfb2,hfb3,hfb4,hfb5⟩:=vT Vo.out.symm;have EQ:=Ih hfb1
  have HNOD:Hid (((fO m).map fun s=>s.name.data.toList).Nodup):=Ih (by
   have e:(fO m).map (fun s=>s.name.data.toList)=m.names.map fun s=>s.data.toList:=by
    rw[←uY,List.map_map]
    rfl
   rw[e]
   exact hfb5)
  obtain⟨B,BR⟩:=Ex wF.heap.size;obtain⟨wD,FD⟩:=Ex ((wF.alloc (.map #[] 0)).alloc (cY #[cT none 0 0,cT none 0 0,cT none 0 0,cT none 0 0,.map (some B)] 65));(have Yg:dG wF wD:=by rw[FD];exact((aC _ _).alloc (aA _) _).alloc Si _)
  have bb:Hid (DecAt wD B (B+1) B [] []):=Ih (by
   refine⟨⟨_,_,by rw[FD,BR];exact dF wF _ _,bE _ _ _ _,bE _ _ _ _⟩,?_,Nat.le_succ _,aA _,by rw[BR];exact Yg.size⟩
   have:=(World.ownsMap_made wF U 9 (plainElem (H:=Unit) U 3)).alloc (cY #[cT none 0 0,cT none 0 0,cT none 0 0,cT none 0 0,.map (some B)] 65)
   rw[FD,BR]
   rw[BR]at this
   exact this)
  have Rt:Hid (dG w wD):=Ih (Tm P6.out Yg);(have lD:w.heap.size≤B:=by rw[BR];exact P6.out.size);(have hb3B:b1+1+1<B:=by rw[BR];exact l3);have Ho:=Ih (Kb Yg Oh.out);have HZ2:=Ih (Kb Yg Vj.out);have N3:=Ih (Kb Yg HY3.out);have ND:=Ih (Yz (W:=w) m ⟨wV,dY,kb,yY,fW,kg,yX,iK,ko⟩ mx EC.out nN.out Rt.out lD bb.out (fun g hg=>Ld (hfb2 g hg)) H40.out);unfold lR at ND;simp only at ND;have xQ:=Ih BR;have Ok:=Ih FD;clear Nc Uk Uj Bn c2z ro c3z l2 l3 hfb1 hfb2 hfb3 hfb4 hfb5 Yg BR FD Oh Vj HY3 K9;go_wp2_with fail;rw[←xQ.out,←Ok.out];clear iF qJ qI xI l1;refine ND.out.mono ?_;rintro y w5 (⟨PG,rfl,hb⟩|⟨rfl,Vc,hd5,wg⟩);(·have hl3:=dB N3.out;have q2:=(hb.block (b1+1) Om).trans HZ2.out;have q3:=(hb.block (b1+1+1) Om).trans N3.out;have eH:Hid (dG w w5):=Ih (Rt.out.trans (hb.mono lD));have HLONG:=Ih PG;clear hb PG;have Zfl:=0;exact V371);have gV:Below B wD w5:=wg.below bb.out.sz;have QM:=Ih ((gV.block b1 Om).trans Ho.out);have HV2:=Ih ((gV.block (b1+1) Om).trans HZ2.out);have yj:=Ih ((gV.block (b1+1+1) Om).trans N3.out);have lW:Hid (dG w w5):=Ih (Rt.out.trans (gV.mono lD));obtain⟨vd,vs,Hi,Ey,Xp⟩:=hd5.box;have HMP:=Ih hd5.map;have HDT:=Ih Ey;have HSIG:=Ih Vc;have XV:=Ih hd5.sz;obtain⟨ns,kX⟩:=Ex ((fO m).length);have GD:=Ih kX;obtain⟨E,hE⟩:=Ex (⟨B,B+1,vd,vs,.map (some B)⟩:UE);have HE:Hid (E.B=B∧E.bu=B+1∧E.vd=vd∧E.vs=vs∧E.vm=.map (some B)):=Ih (by rw[hE];exact⟨rfl,rfl,rfl,rfl,rfl⟩)
  have HEM0:Hid (Em E ns 0 0 w5):=Ih (by
   refine⟨[],[],⟨⟨cT none 0 0,cT none 0 0,by rw[hE];exact Hi,bE _ _ _ _,bE _ _ _ _⟩,by rw[hE];exact Nat.le_succ _,by rw[hE];exact hd5.sz⟩,⟨by simp,by simp,fun x h=>(by cases h),List.Pairwise.nil,fun c h=>(by cases h)⟩,rfl,rfl⟩)
  have HSS0:Hid (w5.ownsRow E.B 41 7 E.vs ns (mQ (fO m))):=Ih (by rw[hE,kX];exact Xp);have HSY0:Hid (SyI m 0 0 (fO m)):=Ih ⟨rfl,rfl,fun _ _=>rfl,rfl,zu EC.out H40.out.2.1 HSIG.out⟩;clear Hi Ey Xp hd5 wg Vc gV kX hE Ho HZ2 N3 bb ND;obtain⟨iF,qJ,qI,xI⟩:=iH QM.out;have l1:=dB QM.out;go_wp2_with fail;clear iF qJ qI xI l1;go_loopg[21] dY (fun gk v21 wx=>∃(i n r:Nat) (ss:List lF),i≤dY∧gk=dY-i∧v21=cS dA i∧Em E ns n r wx∧wx.ownsRow E.B 41 7 E.vs ns (mQ ss)∧SyI m i n ss∧n≤Lr m i∧EFr B I0 w5 wx);(case atStart=>exact⟨0,0,0,fO m,aJ _,rfl,rfl,HEM0.out,HSS0.out,HSY0.out,aJ _,.refl _ _ _⟩)
  case round=>
   clear HEM0 HSS0 HSY0;obtain⟨i,n,r,ss,hi,hgk,rfl,mw,Qf,hsy,jA,fI⟩:=hrel;have jJ:=Ih hgk;have ay:=Ih mw;have QO:=Ih Qf;have QN:=Ih hsy;have ab:=Ih jA;have GL:=Ih fI;clear hgk mw Qf hsy jA fI;have dJ:dG w wr:=lW.out.trans ((GL.out.below XV.out).mono lD);have mG:=Ih dJ;by_cases dH:i<dY
   ·(have eZ:i<m.bodies.length:=by rw[jC.out];exact dH);obtain⟨c,co,mE,hc,dO⟩:=EC.out.bodies.get Om;simp only at mE;subst mE;obtain⟨ov,fK,oK⟩:=dO i eZ;obtain⟨b,kS⟩:=Ex (m.bodies[i]);rw[←kS]at fK oK;obtain⟨y0,y1,y2,y3,y4,y5,y6,y7,y8⟩:=pN dJ hc fK;have gQ:=aF hc dJ.size;have qA:(i:Int)<dY:=Om;have pL:=EQ.out b (by rw[kS];exact aE eZ);have Nx:=yu.out b (by rw[kS];exact aE eZ);obtain⟨-,Tn,-,-,-,-,-⟩:=iA pL;obtain⟨regs,kC⟩:∃regs:Nat,b.regs=(regs:Nat):=⟨b.regs.toNat,by omega⟩;(have lX:ss.length=ns:=by rw[QN.out.len];exact GD.out.symm);(have VG:i<(fO m).length:=by rw[pB];omega);(have pY:i<ns:=by rw[GD.out];exact VG);have hCT:=qg m eZ;rw[←kS,kC,Int.toNat_natCast]at hCT;obtain⟨wB,Xn⟩:=Ex (wr.alloc (cY #[cU b.name,cV b.static,cS dA b.ty.kind,cU b.ty.name,cT ov.tv.pn ov.tv.nn ov.tv.kn,cT ov.tv.pp ov.tv.np ov.tv.kp,cV b.ty.many,cS dA b.regs,cT ov.pc ov.nc ov.kc] 48));(have kO:dG wr wB:=by rw[Xn];exact(aC _ _).alloc (aA _) _);have ZH:=Ih (ay.out.old kO);have HSS2:=Ih (dR QO.out fun g cs e=>kO.block g (dB e));have Fo:=Ih (GL.out.trans (.of kO))
    have pR:Hid ((fO m)[i].name=b.name):=Ih (by
     have:=xU m eZ
     rw[aB VG]at this
     injection this with this
     rw[this,kS]
     rfl)
    have ZC:Hid (O U 16 #[cW (some ⟨E.bu,0,none⟩),gG ov b] wB fun x w'=>EU E ns n r (30*regs+qU b.code) i ss wB x w'):=Ih (Uc dj.out (W:=w) (mx:=mx) (bm:=B) oK (Tm dJ kO) (by rw[HE.out.1];exact lD) nN.out pL kC (by have:=Nx.1;omega) (by rw[←oK.cl];exact Nx.2) ZH.out HSS2.out lX pY HE.out.2.2.2.2
     (by rw[GD.out];exact((sm_of HMP.out HNOD.out Om).fr Fo.out))
     (fun B' chg w' f=>by
      have:=sm_at (nH (nH HMP.out Fo.out) f) HNOD.out VG (by rw[pR.out];exact oK.sz)
      rw[pR.out]at this
      exact this))
    unfold gG at ZC;rw[HE.out.2.1]at ZC;have XS:=Ih Xn;have Rs:=Ih hCT;have Mg:=Ih lX;clear fK oK kS kO dH dO pL Nx Tn kC hCT lX Xn dJ pR;go_wp2_with fail;rw[←XS.out];refine ZC.out.mono ?_;rintro y w7 (⟨h6,rfl,hb⟩|⟨rfl,n',r',fr,he',AP,AZ,hfr',D3,hf'⟩);(·(have rI:Below B wB w7:=by have:=hb;rw[HE.out.1]at this;exact this);have fT:Below B w5 w7:=(Fo.out.below XV.out).trans rI;have q2:=(fT.block (b1+1) Om).trans HV2.out;have q3:=(fT.block (b1+1+1) Om).trans yj.out;have eH:Hid (dG w w7):=Ih (lW.out.trans (fT.mono lD));have ZK:Hid (6000<Rb m):=Ih (by have h1:=Rs.out;have h2:=CN m (i+1);have h3:=ab.out;omega);clear hb rI fT h6;have Zfm:=0;exact V371);have HEM7:=Ih he';have HSS7:=Ih (D3 (by rw[Mg.out];exact pY));have HSY7:=Ih (QN.out.step eZ (by rw[Mg.out];exact pY) AP he'.n.1 hfr');have HNC7:Hid (n'≤Lr m (i+1)):=Ih (by have h1:=Rs.out;have h3:=ab.out;omega);have HFR7:Hid (EFr B I0 w5 w7):=Ih (Fo.out.trans (by rw[HE.out.1]at hf';exact hf'));clear he' AP AZ hfr' D3 hf' y0 y1 y2 y3 y4 y5 y6 y7 y8 gQ;have Zal:=0;exact V242
   ·obtain rfl:dY=i:=Om;clear dH;obtain⟨cs,rs,hua,yF,gQ,Tl⟩:=ay.out;subst gQ Tl;obtain⟨vc,vr,Hi,Ey,Xp⟩:=hua.box;obtain⟨pc,kc,rfl,-,-⟩:=dI Ey;obtain⟨pr,kr,rfl,-,-⟩:=dI Xp;have hdt:=GL.out.row HDT.out (by unfold I0 lI eU;decide);obtain⟨pd,kd,hvd,-,-⟩:=dI hdt;obtain⟨ps,ks,OH,-,-⟩:=dI QO.out;(have lX:ss.length=ns:=by rw[QN.out.len];exact GD.out.symm);rw[HE.out.2.1,HE.out.2.2.1,HE.out.2.2.2.2,OH,hvd]at Hi;rw[hvd]at hdt;have hq:=GL.out.below XV.out;have TE:=(hq.block (b1+1) Om).trans HV2.out;have OI:=(hq.block (b1+1+1) Om).trans yj.out;obtain⟨Nc,Uk,Uj,Bn,c2z⟩:=Ar TE;obtain⟨ro,c3z⟩:=dE OI;obtain⟨u0,u1,u2,u3,u4,uf⟩:=jK Hi;have lu:=dB Hi;have l2:=dB TE;have l3:=dB OI;have HV2b:=Ih TE;have HV3b:=Ih OI;have HU2:=Ih Ey;have HU3:=Ih Xp;have HDTB:=Ih hdt;have K6:=Ih yF;have XZ:=Ih lX
    have HSSB:Hid (wr.ownsRow B 41 7 (cT ps ns ks) ns (mQ ss)):=Ih (by
     have:=QO.out
     rw[HE.out.1,OH]at this
     exact this)
    clear hua yF Hi Ey Xp hdt TE OI hq lX OH hvd ay QO;go_wp2_with fail;obtain⟨wz,Ev⟩:=Ex ((((((wr.setCell ⟨b1+1,0,none⟩ (cT pc cs.length kc)).setCell ⟨b1+1,1,none⟩ (cT pd (fS m).length kd)).setCell ⟨b1+1,2,none⟩ (cT ps ns ks)).setCell ⟨b1+1,3,none⟩ (cT pr rs.length kr)).setCell ⟨b1+1+1,0,none⟩ (cS dA 0)));obtain⟨g2,g3,gb,ge⟩:=Gg HV2b.out HV3b.out Ns ke (show w.heap.size≤b1+1+1 by omega) (cT pc cs.length kc) (cT pd (fS m).length kd) (cT ps ns ks) (cT pr rs.length kr) (cS dA 0);rw[←Ev]at g2 g3 gb ge;rw[←Ev];have Mr:=Ih (mG.out.trans gb);have so:Hid (wz.ownsRow w.heap.size 79 1 (cT pc cs.length kc) cs.length (Ja cs)):=Ih (pV (ge.row HU2.out De) (by rw[HE.out.1];exact lD));have uQ:Hid (wz.ownsRow w.heap.size 21 1 (cT pd (fS m).length kd) (fS m).length (pG (fS m))):=Ih (pV (ge.row HDTB.out De) lD);have Hr:Hid (wz.ownsRow w.heap.size 41 7 (cT ps ns ks) ns (mQ ss)):=Ih (pV (ge.row HSSB.out De) lD);have Hq:Hid (wz.ownsRow w.heap.size 74 3 (cT pr rs.length kr) rs.length (oS rs)):=Ih (pV (ge.row HU3.out De) (by rw[HE.out.1];exact lD));clear Ev Nc Uk Uj Bn c2z ro c3z u0 u1 u2 u3 u4 uf;have Zfn:=0;exact V371
def rX (m:Mad):Bool:=decide (40<m.bodies.length)||decide (40<m.globals.length)||decide (40<m.outs.length)||m.bodies.any fun b=>decide (200<b.regs)||decide (200<b.code.length)
theorem Gq {m:Mad} (h:rX m=false):(m.bodies.length≤40∧m.globals.length≤40∧m.outs.length≤40)∧∀b∈m.bodies,b.regs≤200∧b.code.length≤200:=by unfold rX at h;simp only[Bool.or_eq_false_iff,decide_eq_false_iff_not,List.any_eq_false,Bool.or_eq_true,decide_eq_true_eq,not_or]at h;obtain⟨⟨⟨h1,h2⟩,h3⟩,h4⟩:=h;exact⟨⟨by omega,by omega,by omega⟩,fun b hb=>by have:=h4 b hb;omega⟩
theorem E5 (m:Mad) (v:MV) (hm:MadAt W m v) (dJ:dG W w) (bo k:Nat) (rA:w.heap[bo]? =some (cY #[cT v.pb v.nb v.kb,cT v.pg v.ng v.kg,cT v.po v.no v.ko] 26 (0,0))):
 O U 4 #[cT (some ⟨bo,0,none⟩) 1 k] w fun x w'=>x=cZ (cV (rX m))∧w=w':=by have Z4S:=0;exact V91
def uJ (l:List Ord):Nat:=(l.map fun o=>1+o.d.length+o.s.length).sum
def Di (b:oJ):Nat:=b.regs.toNat+uJ b.code
def sU (m:Mad) (i:Nat):Nat:=((m.bodies.take i).map Di).sum
def Jz (m:Mad):Bool:=decide (200<sU m m.bodies.length)
theorem qt {l:List Ord} (h:k<l.length):uJ (l.take (k+1))=uJ (l.take k)+(1+l[k].d.length+l[k].s.length):=by unfold uJ;rw[aL h,aS,List.sum_append];simp
theorem jo {m:Mad} (h:i<m.bodies.length):sU m (i+1)=sU m i+Di m.bodies[i]:=by unfold sU;rw[aL h,aS,List.sum_append];simp
theorem Ed {α:Type} {f:α→Nat} {c:Nat}:∀{l:List α},(∀x∈l,f x≤c)→(l.map f).sum≤l.length*c
 |[],_=>by simp
 |x::l,h=>by
  rw[bC,List.sum_cons,aM,Nat.add_mul,Nat.one_mul]
  have h1:=h x (aU ..)
  have h2:=Ed (l:=l) fun y hy=>h y (aP _ hy)
  omega
theorem Zb {l:List Ord} (h:∀o∈l,o.d.length≤100000∧o.s.length≤100000) (hl:l.length≤200) (k:Nat):uJ (l.take k)≤40000200:=by(have h1:=Ed (f:=fun o:Ord=>1+o.d.length+o.s.length) (c:=200001) (l:=l.take k) fun o ho=>by have:=h o (List.mem_of_mem_take ho);omega);(have h2:(l.take k).length≤200:=by rw[aO];omega);have h3:=Nat.mul_le_mul_right 200001 h2;unfold uJ;omega
theorem CT {b:oJ} (h:∀o∈b.code,o.d.length≤100000∧o.s.length≤100000) (hl:b.code.length≤200) (hr:b.regs≤200):Di b≤40000400:=by have:=Zb h hl b.code.length;rw[List.take_length]at this;unfold Di;omega
theorem U9 {m:Mad} (h:∀b∈m.bodies,Di b≤40000400) (hl:m.bodies.length≤40) (k:Nat):sU m k≤1600016000:=by have h1:=Ed (f:=Di) (c:=40000400) (l:=m.bodies.take k) fun o ho=>h o (List.mem_of_mem_take ho);(have h2:(m.bodies.take k).length≤40:=by rw[aO];omega);have h3:=Nat.mul_le_mul_right 40000400 h2;unfold sU;omega
theorem U8 (m:Mad) (v:MV) (hm:MadAt W m v) (dJ:dG W w) (yJ:∀b∈m.bodies,nV b=true∧b.regs≤200∧b.code.length≤200) (By:m.bodies.length≤40):
 O U 7 #[lR v] w (RB w (cV (Jz m))):=by
 have Bp:Hid (∀i,sU m i≤1600016000):=Ih (U9 (fun b hb=>by
  obtain⟨h1,h2,h3⟩:=yJ b hb
  exact CT (fun o ho=>vJ ((iA h1).2.2.2.2.2.1 o ho)) h3 h2) By)
 have Zlz:=0;exact V542
theorem Pi {cs:List Int}:∀{rs:List uN} {last:Int},(∀x∈rs,last<x.pos)→(∀x∈rs,0≤x.pos∧x.pos<cs.length∧mY (cs.getD x.pos.toNat 0)=true∧0≤x.sym∧x.sym<ns∧0≤x.add∧x.add≤6000)→rs.Pairwise (fun x y=>x.pos<y.pos)→jZ cs ns last rs=true
 |[],_,_,_,_=>rfl
 |x::r,last,h1,h2,h3=>by
  rw[List.pairwise_cons]at h3
  obtain⟨a1,a2,a3,a4,a5,a6,a7⟩:=h2 x (aU ..)
  have h0:=h1 x (aU ..)
  unfold jZ Aj
  rw[Pi (last:=x.pos) h3.1 (fun y hy=>h2 y (aP _ hy)) h3.2,decide_eq_true h0,decide_eq_true a2,a3,decide_eq_true a4,decide_eq_true a5,decide_eq_true a6,decide_eq_true a7]
  rfl
theorem o5 {cs:List Int} {rs:List uN} (h:GoodU ns cs rs):jZ cs ns (-1) rs=true:=
 Pi (fun x hx=>by have:=(h.ok x hx).1;omega) h.ok h.inc
def NT (a:Option (Int×Int)) (s:lF):Option (Int×Int):=a.bind fun cd=>Ob.take cd.1 cd.2 s
theorem Q0 (l:List lF):l.foldl NT none=none:=by
 induction l with
  |nil=>rfl
  |cons x l ih=>rw[cA];exact ih
theorem Pc:∀(l:List lF) (seen:List (List UInt8)) (c d:Int),(∀s∈l,kI s.name.data.toList=true∧qR s.sign.data.toList=true)→(seen++names l).Nodup→gX seen c d l=l.foldl NT (some (c,d))
 |[],_,_,_,_,_=>rfl
 |s::l,seen,c,d,h,hn=>by
  obtain⟨h1,h2⟩:=h s (aU ..)
  have hc:seen.contains s.name.data.toList=false:=by
   rw[Bool.eq_false_iff]
   intro hh
   rw[List.contains_iff_mem]at hh
   rw[List.nodup_append]at hn
   exact hn.2.2 _ hh _ (by unfold names;rw[bC];exact aU ..) rfl
  have e:nZ seen c d s=Ob.take c d s:=by
   unfold nZ
   rw[h1,h2,hc]
   rfl
  rw[gX,e,cA]
  have oN:((seen++[s.name.data.toList])++names l).Nodup:=by
   have:(seen++[s.name.data.toList])++names l=seen++names (s::l):=by unfold names;rw[bC];simp
   rw[this]
   exact hn
  have e2:NT (some (c,d)) s=Ob.take c d s:=rfl
  rw[e2]
  cases hh:Ob.take c d s with
  |none=>rw[Q0]
  |some p=>exact Pc l _ p.1 p.2 (fun y hy=>h y (aP _ hy)) oN
theorem Q4 (c d:Int) (o:yh):Ob.take c d (kL o)=some (c,d):=by unfold Ob.take kL;cases o.fn<;>simp
theorem CB (l:List yh) (c d:Int):(l.map kL).foldl NT (some (c,d))=some (c,d):=by
 induction l with
  |nil=>rfl
  |cons x l ih=>
   rw[bC,cA]
   have e:NT (some (c,d)) (kL x)=some (c,d):=Q4 c d x
   rw[e]
   exact ih
theorem Ys (l:List Af) (hn:∀g∈l,sI g.ty=true) (c:Int):∀i,i≤l.length→(fU (l.take i)).1.foldl NT (some (c,0))=some (c,(((fU (l.take i)).2.length:Nat):Int))
 |0,_=>rfl
 |i+1,h=>by
  have hi:i<l.length:=Om
  rw[Bl l i hi]
  simp only
  rw[List.foldl_append,Ys l hn c i Om,cA,List.foldl_nil]
  have hw:=Po (hn l[i] (aE hi))
  have hd:(oO l[i]).length=dQ l[i].ty:=by unfold oO;rw[aO];simp;omega
  obtain⟨D,hD⟩:=Ex ((fU (l.take i)).2.length)
  rw[aD,hd,←hD]
  show Ob.take c (D:Nat) ⟨l[i].name,2,l[i].static,(D:Nat),(dQ l[i].ty:Nat),dV l[i].ty,0⟩=_
  unfold Ob.take
  simp only
  rw[if_neg Om,if_neg Om,if_neg Om]
  simp
theorem zt {m:Mad} {n:Nat} {ss:List lF} (h:SyI m m.bodies.length n ss) (hn:∀g∈m.globals,sI g.ty=true):ss.foldl NT (some (0,0))=some (((n:Nat):Int),(((fS m).length:Nat):Int)):=by have h1:(ss.take m.bodies.length).foldl NT (some (0,0))=some (((n:Nat):Int),(0:Int)):=h.go;(have h2:ss.drop m.bodies.length=(fU m.globals).1++m.outs.map kL:=by(have e:(fO m).drop m.bodies.length=(fU m.globals).1++m.outs.map kL:=by unfold fO;rw[bP];exact List.drop_left' (by rw[aI]));rw[←e];refine List.ext_getElem? fun k=>?_;rw[List.getElem?_drop,List.getElem?_drop];exact h.tl _ Om);rw[←List.take_append_drop m.bodies.length ss,List.foldl_append,h1,h2,List.foldl_append];have h3:=Ys m.globals hn (n:Nat) m.globals.length (aA _);rw[List.take_length]at h3;rw[h3];exact CB _ _ _
theorem JB {m:Mad} (h:6000<Rb m):Jz m=true:=by
 have e:∀l:List Ord,qU l=30*uJ l:=by
  intro l
  unfold qU uJ
  induction l with
  |nil=>rfl
  |cons x l ih=>rw[bC,bC,List.sum_cons,List.sum_cons,ih];omega
 have e2:∀l:List oJ,(l.map fun b=>30*b.regs.toNat+qU b.code).sum=30*(l.map Di).sum:=by
  intro l
  induction l with
  |nil=>rfl
  |cons x l ih=>rw[bC,bC,List.sum_cons,List.sum_cons,ih,e];unfold Di;omega
 unfold Rb at h;rw[e2]at h;unfold Jz sU;rw[List.take_length];exact decide_eq_true Om
theorem X2 {m:Mad} {cs:List Int} {ss:List lF} {rs:List uN} (hu:GoodU ss.length cs rs) (hs:SyI m m.bodies.length cs.length ss) (hf:mT m=true) (By:m.bodies.length≤40∧m.globals.length≤40∧m.outs.length≤40)
 (Vc:∀s∈fO m,qR s.sign.data.toList=true):El ⟨cs,fS m,ss,rs⟩=true:=by obtain⟨hb,hg,ho,fG,gZ⟩:=vT hf;(have hk:∀s∈ss,∃s'∈fO m,iC s'=iC s:=fun s D3=>by have:iC s∈ss.map iC:=List.mem_map_of_mem D3;rw[hs.key]at this;obtain⟨s',h1,h2⟩:=List.mem_map.1 this;exact⟨s',h1,h2⟩);(have UL:names ss=m.names.map fun s=>s.data.toList:=by rw[←uY,List.map_map];(have e:∀l:List lF,names l=(l.map iC).map fun k=>k.1.data.toList:=fun l=>by unfold names;rw[List.map_map];rfl);rw[e,hs.key,←e];rfl);(have hgo:gX [] 0 0 ss=some (((cs.length:Nat):Int),(((fS m).length:Nat):Int)):=by rw[Pc ss [] 0 0 (fun s D3=>?_) (by rw[bJ,UL];exact gZ)];(·exact zt hs fun g FO=>Ld (hg g FO));(·obtain⟨s',h1,h2⟩:=hk s D3;have e1:s'.name=s.name:=congrArg (·.1) h2;have e2:s'.sign=s.sign:=congrArg (·.2.2.2) h2;refine⟨?_,by rw[←e2];exact Vc s' h1⟩;rw[←e1];(have:s'.name∈m.names:=by rw[←uY];exact List.mem_map_of_mem h1);exact fG _ this));(have lX:ss.length≤120:=by rw[hs.len,pB];omega);(have Qq:(fS m).length≤80:=by have:=Ij m.globals 40 By.2.1;unfold fS;omega);have Tl:=hu.rl;have gQ:=hu.cl;unfold El;have Yb:N2 ⟨cs,fS m,ss,rs⟩:=⟨gQ,by show(fS m).length≤16000;omega,by show ss.length≤400;omega,by show rs.length≤6000;omega⟩;rw[decide_eq_true Yb];simp only[Bool.true_and];rw[hgo];simp only[beq_self_eq_true,Bool.true_and];exact o5 hu
def Pr (l:List UInt8):Prop:=∀c∈l,32≤(c.toNat:Int)∧(c.toNat:Int)≤126
theorem Pr.app {a b:List UInt8} (h:Pr a) (k:Pr b):Pr (a++b):=fun c hc=>(List.mem_append.1 hc).elim (h c) (k c)
theorem Pr.nil:Pr []:=fun c hc=>by cases hc
theorem un (h:nW s=true):Pr s.data.toList:=by unfold nW kI at h;simp only[aV,cJ,decide_eq_true_eq]at h;intro c hc;obtain⟨j,hj,rfl⟩:=aQ hc;have h2:=h.1.2 j (List.mem_range.2 hj);(have e:s.data.toList.getD j 0=s.data.toList[j]:=by rw[aN,aB hj];rfl);unfold nameAt at h2;split at h2;(·rename_i h0;subst h0;rw[e]at h2;unfold hO at h2;simp only[Bool.or_eq_true,aV,decide_eq_true_eq]at h2;omega);(·rw[e]at h2;unfold nP hO nL at h2;simp only[Bool.or_eq_true,aV,decide_eq_true_eq,beq_iff_eq]at h2;omega)
theorem Pk:∀(xs:List (List UInt8)) (ns:List ByteArray),(∀x∈xs,Pr x)→(∀n∈ns,Pr n.data.toList)→Pr (eJ xs ns)
 |[],_,_,_=>by rw[eJ];exact .nil;simp
 |_::_,[],_,_=>by rw[eJ];exact .nil;simp
 |x::xs,n::ns,h1,h2=>by
  rw[eJ]
  exact((((h1 x (aU ..)).app (by unfold Pr;decide)).app (h2 n (aU ..))).app (by unfold Pr;decide)).app (Pk xs ns (fun y hy=>h1 y (aP _ hy)) (fun y hy=>h2 y (aP _ hy)))
theorem Pj:∀(b:Bool) (xs:List (List UInt8)),(∀x∈xs,Pr x)→Pr (dZ b xs)
 |_,[],_=>by rw[dZ];exact .nil
 |b,x::xs,h=>by
  rw[dZ]
  refine Pr.app ?_ (Pj false xs fun y hy=>h y (aP _ hy))
  have hx:=h x (aU ..)
  cases b
  ·exact Pr.app (a:=[44]) (by unfold Pr;decide) hx
  ·exact hx
theorem Sp:∀(d:Nat) (t:T),fH d t=true→Pr (dN t)
 |0,t,h=>by simp[fH]at h
 |d+1,t,h=>by
  have hm:=iL h
  have hp:∀x∈t.parts.map dN,Pr x:=fun x hx=>by
   obtain⟨p,hp,rfl⟩:=List.mem_map.1 hx
   exact Sp d p (hm.parts p hp)
  have hk:=hm.kind
  by_cases h1:t.kind=1
  ·rw[qZ h1];unfold Pr;decide
  ·by_cases h2:t.kind=2
   ·rw[qY h2];unfold Pr;decide
   ·by_cases h3:t.kind=3
    ·obtain⟨-,s1,-,-,-,s2,-,-⟩:=hm.struct h3
     rw[qX h3]
     exact((((show Pr mA by unfold Pr;decide).app (un s1)).app (by unfold Pr;decide)).app (Pk _ _ hp fun n hn=>un (s2 n hn))).app (by unfold Pr;decide)
    ·have h4:t.kind=4:=Om
     obtain⟨f1,f2⟩:=hm.fn h4
     rw[Cj h4 f1]
     refine((((show Pr Do by unfold Pr;decide).app (Pj _ _ fun x hx=>hp x (List.mem_of_mem_take hx))).app ?_).app (by unfold Pr;decide)).app (Sp d _ (hm.parts _ (aE _)))
     unfold gI
     split
     ·split<;>(unfold Pr;decide)
     ·exact .nil
theorem d8 {t:T} (h:oM t=true) (hs:(dV t).size≤2000):qR (dV t).data.toList=true:=by
 (have e:(dV t).data.toList=dN t:=by unfold dV Hf;rw[if_pos h]);(have hz:(dV t).data.toList.length=(dV t).size:=by rw[Array.length_toList];rfl);have fM:=zn h;(have ht:Hf t=dN t:=by unfold Hf;rw[if_pos h]);rw[ht]at fM;have hp:=Sp 4 t h;rw[e]at hz⊢;unfold qR
 have h1:1≤(dN t).length:=by
  cases hh:dN t with
  |nil=>exact absurd hh fM
  |cons x l=>simp
 rw[decide_eq_true h1,decide_eq_true (by omega:(dN t).length≤2000)];simp only[Bool.true_and,cJ];intro j hj;have hj2:=List.mem_range.1 hj;(have e2:(dN t).getD j 0=(dN t)[j]:=by rw[aN,aB hj2];rfl);obtain⟨p1,p2⟩:=hp _ (aE hj2);unfold qL;rw[e2,decide_eq_true p1,decide_eq_true p2];rfl
theorem il {m:Mad} (hm:∀x∈things m,oM x.2.1=true) (hs:∀s∈fO m,s.sign.size≤2000):∀s∈fO m,qR s.sign.data.toList=true:=by
 have Vc:∀s∈fO m,∃x∈things m,s.sign=dV x.2.1:=by
  have e:(fO m).map (·.sign)=(things m).map fun x=>dV x.2.1:=by
   unfold fO things
   have eg:∀l:List Af,(fU l).1.map (·.sign)=l.map fun g=>dV g.ty:=by
    have h:∀(l:List Af) (a:List lF×List Int),(l.foldl (fun a g=>(a.1++[(⟨g.name,2,g.static,(a.2.length:Nat),(dQ g.ty:Nat),dV g.ty,0⟩:lF)],a.2++oO g)) a).1.map (·.sign)=a.1.map (·.sign)++l.map fun g=>dV g.ty:=by
     intro l
     induction l with
     |nil=>intro a;simp
     |cons x l ih=>intro a;rw[cA,ih];simp
    intro l;unfold fU;rw[h];simp
   rw[aS,aS,eg,aS,aS,List.map_map,List.map_map,List.map_map,List.map_map,List.map_map];rfl
  intro s D3;have h1:s.sign∈(fO m).map (·.sign):=List.mem_map_of_mem D3;rw[e]at h1;obtain⟨x,hx,h2⟩:=List.mem_map.1 h1;exact⟨x,hx,h2.symm⟩
 intro s D3;obtain⟨x,hx,e⟩:=Vc s D3;have:=hs s D3;rw[e]at this⊢;exact d8 (hm x hx) this
theorem I8 (g j:Nat):(⟨g,0,none⟩:Addr).add j=⟨g,j,none⟩:=by simp[Addr.add];omega
theorem Ph {α:Type} (cells:α→List Value) (sz:Nat) (gO:∀s,(cells s).length=sz) {n c:Nat} {l:List α} (hn:l.length=n) (h:w.ownsRow b e sz (cT p n c) n (l.flatMap cells)):RowsAt w p sz (l.map cells):=by
 have dH:=h.lt;have hc:=fun g=>h.cells (g:=g);rcases h.2 with⟨e,h0⟩|⟨g,gN,mU,e,_⟩;(·exact .inl (by rw[aI];omega))
 ·injection e with e1 e2 e3;subst e1;refine .inr ⟨g,0,rfl,(dH g rfl).2,fun j hj=>?_⟩;intro i u hu;rw[aI]at hj;rw[cH]at hu;(have hi:i<sz:=by have:=(List.getElem?_eq_some_iff.1 hu).1;rw[gO]at this;exact this)
  have key:∀(L:List α) (j:Nat) (hj:j<L.length),(L.flatMap cells)[j*sz+i]? =(cells L[j])[i]?:=by
   intro L
   induction L with
   |nil=>intro j hj;simp at hj
   |cons a L ih=>
    intro j hj
    rw[cL]
    cases j with
    |zero=>
     rw[Nat.zero_mul,Nat.zero_add,List.getElem?_append_left (by rw[gO];exact hi)]
     rfl
    |succ j=>
     rw[bD (by rw[gO,Nat.succ_mul];omega),gO,show(j+1)*sz+i-sz=j*sz+i by rw[Nat.succ_mul];omega,ih j (by simpa using hj)]
     rfl
  have:=hc g rfl (j*sz+i) u (by rw[key l j hj];exact hu);rw[I8]at this;rw[Nat.zero_add];exact this
theorem Jw {α β:Type} (f:α→β) (l:List α):l.map f=l.flatMap fun x=>[f x]:=by
 induction l with
  |nil=>rfl
  |cons x l ih=>rw[bC,cL,ih];rfl
theorem Y3 (m:Mad):In32 (fS m):=by
 have h:∀x∈fS m,-2147483648≤x∧x≤2147483647:=by
  have h1:∀(l:List Af) (a:List lF×List Int),(∀x∈a.2,-2147483648≤x∧x≤2147483647)→∀x∈(l.foldl (fun a g=>(a.1++[(⟨g.name,2,g.static,(a.2.length:Nat),(dQ g.ty:Nat),dV g.ty,0⟩:lF)],a.2++oO g)) a).2,-2147483648≤x∧x≤2147483647:=by
   intro l
   induction l with
   |nil=>intro a h;exact h
   |cons y l ih=>
    intro a h
    rw[cA]
    refine ih _ fun x hx=>?_
    rcases List.mem_append.1 hx with hx|hx
    ·exact h x hx
    ·have:=List.mem_of_mem_take hx
     simp only[bF,aZ,or_false]at this
     rcases this with rfl|rfl<;>(unfold wrap32;omega)
  exact h1 m.globals ([],[]) (fun x hx=>by cases hx)
 intro j;by_cases hj:j<(fS m).length;(·rw[aN,aB hj];exact h _ (aE hj));(·rw[aN,List.getElem?_eq_none Om];simp)
theorem X1 {m:Mad} (h:DI m B w' v) (hf:mT m=true) (By:m.bodies.length≤40∧m.globals.length≤40∧m.outs.length≤40) (Xx:∀x∈things m,oM x.2.1=true):
 ∃(cs:List Int) (ss:List lF) (rs:List uN) (pc pd ps pr:Option Addr) (kc kd ks kr:Nat),v=jk pc pd ps pr cs.length kc (fS m).length kd ss.length ks rs.length kr∧
  ObjAt w' pc pd ps pr cs.length (fS m).length ss.length rs.length ⟨cs,fS m,ss,rs⟩∧N2 ⟨cs,fS m,ss,rs⟩∧El ⟨cs,fS m,ss,rs⟩=true∧ss.length=m.bodies.length+m.globals.length+m.outs.length∧ss.map iC=(fO m).map iC∧(fS m).length≤80:=by obtain⟨cs,ss,rs,pc,pd,ps,pr,kc,kd,ks,kr,hv,oc,od,os,or_,hu,hs,Vc⟩:=h.ex;have Nt:=X2 hu hs hf By (il Xx Vc);(have lX:ss.length=m.bodies.length+m.globals.length+m.outs.length:=by rw[hs.len,pB]);(have Qq:(fS m).length≤80:=by have:=Ij m.globals 40 By.2.1;unfold fS;omega);have Yb:N2 ⟨cs,fS m,ss,rs⟩:=⟨hu.cl,by show(fS m).length≤16000;omega,by show ss.length≤400;omega,by show rs.length≤6000;have:=hu.rl;have:=hu.cl;omega⟩;have gQ:=hu.cl;have Tl:=hu.rl;have e1:Ja cs=cs.flatMap fun x=>[bL .u32 x]:=Jw _ cs;have e2:pG (fS m)=(fS m).flatMap fun x=>[bL .i32 x]:=Jw _ _;rw[e1]at oc;rw[e2]at od;refine⟨cs,ss,rs,pc,pd,ps,pr,kc,kd,ks,kr,hv,⟨rfl,rfl,rfl,rfl,by omega,by omega,by omega,by omega,Eh oc,Eh od,Ph pU 7 (fun _=>rfl) rfl os,Ph mR 3 (fun _=>rfl) rfl or_,fun j=>?_,Y3 m,hs.inn,fun x hx=>?_⟩,Yb,Nt,lX,hs.key,Qq⟩;(·by_cases hj:j<cs.length;(·show 0≤cs.getD j 0∧cs.getD j 0≤4294967295;rw[aN,aB hj];exact hu.u32 _ (aE hj));(·show 0≤cs.getD j 0∧cs.getD j 0≤4294967295;rw[aN,List.getElem?_eq_none Om];simp));(·have a1:=hu.ok x hx;exact⟨⟨by omega,by omega⟩,⟨by omega,by omega⟩,⟨by omega,by omega⟩⟩)
end
end Go.Proofs.YtfbmaffacikgbaaGreat
