/- A part of the proof of EmitSays. -/
import Derived.Test.YtfbmaffacikgbaaGreatA22
import Derived.Test.YtfbmaffacikgbaaGreatA23
set_option maxRecDepth 100000
set_option maxHeartbeats 4000000
set_option linter.unusedVariables false
set_option linter.unusedSimpArgs false
open Go renaming Calls→O
open Go.Proofs.Tryz renaming prog→U
open Nat renaming le_refl→aA,lt_of_lt_of_le→aF,le_trans→aG,zero_le→aJ
open List renaming getElem?_eq_getElem→aB,length_append→aD,getElem_mem→aE,length_map→aI,mem_singleton→aK,take_succ_eq_append_getElem→aL,length_cons→aM,length_take→aO,mem_cons_of_mem→aP,map_append→aS,length_nil→aT,mem_cons_self→aU,take_of_length_le→aY,not_mem_nil→aZ,getElem?_append_right→bD,mem_cons→bF,getElem?_map→bH,append_assoc→bP,set_cons_succ→bS,setIfInBounds_toArray→bX,mem_singleton_self→bY,set_cons_zero→bZ,foldl_cons→cA,replicate→cC,getElem_map→cH,map_nil→cM,length_set→cQ
open Go.RowKit.Below renaming refl→aC,heap_setCell→bV
open Go.World renaming alloc_heap_new→aH,ownsRow_nil→bE,frozen?→bN,cell?_of_block→bT,setCell→cN
open Go.Lib renaming alloc_old→aR
open Bool renaming and_eq_true→aV
open Go.Value renaming slice→aW,int→bL,string→cE
open Go.IntWalk renaming i64_in→aX
open Go.Proofs.Tryz renaming underlying3→bG,underlying9→bW
open And renaming intro→bM
open Go.Value renaming int→cS
open Go.Value renaming slice→cT
open Go.Value renaming string→cU
open Go.Value renaming bool→cV
open Go.Value renaming pointer→cW
open Go.Value renaming agg→cX
open Go.Obj renaming cells→cY
open Go.Ending renaming returned→cZ
open Go.IntKind renaming i64→dA
namespace Go.Proofs.YtfbmaffacikgbaaGreat
variable {w W w' w2:World} {k size pg b:Nat} {v:Value} {e:TypeId} {l:List Int} {a:Act} {pc pd pr ps:Option Addr} {cs:Array Value} {s:ByteArray} {mx x:Int}
section
open Go.RowKit Go.Shelf Ob Ty
theorem LN (l:List Af):(fU l).1.map iC=l.map fun g=>(g.name,2,g.static,dV g.ty):=by
 have h:∀(l:List Af) (a:List lF×List Int),(l.foldl (fun a g=>(a.1++[(⟨g.name,2,g.static,(a.2.length:Nat),(dQ g.ty:Nat),dV g.ty,0⟩:lF)],a.2++oO g)) a).1.map iC=a.1.map iC++l.map fun g=>(g.name,2,g.static,dV g.ty):=by
  intro l
  induction l with
  |nil=>intro a;simp
  |cons x l ih=>intro a;rw[cA,ih];simp[iC]
 unfold fU;rw[h];simp
theorem gz (m:Mad) {q:Nat} (h:q<m.globals.length):∃s,(fO m)[m.bodies.length+q]? =some s∧iC s=(m.globals[q].name,2,m.globals[q].static,dV m.globals[q].ty):=by(have hq:q<(fU m.globals).1.length:=by rw[uG];exact h);refine⟨(fU m.globals).1[q],?_,?_⟩;(·unfold fO;rw[bP,bD (by rw[aI];omega),aI,show m.bodies.length+q-m.bodies.length=q by omega,List.getElem?_append_left hq,aB hq]);(·have e:=LN m.globals;(have h1:((fU m.globals).1.map iC)[q]? =some (iC (fU m.globals).1[q]):=by rw[bH,aB hq];rfl);rw[e,bH,aB h]at h1;injection h1 with h1;exact h1.symm)
theorem GQ {g:Af} (h:sI g.ty=true):RT g.ty.kind g.value=oO g:=by unfold sI at h;simp only[aV,Bool.or_eq_true,decide_eq_true_eq]at h;obtain⟨h1,h2⟩:=h;unfold RT oO;rw[yW h1];rcases h2 with h2|h2;(·rw[if_pos h2,lL Om Om];rfl);(·rw[if_neg Om,nB h2];rfl)
theorem gy (m:Mad) {q:Nat} (h:q<m.outs.length):(fO m)[m.bodies.length+m.globals.length+q]? =some (kL m.outs[q]):=by unfold fO;(have hl:(m.bodies.map sB++(fU m.globals).1).length=m.bodies.length+m.globals.length:=by rw[aD,aI,uG]);rw[bD (by rw[hl];omega),hl,show m.bodies.length+m.globals.length+q-(m.bodies.length+m.globals.length)=q by omega,bH,aB h];rfl
theorem Ud {W:World} (m:Mad) (v:MV) (mx:Int) (hm:MadAt W m v) (hmx:Mx mx W) (h0:0<W.heap.size):
 O U 3 #[lR v] W (RB W (cV true)):=by
 have HHV:Hid (∀w bo k,dG W w→w.heap[bo]? =some (cY #[cT v.pb v.nb v.kb,cT v.pg v.ng v.kg,cT v.po v.no v.ko] 26 (0,0))→O U 4 #[cT (some ⟨bo,0,none⟩) 1 k] w fun x w'=>x=cZ (cV (rX m))∧w=w'):=Ih fun w bo k h hb=>E5 m v hm h bo k hb;(have HH:Hid (rX m=false→(v.nb≤40∧v.ng≤40∧v.no≤40)∧∀b∈m.bodies,b.regs≤200∧b.code.length≤200):=Ih fun h=>by have:=Gq h;rw[hm.bl,hm.gl,hm.ol]at this;exact this);have RD:Hid (rX m=false→∀w,dG W w→O U 5 #[lR v] w fun x w'=>DH m w x w'):=Ih fun h w hb=>X0 gw F9 m v mx (hm.below hb) (hmx.below hb) (aF h0 hb.size) (HH.out h).1 (HH.out h).2;have HFT:Hid (rX m=false→∀w,dG W w→O U 6 #[lR v] w (RB w (cV (mT m)))):=Ih fun h w hb=>m9 m v hm hb (HH.out h).1;have ac:Hid (rX m=false→mT m=true→∀w,dG W w→O U 7 #[lR v] w (RB w (cV (Jz m)))):=Ih fun h hf w hb=>U8 m v hm hb (fun b oL=>⟨(vT hf).1 b oL,(HH.out h).2 b oL⟩) (Gq h).1.1
 have FU:Hid (mT m=true→gW m=true):=Ih fun h=>by
  cases e:gW m with
  |false=>rw[Li e]at h;cases h
  |true=>rfl
 have HLG:Hid (rX m=false→mT m=true→∀w,dG W w→O U 8 #[lR v] w (RB w (cV (Kc m)))):=Ih fun h hf w hb=>X3 m v hm hb (HH.out h).1 (rO (FU.out hf));obtain⟨wV,dY,kb,yY,fW,kg,yX,iK,ko⟩:=v;have HM:=Ih hm;unfold lR at RD HFT ac HLG⊢;simp only at HHV HH RD HFT ac HLG⊢;obtain⟨hv,hhv⟩:∃hv,hv=rX m:=⟨_,rfl⟩;rw[←hhv]at HHV HH RD HFT ac HLG;have HV:=Ih hhv;clear hm hmx h0 hhv;go_in;obtain⟨wA,gA⟩:∃wA,wA=(W.alloc (cY #[cT wV dY kb,cT yY fW kg,cT yX iK ko] 26)).alloc (cY #[cT wV dY kb,cT yY fW kg,cT yX iK ko] 26):=⟨_,rfl⟩;obtain⟨b1,kF⟩:∃b1,b1=W.heap.size:=⟨_,rfl⟩;have iT:Hid (wA.heap[b1]? =some (cY #[cT wV dY kb,cT yY fW kg,cT yX iK ko] 26 (0,0))):=Ih (by rw[gA,kF];exact dX _ (heap_alloc_new W _));have jQ:Hid (wA.heap[b1+1]? =some (cY #[cT wV dY kb,cT yY fW kg,cT yX iK ko] 26 (0,0))):=Ih (by rw[gA,kF];exact dF W _ _);have mX:Hid (dG W wA):=Ih (by rw[gA];exact((aC _ _).alloc (aA _) _).alloc Si _);have uO:=Ih gA;have lK:=Ih kF;clear gA kF;go_upto_region 2 with fail;rw[←uO.out];(try rw[←lK.out]);clear uO lK;go_wp2_with fail;refine(HHV.out wA (b1+1) _ mX.out jQ.out).mono ?_;rintro y w2 ⟨rfl,rfl⟩;cases hv;(·obtain⟨By,yJ⟩:=HH.out rfl;have HMK2:=Ih (RD.out rfl);have EK:=Ih (HFT.out rfl);have YN:=Ih (ac.out rfl);have YU:=Ih (HLG.out rfl);have yu:=Ih yJ;obtain⟨Yh,BD,AL⟩:=By;clear HH HHV RD HFT ac HLG jQ yJ;obtain⟨iF,qJ,qI,xI⟩:=iH iT.out;have l1:=dB iT.out;go_wp2_with fail;clear iF qJ qI xI l1;refine(HMK2.out wA mX.out).mono ?_;rintro y wM ⟨hbM,Ql⟩;have Oh:=Ih (Kb hbM iT.out);have bw:Hid (dG W wM):=Ih (Tm mX.out hbM);clear iT HMK2;rcases Ql with⟨hf,rfl⟩|⟨hf,rfl,Hk⟩|⟨hf,vO,rfl,uB⟩;(·clear hbM;rw[hf]at EK;have Z2s:=0;exact V52);(·clear hbM;rw[hf]at EK;have HMN3:=Ih (YN.out hf);have HLG3:=Ih (YU.out hf);(have HLM:Hid (Jz m=false→Kc m=true):=Ih fun h=>by rcases Hk with h2|h2;(·exact JD h2);(·rw[JB h2]at h;cases h));obtain⟨qm,hqm⟩:∃qm,qm=Jz m:=⟨_,rfl⟩;obtain⟨ql,zU⟩:∃ql,ql=Kc m:=⟨_,rfl⟩;rw[←hqm]at HMN3 HLM;rw[←zU]at HLG3 HLM;have Z2t:=0;exact V52);(·rw[hf]at EK;obtain⟨cs,ss,rs,pc,pd,ps,pr,kc,kd,ks,kr,rfl,UA,Yb,Nt,lX,yE,Qq⟩:=X1 uB hf (by rw[HM.out.bl,HM.out.gl,HM.out.ol];exact⟨Yh,BD,AL⟩) (rO (FU.out hf));rw[HM.out.bl,HM.out.gl,HM.out.ol]at lX;simp only at lX;have dr:=Ih (rO (FU.out hf));have HFP:=Ih (vT hf);have HKEY:=Ih yE;have HOBJ:=Ih UA;(have HMA:Hid (∀w',dG wM w'→O U 9 #[jk pc pd ps pr cs.length kc (fS m).length kd ss.length ks rs.length kr] w' (RB w' (cV true))):=Ih fun w' h=>by rw[←Nt];exact m6 _ _ _ _ _ _ _ _ _ _ _ _ _ _ (UA.below h) Yb);have Mg:=Ih lX;unfold jk at HMA⊢;obtain⟨nC,hnC⟩:∃x,x=cs.length:=⟨_,rfl⟩;obtain⟨nD,hnD⟩:∃x,x=(fS m).length:=⟨_,rfl⟩;obtain⟨nR,hnR⟩:∃x,x=rs.length:=⟨_,rfl⟩;rw[←hnC,←hnD,←hnR,lX]at HMA;rw[←hnC,←hnD,←hnR,lX];rw[←hnD]at Qq;have aa:=Ih hnD;(have gQ:nC≤6000:=by rw[hnC];exact Yb.1);(have Tl:nR≤6000:=by rw[hnR];exact Yb.2.2.2);clear hf uB UA Yb Nt lX yE hnC hnD hnR YN YU hbM;obtain⟨wB,lD⟩:∃wB,wB=wM.alloc (cY #[cT pc nC kc,cT pd nD kd,cT ps (dY+fW+iK) ks,cT pr nR kr] 34):=⟨_,rfl⟩;obtain⟨b4,jO⟩:∃b4,b4=wM.heap.size:=⟨_,rfl⟩;(have kO:dG wM wB:=by rw[lD];exact(aC _ _).alloc (aA _) _);have Io:Hid (wB.heap[b4]? =some (cY #[cT pc nC kc,cT pd nD kd,cT ps (dY+fW+iK) ks,cT pr nR kr] 34 (0,0))):=Ih (by rw[lD,jO];exact heap_alloc_new wM _);have Ho:=Ih (Kb kO Oh.out);have Fq:Hid (dG W wB):=Ih (Tm bw.out kO);have GE:Hid (dG wM wB):=Ih kO;have vX:=Ih lD;have nT:=Ih jO;clear lD jO kO;have Z68:=0;exact V125));(·go_wp2_with fail;go_ret;exact⟨rfl,mX.out⟩)
end
end Go.Proofs.YtfbmaffacikgbaaGreat
