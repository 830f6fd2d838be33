/- A part of the proof of EmitSays. -/
import Derived.Test.YtfbmaffacikgbaaGreatA13
set_option maxRecDepth 100000
set_option maxHeartbeats 4000000
set_option linter.unusedVariables false
set_option linter.unusedSimpArgs false
open Go renaming Calls→O
open Go.Proofs.Tryz renaming prog→U
open Nat renaming le_refl→aA,lt_of_lt_of_le→aF,le_trans→aG,zero_le→aJ
open List renaming getElem?_eq_getElem→aB,length_append→aD,getElem_mem→aE,length_map→aI,mem_singleton→aK,take_succ_eq_append_getElem→aL,length_cons→aM,getD_eq_getElem?_getD→aN,length_take→aO,mem_cons_of_mem→aP,map_append→aS,length_nil→aT,mem_cons_self→aU,take_of_length_le→aY,not_mem_nil→aZ,map_cons→bC,getElem?_append_right→bD,mem_cons→bF,getElem?_map→bH,append_assoc→bP,set_cons_succ→bS,setIfInBounds_toArray→bX,mem_singleton_self→bY,set_cons_zero→bZ,replicate→cC,flatMap_cons→cL,map_nil→cM,length_set→cQ
open Go.RowKit.Below renaming refl→aC,heap_setCell→bV
open Go.World renaming alloc_heap_new→aH,ownsRow_nil→bE,frozen?→bN,cell?_of_block→bT,setCell→cN
open Go.Lib renaming alloc_old→aR
open Go.Value renaming slice→aW,int→bL,string→cE
open Go.IntWalk renaming i64_in→aX
open Go.Proofs.Tryz renaming underlying3→bG,underlying9→bW
open And renaming intro→bM
open Go.Value renaming int→cS
open Go.Value renaming slice→cT
open Go.Value renaming string→cU
open Go.Value renaming bool→cV
open Go.Value renaming pointer→cW
open Go.Value renaming agg→cX
open Go.Obj renaming cells→cY
open Go.Ending renaming returned→cZ
open Go.IntKind renaming i64→dA
namespace Go.Proofs.YtfbmaffacikgbaaGreat
variable {w W w' w1 wr w2 wx:World} {B r k ns i base size d n' k' co bg b:Nat} {v va vj v1 v0 v2 v3 v4 v5 v6 vc vr v7 v9 vp v':Value} {e:TypeId} {chg:List TypeId} {xs:List Value} {l:List Int} {a:Act} {p pc pd ps:Option Addr} {bs:List Nat} {s:ByteArray} {x:Int}
section
open Go.RowKit Go.Shelf Ob Ty
def sE (E:UE) (ns n r k k':Nat) (v:Value) (w wr:World) (x:Ending) (w':World):Prop:=
 (6000<n+(k+k')∧x=uV∧Below E.B w w')∨(x=cZ v∧Far E ns n r (k+k') w w'∧EFr E.B eU wr w')
section
variable {W w wr:World} {E:UE} {G:GN} {va vj:Value} {ns n r k:Nat}
theorem GenAt.load (h:GenAt W w E G va vj) (f:Far E ns n r k w wr) (a:Nat) (i:Int) (ha:a≤15) (hi:0≤i∧i≤30000):O U 87 #[cW (some ⟨G.bg,0,none⟩),cS dA (a:Nat),cS dA i] wr (sE E ns n r k 1 (.tuple #[]) w wr):=
 f.call h.sz fun n' r' e=>Xj (h.u f.fr) e a i ha hi
theorem GenAt.store (h:GenAt W w E G va vj) (f:Far E ns n r k w wr) (a:Nat) (i:Int) (ha:a≤15) (hi:0≤i∧i≤30000):O U 71 #[cW (some ⟨G.bg,0,none⟩),cS dA (a:Nat),cS dA i] wr (sE E ns n r k 1 (.tuple #[]) w wr):=
 f.call h.sz fun n' r' e=>Pd (h.u f.fr) e a i ha hi
theorem GenAt.put (h:GenAt W w E G va vj) (f:Far E ns n r k w wr) (op a b c i:Int) (he:Cp.mayE op a b c i=0):O U 70 #[cW (some ⟨E.bu,0,none⟩),cS dA op,cS dA a,cS dA b,cS dA c,cS dA i] wr (sE E ns n r k 1 (.tuple #[]) w wr):=
 f.call h.sz fun n' r' e=>tS e op a b c i he
theorem GenAt.read (h:GenAt W w E G va vj) (sm:xK G) (f:Far E ns n r k w wr) (q sc:Nat) (hq:q<G.os.length) (M2:sc≤15):O U 82 #[cW (some ⟨G.bg,0,none⟩),cS dA (q:Nat),cS dA (sc:Nat)] wr (sE E ns n r k 1 (cS dA (lO (fQ G q) sc:Nat)) w wr):=
 f.call h.sz fun n' r' e=>S2 (h.u f.fr) sm e q sc hq M2
theorem GenAt.keep (h:GenAt W w E G va vj) (sm:xK G) (ok:∀l∈G.os,l.1=false→l.2<12) (f:Far E ns n r k w wr) (q a:Nat) (hq:q<G.os.length) (ha:a≤15):O U 81 #[cW (some ⟨G.bg,0,none⟩),cS dA (q:Nat),cS dA (a:Nat)] wr (sE E ns n r k 1 (.tuple #[]) w wr):=
 f.call h.sz fun n' r' e=>X9 (h.u f.fr) sm ok e q a hq ha
theorem GenAt.constant (h:GenAt W w E G va vj) (f:Far E ns n r k w wr) (a:Nat) (ha:a≤15) (i:Int):O U 80 #[cW (some ⟨G.bg,0,none⟩),cS dA (a:Nat),cS .i32 i] wr (sE E ns n r k 2 (.tuple #[]) w wr):=
 f.call h.sz fun n' r' e=>Uh (h.u f.fr) e a ha i
end
theorem zq (out:List Mv) (j:Nat) (h:j<out.length):((out.take (j+1)).map mI).sum=((out.take j).map mI).sum+mI out[j]:=by rw[aL h,aS,List.sum_append];simp
theorem Cl (out:List Mv) (j:Nat):((out.take j).map mI).sum≤(out.map mI).sum:=by
 induction out generalizing j with
  |nil=>simp
  |cons x l ih=>
   cases j with
   |zero=>simp
   |succ j=>rw[List.take_succ_cons,bC,bC,List.sum_cons,List.sum_cons];have:=ih j;omega
theorem uF {E:UE} {G:GN} {n:Nat} (h:GenAt W w E G va vj) (he:Em E ns n r w) (l:List Mv) (p:Option Addr) (m k:Nat) (hl:l.length=m) (Ql:m≤k) (hk:k≤9223372036854775807) (jU:MvsAt w p l) (hm:m≤100) (Bv:∀m∈l,IsPl m.1∧IsPl m.2) (gZ:(l.map (·.2)).Nodup) (Tj:∀m∈l,m.1≠(false,12)∧m.2≠(false,12)):
 O U 76 #[cW (some ⟨G.bg,0,none⟩),cT p m k] w fun x w'=>Step E ns n r (3*m) (.tuple #[]) w x w':=by
 have HR:=Ih (IE IsPl l p m k 12 w hl Ql hk jU hm Bv gZ Tj Om Bv ⟨fun h=>(by cases h),fun _=>De⟩);have HG:=Ih h;have HF:=Ih (Far.refl he);have hB:=h.sz;have HC:Hid (∀w' k,Far E ns n r k w w'→w'.cell? ⟨G.bg,0,none⟩=some (cW (some ⟨E.bu,0,none⟩))∧G.bg<w'.heap.size):=Ih fun w' k hb=>⟨(h.u hb.fr).cell 0 rfl,dB (h.u hb.fr).box⟩;clear h he hl jU Bv gZ Tj Ql hk;go_in;go_wp2_with fail;refine HR.mono ?_;rintro x w1 ⟨vo,out,rfl,dU,Bv,wl,kN,hb⟩;obtain⟨po,ko,rfl,vP,oE⟩:=dI dU;have qD:=Ih dU;have EG:=Ih Bv;have NF:=Ih wl;have Rq:=Ih (HF.old hb);have cu:w.heap.size≤w1.heap.size:=hb.size;obtain⟨N,hN⟩:=Ex out.length;have HN:=Ih hN;rw[←hN]at kN qD vP⊢;have hN2:N≤200:=Om;clear dU Bv wl hb HR HF hN;go_wp2_with fail;go_loopg[21] N (fun gk v21 wx=>∃j:Nat,j≤N∧gk=N-j∧v21=cS dA j∧Far E ns n r ((out.take j).map mI).sum w wx∧EFr E.B eU w1 wx);(case atStart=>exact⟨0,aJ _,rfl,rfl,by simpa using Rq.out,.refl _ _ _⟩)
 case round=>
  clear Rq;obtain⟨j,hj,hgk,rfl,hf,fI⟩:=hrel;have jJ:=Ih hgk;have HF:=Ih hf;have GL:=Ih fI;clear hgk hf fI;by_cases dH:j<N
  ·(have lA:j<out.length:=by rw[←HN.out];exact dH);have dM:=GL.row qD (by unfold eU;decide);obtain⟨g,gN,hg,sY,sM,-,eS,kE⟩:=eN dM Om;injection hg with e1 e2 e3;subst e1;clear e3 e2;obtain⟨r1,r2,r3,r4⟩:=nQ out j lA;have HJ:=Ih (zq out j lA);have hq:=EG _ (aE lA);obtain⟨x,hx⟩:=Ex (out[j]);rw[←hx]at r1 r2 r3 r4 HJ hq;have c1:=kE _ _ r1;have c2:=kE _ _ r2;have c3:=kE _ _ r3;have c4:=kE _ _ r4;obtain⟨⟨ff,fn⟩,⟨tf,tn⟩⟩:=x;obtain⟨⟨q1,q2⟩,⟨q3,q4⟩⟩:=hq;simp only at c1 c2 c3 c4 q1 q2 q3 q4;have Qn:(j:Int)<N:=Om;have qT:(N:Int)≤ko:=Om;clear dM kE r1 r2 r3 r4 hx lA dH;go_upto_region 6 with fail;obtain⟨WX,wo⟩:=Ex (wr.alloc (cY #[cV ff,cS dA (fn:Nat),cV tf,cS dA (tn:Nat)] 175));obtain⟨b7,Qt⟩:=Ex wr.heap.size;(have fT:WX.heap[b7]? =some (cY #[cV ff,cS dA (fn:Nat),cV tf,cS dA (tn:Nat)] 175 (0,0)):=by rw[wo,Qt];exact heap_alloc_new wr _);rw[←wo,←Qt];(have dJ:dG wr WX:=by rw[wo];exact(aC _ _).alloc (aA _) _);have HFX:=Ih (HF.old dJ);have HFRX:=Ih (GL.trans (.of dJ));clear wo Qt dJ c1 c2 c3 c4 HF GL;go_cut[8,9]from 25 to 28 (fun v8 v9 wx=>∃b8 b9:Nat,v8=cW (some ⟨b8,0,none⟩)∧v9=cW (some ⟨b9,0,none⟩)∧wx.heap[b8]? =some (cY #[cV ff,cS dA (fn:Nat)] 149 (0,0))∧wx.heap[b9]? =some (cY #[cV tf,cS dA (tn:Nat)] 149 (0,0))∧dG WX wx)
   case first=>
    have d0:=Lx fT;have hb7l:=dB fT;go_region_held3 (fun w'=>w'.cell? ⟨b7,0,none⟩=some (cV ff)∧w'.cell? ⟨b7,1,none⟩=some (cS dA (fn:Nat))∧w'.cell? ⟨b7,2,none⟩=some (cV tf)∧w'.cell? ⟨b7,3,none⟩=some (cS dA (tn:Nat))) (go_keep) (fail);(all_goals go_wp2_with fail)
    all_goals
     go_meet;refine⟨_,_,rfl,rfl,?_,?_,(by repeat(first|exact aC _ _|refine Below.drew ?_|refine Below.alloc ?_ Si _))⟩
     all_goals first
      |exact dF WX _ _
      |exact dX _ (heap_alloc_new WX _)
   (case rest=>obtain⟨b8,b9,rfl,rfl,h8,h9,hb⟩:=hcut;have Ae:=Ih h8;have Mr:=Ih h9;have Uv:=Ih (HFX.old hb);have Fo:=Ih (HFRX.trans (.of hb));clear h8 h9 hb fT HFX HFRX;have y0:=xJ Ae;have z0:=xJ Mr;have l8:=dB Ae;have l9:=dB Mr;have Bp:Hid (((out.take j).map mI).sum+mI ((ff,fn),(tf,tn))≤3*m):=Ih (by rw[←HJ.out];exact aG (Cl _ _) NF);obtain⟨mc,hmc⟩:=Ex (mI ((ff,fn),(tf,tn)));rw[←hmc]at Bp HJ;have YP:=Ih hmc;clear hmc;cases ff;(·cases tf;(·have HJC:Hid (mc=1):=Ih YP;have VN:=q2 rfl;have TJ:=q4 rfl;have c0:=(HC _ _ Uv).1;have VK:=(HC _ _ Uv).2;go_wp2_with fail;refine eQ 8 eE Kr ?_;have Z1Q:=0;exact V19);(·have HJC:Hid (mc=1):=Ih YP;have VN:=q2 rfl;have TJ:=q3 rfl;go_wp2_with fail;refine(HG.store Uv fn (tn:Nat) Om Om).mono ?_;exact V441));(·cases tf;(·have HJC:Hid (mc=1):=Ih YP;have VN:=q1 rfl;have TJ:=q4 rfl;go_wp2_with fail;refine(HG.load Uv tn (fn:Nat) Om Om).mono ?_;exact V441);(·have HJC:Hid (mc=2):=Ih YP;have VN:=q1 rfl;have TJ:=q3 rfl;go_wp2_with fail;refine(HG.load Uv 15 (fn:Nat) Om Om).mono ?_;rintro x w3 (⟨h6,rfl,hb⟩|⟨rfl,hf,fI⟩);(·exact V153);have Iu:=Ih hf;have NB:=Ih (Fo.trans fI);have Ae:=Ih (fI.obj Ae (by unfold eU;decide));have Mr:=Ih (fI.obj Mr (by unfold eU;decide));clear y0 z0 hf fI;have y0:=xJ Ae;have z0:=xJ Mr;go_wp2_with fail;refine(HG.store Iu 15 (tn:Nat) Om Om).mono ?_;rintro x w4 (⟨h6,rfl,hb⟩|⟨rfl,hf,fI⟩);(·exact V153);have Fp:=Ih hf;have HFR4:=Ih (NB.trans fI);clear y0 z0 hf fI;go_wp2_with fail;go_roundg (N-(j+1));(case measure=>have:=jJ.out;omega);(case rel=>exact⟨j+1,by omega,rfl,by go_num,by rw[HJ.out];exact Fp.out.mono (by have:=HJC.out;omega),HFR4.out⟩))))
  (·obtain rfl:N=j:=Om;clear dH;go_wp2_with fail;go_end0;refine(HF.mono (aG (Cl _ _) NF)).done)
structure L3 (G:GN):Prop where
 us:∀x∈G.us,0≤x∧x≤15
 ul:G.us.length≤8
 sv:G.saved≤999
 lk:G.link≤999
theorem Ia {j:Nat} (h:j<l.length):(jR l)[j]? =some (cS dA l[j]):=by unfold jR;rw[bH,aB h];rfl
theorem Eq {E:UE} {G:GN} {n:Nat} (h:GenAt W w E G va vj) (sm:xK G) (gu:L3 G) (he:Em E ns n r w):
 O U 114 #[cW (some ⟨G.bg,0,none⟩)] w fun x w'=>Step E ns n r (G.us.length+2) (.tuple #[]) w x w':=by have HG:=Ih h;have HF:=Ih (Far.refl he);have HU:=Ih gu.us;have Dr:=gu.ul;have hsv:=gu.sv;have Nu:=gu.lk;have gO:=sm.size;obtain⟨pu,ku,D1,vP,oE⟩:=dI h.used;have Bz:=h.cell 29 rfl;rw[D1]at Bz;have eS:=dB h.box;obtain⟨N,hN⟩:=Ex G.us.length;have HN:=Ih hN;rw[←hN]at Bz Dr vP⊢;have HVU:=Ih D1;have iJ:Hid (∀w',EFr E.B eU w w'→w'.cell? ⟨G.bg,0,none⟩=some (cW (some ⟨E.bu,0,none⟩))∧w'.cell? ⟨G.bg,8,none⟩=some (cS dA (G.saved:Nat))∧w'.cell? ⟨G.bg,9,none⟩=some (cS dA G.link)∧w'.cell? ⟨G.bg,10,none⟩=some (cS dA (G.size:Nat))∧G.bg<w'.heap.size):=Ih fun w' f=>⟨(h.u f).cell 0 rfl,(h.u f).cell 8 rfl,(h.u f).cell 9 rfl,(h.u f).cell 10 rfl,dB (h.u f).box⟩;obtain⟨sv,TK⟩:=Ex G.saved;obtain⟨lk,UX⟩:=Ex G.link;obtain⟨sz,ky⟩:=Ex G.size;rw[←TK,←UX,←ky]at iJ;rw[←TK]at hsv;rw[←UX]at Nu;rw[←ky]at gO;clear h he sm gu hN D1 TK UX ky;go_in;go_wp2_with fail;clear Bz;go_loopg[9] N (fun gk v9 wx=>∃j:Nat,j≤N∧gk=N-j∧v9=cS dA j∧Far E ns n r j w wx);(case atStart=>exact⟨0,aJ _,rfl,rfl,HF⟩);(case round=>clear HF;obtain⟨j,hj,hgk,rfl,hf⟩:=hrel;have jJ:=Ih hgk;have HF:=Ih hf;clear hgk hf;obtain⟨c0,c8,c9,iF,eS⟩:=iJ _ HF.fr;by_cases dH:j<N;(·(have lA:j<G.us.length:=by rw[←HN.out];exact dH);obtain⟨g,gN,hg,sY,sM,-,VK,kE⟩:=eN (HG.u HF.fr).used Om;rw[HVU.out]at hg;injection hg with e1 e2 e3;subst e1;clear e3 e2;have c1:=kE _ _ (Ia lA);have hx:=HU _ (aE lA);obtain⟨x,Nl⟩:∃x:Nat,G.us[j]=(x:Int):=⟨G.us[j].toNat,by omega⟩;rw[Nl]at c1 hx;have Qn:(j:Int)<N:=Om;have qT:(N:Int)≤ku:=Om;clear kE Nl lA dH;go_wp2_with fail;refine(HG.load HF x ((sv:Int)+(j:Int)) Om Om).mono ?_;rintro y w2 (⟨h6,rfl,hb⟩|⟨rfl,hf,-⟩);(·exact⟨rfl,.inl ⟨by omega,rfl,hb⟩⟩);(·clear c0 c8 c9 iF;go_wp2_with fail;go_roundg (N-(j+1));(case measure=>have:=jJ.out;omega);(case rel=>exact⟨j+1,by omega,rfl,Gn,hf⟩)));(·obtain rfl:N=j:=Om;clear dH;by_cases Nv:0≤lk;(·go_wp2_with fail;refine(HG.load HF 14 lk Om Om).mono ?_;rintro y w2 (⟨h6,rfl,hb⟩|⟨rfl,hf,-⟩);(·exact⟨rfl,.inl ⟨by omega,rfl,hb⟩⟩);(·have Uv:=Ih hf;clear c0 c8 c9 iF eS hf;obtain⟨c0,c8,c9,iF,eS⟩:=iJ _ Uv.fr;by_cases OM:0<sz;(·have hs0i:(0:Int)<sz:=Om;go_wp2_with fail;refine eQ 9 eE Kr ?_;have Z1R:=0;exact V19);(·obtain rfl:sz=0:=Om;go_wp2_with fail;go_end0;exact(Uv.mono Om).done)));(·by_cases OM:0<sz;(·have hs0i:(0:Int)<sz:=Om;go_wp2_with fail;refine eQ 9 eE Kr ?_;have Z1S:=0;exact V19);(·obtain rfl:sz=0:=Om;go_wp2_with fail;go_end0;exact(HF.mono Om).done))))
def wH (l:List (Nat×Int)):List Value:=l.flatMap fun x=>[cS dA (x.1:Nat),cS dA x.2]
theorem ji (l:List (Nat×Int)) (x:Nat×Int):wH (l++[x])=wH l++[cS dA (x.1:Nat),cS dA x.2]:=by unfold wH;rw[List.flatMap_append];rfl
def JAt (w:World) (E:UE) (r m:Nat) (vj:Value):Prop:=∃js:List (Nat×Int),w.ownsRow E.B 112 2 vj js.length (wH js)∧js.length≤r∧∀x∈js,x.1<r∧0≤x.2∧x.2<m
def lI:List TypeId:=110::112::eU
theorem JAt.u {E:UE} {r' m:Nat} (h:JAt w E r m vj) (f:EFr E.B eU w w') (hr:r≤r'):JAt w' E r' m vj:=by obtain⟨js,h1,h2,h3⟩:=h;exact⟨js,f.row h1 (by unfold eU;decide),by omega,fun x hx=>⟨by have:=h3 x hx;omega,(h3 x hx).2⟩⟩
theorem GenAt.jset {E:UE} {G:GN} (h:GenAt W w E G va vj) (v:Value):GenAt W (w.setCell ⟨G.bg,33,none⟩ v) E G va v:=by have f:EFr E.B [110] w (w.setCell ⟨G.bg,33,none⟩ v):=EFr.set h.box h.hg Si 33 v;have hy:=eF h.box 33 v;exact⟨h.bel.trans ((f.below h.sz).mono h.hB),h.hB,aG h.sz f.size,h.hg,hy,h.body,h.own.keep f De De De De,f.row h.locs De,f.row h.tails De,f.row h.used De⟩
def JStep (W:World) (E:UE) (G:GN) (va:Value) (ns n r k m:Nat) (w:World) (x:Ending) (w':World):Prop:=
 (6000<n+k∧x=uV∧Below E.B w w')∨(x=cZ (.tuple #[])∧∃n' r' NS,Em E ns n' r' w'∧n≤n'∧n'≤n+k∧r≤r'∧GenAt W w' E G va NS∧JAt w' E r' m NS∧EFr E.B lI w w')
theorem Xl {W w:World} {E:UE} {G:GN} {va vj:Value} {ns n r m:Nat} (h:GenAt W w E G va vj) (he:Em E ns n r w) (hj:JAt w E r m vj) (op o:Int) (a:Nat) (fL:op=2∨op=19∧(a:Int)=0∨op=20∨op=21∧(a:Int)=0) (ha:(a:Int)≤15) (ho:0≤o∧o<m) (hs:G.self<ns):
 O U 85 #[cW (some ⟨G.bg,0,none⟩),cS dA op,cS dA (a:Nat),cS dA o] w fun x w'=>JStep W E G va ns n r 1 m w x w':=by have Z45:=0;exact V69
theorem uA {G:GN} (sm:xK G) (ok:∀l∈G.os,l.1=false→l.2<12) {q:Nat} (hq:q<G.os.length):IsPl (fQ G q)∧fQ G q≠(false,12):=by(have hm:G.os.getD q (false,0)∈G.os:=by exact V234);have h1:=sm.os _ hm;have h2:=ok _ hm;have h3:=sm.slots;unfold fQ;split;(·exact⟨⟨fun _=>(by simp only;omega),fun h=>(by cases h)⟩,fun h=>(by simp at h)⟩);(·rename_i hf;(have hf':(G.os.getD q (false,0)).1=false:=by simpa using hf);have:=h2 hf';exact⟨⟨fun h=>(by rw[hf']at h;cases h),fun _=>Om⟩,fun h=>(by rw[h]at this;simp at this)⟩)
theorem Far.loc {E:UE} {n:Nat} (h:Far E ns n r k w wr) (hs:E.B≤w.heap.size) (f:EFr w.heap.size chg wr w') (h1:65∉chg) (h2:79∉chg) (h3:74∉chg):Far E ns n r k w w':=by obtain⟨n',r',q1,q2,q3,q4,q5⟩:=h;have g:=f.below q5.size;exact⟨n',r',q1.fr (f.lower hs) h1 h2 h3,q2,q3,q4,⟨g.os.trans q5.os,g.tape.trans q5.tape,g.output.trans q5.output,aG q5.size f.size,fun b hb hc=>(g.block b hb).trans (q5.block b hb hc)⟩⟩
theorem zF {n:Nat} {ms:List Mv} (h:w.ownsRow b 175 4 (cT p n k) n (dK ms)) (hl:ms.length=n):MvsAt w p ms:=by by_cases h0:n=0;(·exact .inl Om);(·obtain⟨g,gN,hg,-,-,-,eS,kE⟩:=eN h Om;injection hg with e;subst e;refine .inr ⟨g,0,rfl,eS,fun j hj=>?_⟩;obtain⟨r1,r2,r3,r4⟩:=nQ ms j hj;rw[Nat.zero_add];exact⟨kE _ _ r1,kE _ _ r2,kE _ _ r3,kE _ _ r4⟩)
theorem S3 (n:Nat):((List.range n).map fun k=>((false,k):Lc)).Nodup:=by have h:=List.nodup_range (n:=n);rw[List.nodup_iff_pairwise_ne]at h⊢;exact List.Pairwise.map _ (fun a b Yn e=>Yn (by injection e)) h
theorem Et {k:IntKind} (h:SliceAt w k p l) {j:Nat} (hj:j<l.length):∃c co,p=some ⟨c,co,none⟩∧c<w.heap.size∧w.cell? ⟨c,co+j,none⟩=some (cS k l[j]):=by rcases h with h|⟨c,co,hp,hc,hr⟩;(·exact absurd (by rw[h]at hj;exact hj) Si);(·refine⟨c,co,hp,hc,?_⟩;rw[hr j hj,aN,aB hj];rfl)
theorem Wr {E:UE} {G:GN} {n:Nat} (h:GenAt W w E G va vj) (sm:xK G) (gu:L3 G) (ok:∀l∈G.os,l.1=false→l.2<12) (he:Em E ns n r w)
 (s:List Int) (p:Option Addr) (N k:Nat) (hs:SliceAt W dA p s) (hl:s.length=N) (hk:N≤k) (oE:k≤9223372036854775807) (hr:∀x∈s,0≤x∧x<G.os.length) (hN:N≤100) (sJ:G.pl.result<0→N≤4) (hp:G.pointer≤999):
 O U 86 #[cW (some ⟨G.bg,0,none⟩),cT p N k] w fun x w'=>Step E ns n r (3*N+G.us.length+4) (.tuple #[]) w x w':=by have Z47:=0;exact V70
structure Im (G:GN) (o:Ord):Prop where
 s:∀x∈o.s,0≤x∧x<G.os.length
 d:∀x∈o.d,0≤x∧x<G.os.length
theorem G3 {W w:World} {E:UE} {G:GN} {va vj:Value} {ns n r:Nat} (h:GenAt W w E G va vj) (sm:xK G) (ok:∀l∈G.os,l.1=false→l.2<12) (he:Em E ns n r w)
 (o:Ord) (v:OV) (ho:OrdAt W o v) (oi:Im G o) (Tk:0<o.s.length) (wj:0<o.d.length) (oH:G.base≤n) (pY:G.self<ns) (KV:G.count≤999) (Yd:G.pl.extra≤999):
 O U 88 #[cW (some ⟨G.bg,0,none⟩),iW v o] w fun x w'=>Step E ns n r 9 (.tuple #[]) w x w':=by have HG:=Ih h;have nM:=Ih sm;have rC:=Ih ok;have Hc:=Ih (Far.refl he);have iJ:Hid (∀w',EFr E.B eU w w'→w'.cell? ⟨G.bg,0,none⟩=some (cW (some ⟨E.bu,0,none⟩))∧w'.cell? ⟨G.bg,4,none⟩=some (cS dA (G.count:Nat))∧w'.cell? ⟨G.bg,10,none⟩=some (cS dA (G.size:Nat))∧w'.cell? ⟨G.bg,26,none⟩=some (cS dA (G.pl.extra:Nat))∧w'.cell? ⟨G.bg,30,none⟩=some (cS dA (G.self:Nat))∧w'.cell? ⟨G.bg,31,none⟩=some (cS dA (G.base:Nat))∧G.bg<w'.heap.size∧dG W w'):=Ih fun w' f=>⟨(h.u f).cell 0 rfl,(h.u f).cell 4 rfl,(h.u f).cell 10 rfl,(h.u f).cell 26 rfl,(h.u f).cell 30 rfl,(h.u f).cell 31 rfl,dB (h.u f).box,(h.u f).bel⟩;have tQ:=Ih h.sz;have HN:=Ih he.n;obtain⟨c,co,kD,hc,PP⟩:=Et ho.ss Tk;obtain⟨d,Lm,qN,hd,hdx⟩:=Et ho.ds wj;obtain⟨JH,vN⟩:=oi.s _ (aE Tk);obtain⟨hy0,jy⟩:=oi.d _ (aE wj);obtain⟨x,Nl⟩:∃x:Nat,o.s[0]=(x:Int):=⟨o.s[0].toNat,by omega⟩;obtain⟨y,hye⟩:∃y:Nat,o.d[0]=(y:Int):=⟨o.d[0].toNat,by omega⟩;rw[Nl]at PP vN;rw[hye]at hdx jy;have Qc:x<G.os.length:=Om;have Dp:y<G.os.length:=Om;have N5:Hid (∀w',dG W w'→w'.cell? ⟨c,co,none⟩=some (cS dA (x:Nat))∧w'.cell? ⟨d,Lm,none⟩=some (cS dA (y:Nat))∧c<w'.heap.size∧d<w'.heap.size):=Ih fun w' hb=>⟨(hb.cell (p:=⟨c,co+0,none⟩) hc).trans PP,(hb.cell (p:=⟨d,Lm+0,none⟩) hd).trans hdx,aF hc hb.size,aF hd hb.size⟩;(have kX:(0:Int)<v.ns:=by have:=ho.sl;omega);(have gZ:(0:Int)<v.nd:=by have:=ho.dl;omega);have zV:=ho.sk;have hndk:=ho.dk;(have UI:(0:Nat)<v.ns:=by have:=ho.sl;omega);(have hnd1:(0:Nat)<v.nd:=by have:=ho.dl;omega);have Kj:=sm.size;obtain⟨Am,uR⟩:=kR sm ok Qc;obtain⟨q,hq⟩:=Ex (lO (fQ G x) 12);(have AF:q≤15:=by rw[hq];unfold lO;exact V317);have HQ:=Ih hq;unfold iW;rw[kD,qN];obtain⟨ct,VS⟩:=Ex G.count;obtain⟨sz,ky⟩:=Ex G.size;obtain⟨ex,Yc⟩:=Ex G.pl.extra;obtain⟨sf,TL⟩:=Ex G.self;obtain⟨bs,VX⟩:=Ex G.base;rw[←VS,←ky,←Yc,←TL,←VX]at iJ;rw[←VS]at KV;rw[←ky]at Kj;rw[←Yc]at Yd;rw[←TL]at pY;rw[←VX]at oH;obtain⟨OC,hOC⟩:=Ex (#[cS dA o.op,cT (some ⟨d,Lm,none⟩) v.nd v.kd,cT (some ⟨c,co,none⟩) v.ns v.ks,cS dA o.n,cU o.name,cS dA o.ty.kind,cU o.ty.name,cT v.tv.pn v.tv.nn v.tv.kn,cT v.tv.pp v.tv.np v.tv.kp,cV o.ty.many]:Array Value);(have si:Hid (∀w' K,Far E ns n r K w w'→O U 82 #[cW (some ⟨G.bg,0,none⟩),cS dA (x:Nat),cS dA 12] w' (sE E ns n r K 1 (cS dA (q:Nat)) w w')):=Ih fun w' K f=>by rw[HQ.out];exact HG.out.read nM.out f x 12 Qc Om);clear h sm ok he ho oi Tk wj Am uR hq VS ky Yc TL VX PP hdx JH vN hy0 jy Nl hye kD qN OC hOC;go_in;obtain⟨wA,gA⟩:=Ex (w.alloc (cY #[cS dA o.op,cT (some ⟨d,Lm,none⟩) v.nd v.kd,cT (some ⟨c,co,none⟩) v.ns v.ks,cS dA o.n,cU o.name,cS dA o.ty.kind,cU o.ty.name,cT v.tv.pn v.tv.nn v.tv.kn,cT v.tv.pp v.tv.np v.tv.kp,cV o.ty.many] 71));obtain⟨bo,rA⟩:=Ex w.heap.size;have eH:Hid (wA.heap[bo]? =some (cY #[cS dA o.op,cT (some ⟨d,Lm,none⟩) v.nd v.kd,cT (some ⟨c,co,none⟩) v.ns v.ks,cS dA o.n,cU o.name,cS dA o.ty.kind,cU o.ty.name,cT v.tv.pn v.tv.nn v.tv.kn,cT v.tv.pp v.tv.np v.tv.kp,cV o.ty.many] 71 (0,0))):=Ih (by rw[gA,rA];exact heap_alloc_new w _);have uO:=Ih gA;have HF:=Ih (Hc.out.old (w':=wA) (by rw[gA];exact(aC _ _).alloc (aA _) _));have NJ:=Ih rA;clear gA Hc rA;obtain⟨c0,c4,iF,QE,ro,FR,eS,dJ⟩:=iJ.out _ (.refl _ _ _);obtain⟨s0,t0,lX,nS⟩:=N5.out _ dJ;have Z8e:=0;exact V170
structure CV where
 pw:Option Addr
 nw:Nat
 kw:Nat
 vp:Value
 vc:Value
 vr:Value
def vZ (o:Ord):List Int:=if o.op=8 then o.s.drop 1 else o.s
def gF (o:Ord):Nat:=(vZ o).length-eR o.ty
def iX (o:Ord):Nat:=if o.ty.many then(dC o.ty).extra+gF o else(dC o.ty).area
def tB (o:Ord) (v:OV) (c:CV):List Value:=[cS dA (dC o.ty).result,cS dA (dC o.ty).count,c.vp,c.vc,c.vr,cS dA ((dC o.ty).area:Nat),cS dA ((dC o.ty).extra:Nat),cT c.pw c.nw c.kw,cT v.tv.pp (v.tv.np-1:Nat) v.tv.kp,cS dA (gF o:Nat),cS dA (iX o:Nat)]
theorem qe (h:SliceAt w dA p l) (hl:1<l.length) {e eo:Nat} (hp:p=some ⟨e,eo,none⟩):SliceAt w dA (some ⟨e,eo+1,none⟩) (l.drop 1):=by rcases h with h|⟨c,co,Vd,hc,hr⟩;(·exact absurd (by rw[h]at hl;exact hl) Si);(·rw[hp]at Vd;injection Vd with Vd;injection Vd with e1 e2;subst e1 e2;refine .inr ⟨e,eo+1,rfl,hc,fun j hj=>?_⟩;rw[List.length_drop]at hj;have:=hr (1+j) Om;rw[show eo+1+j=eo+(1+j)by omega,this,aN,aN,List.getElem?_drop])
theorem jN {t:TypeId} {v8 v10:Value} (h:w.heap[b]? =some (cY #[v0,v1,v2,v3,v4,v5,v6,v7,v8,v9,v10] t (0,0))):
 w.cell? ⟨b,0,none⟩=some v0∧w.cell? ⟨b,1,none⟩=some v1∧w.cell? ⟨b,2,none⟩=some v2∧w.cell? ⟨b,3,none⟩=some v3∧w.cell? ⟨b,4,none⟩=some v4∧w.cell? ⟨b,5,none⟩=some v5∧w.cell? ⟨b,6,none⟩=some v6∧w.cell? ⟨b,7,none⟩=some v7∧w.cell? ⟨b,8,none⟩=some v8∧w.cell? ⟨b,9,none⟩=some v9∧w.cell? ⟨b,10,none⟩=some v10∧∀o,w.frozen? ⟨b,o,none⟩=false:=
 ⟨cell_of_row w b 0 _ _ _ h,cell_of_row w b 1 _ _ _ h,cell_of_row w b 2 _ _ _ h,cell_of_row w b 3 _ _ _ h,cell_of_row w b 4 _ _ _ h,cell_of_row w b 5 _ _ _ h,cell_of_row w b 6 _ _ _ h,cell_of_row w b 7 _ _ _ h,cell_of_row w b 8 _ _ _ h,cell_of_row w b 9 _ _ _ h,cell_of_row w b 10 _ _ _ h,fun o=>by simp[bN,h]⟩
theorem Aq {t:TypeId} (h:w.heap[b]? =some (cY #[v0,v1,v2,v3,v4,v5,v6] t (0,0))):
 w.cell? ⟨b,0,none⟩=some v0∧w.cell? ⟨b,1,none⟩=some v1∧w.cell? ⟨b,2,none⟩=some v2∧w.cell? ⟨b,3,none⟩=some v3∧w.cell? ⟨b,4,none⟩=some v4∧w.cell? ⟨b,5,none⟩=some v5∧w.cell? ⟨b,6,none⟩=some v6∧∀o,w.frozen? ⟨b,o,none⟩=false:=
 ⟨cell_of_row w b 0 _ _ _ h,cell_of_row w b 1 _ _ _ h,cell_of_row w b 2 _ _ _ h,cell_of_row w b 3 _ _ _ h,cell_of_row w b 4 _ _ _ h,cell_of_row w b 5 _ _ _ h,cell_of_row w b 6 _ _ _ h,fun o=>by simp[bN,h]⟩
def rB (w:World) (b:Nat) (v0 v1 v2 v3 v4 v5 v6 v7 v8 v9 v10:Value):World:=(((((((((((w.setCell ⟨b,0,none⟩ v0).setCell ⟨b,1,none⟩ v1).setCell ⟨b,2,none⟩ v2).setCell ⟨b,3,none⟩ v3).setCell ⟨b,4,none⟩ v4).setCell ⟨b,5,none⟩ v5).setCell ⟨b,6,none⟩ v6).setCell ⟨b,7,none⟩ v7).setCell ⟨b,8,none⟩ v8).setCell ⟨b,9,none⟩ v9).setCell ⟨b,10,none⟩ v10)
theorem Pf {t:TypeId} {u0 u1 u2 u3 u4 u5 u6 u7 u8 u9 u10:Value} (h:w.heap[b]? =some (cY #[u0,u1,u2,u3,u4,u5,u6,u7,u8,u9,u10] t (0,0))) (v0 v1 v2 v3 v4 v5 v6 v7 v8 v9 v10:Value):
 (rB w b v0 v1 v2 v3 v4 v5 v6 v7 v8 v9 v10).heap[b]? =some (cY #[v0,v1,v2,v3,v4,v5,v6,v7,v8,v9,v10] t (0,0))∧∀B (chg:List TypeId),B≤b→t∈chg→EFr B chg w (rB w b v0 v1 v2 v3 v4 v5 v6 v7 v8 v9 v10):=by unfold rB;have Z2m:=0;exact V39
theorem Yy {n e eo:Nat} (h:SliceAt w dA p l) (hp:p=some ⟨e,eo,none⟩) (hl:l.length=n) (h0:1≤n):SliceAt w dA (some ⟨e,eo+1,none⟩) (l.drop 1):=by by_cases h1:1<l.length;(·exact qe h h1 hp);(·exact .inl (by rw[List.length_drop];omega))
theorem fZ {b':Nat} {o:Obj} (h:w.heap[b]? =some o) (fM:b≠b'):(w.setCell ⟨b',i,none⟩ v).heap[b]? =some o:=(bV _ _ _ _ (by simpa using fM)).trans h
theorem PlAt.lower_ {pl:Pl} (h:PlAt w base pl vp vc vr) (hb:B≤base) (hw:dG w w'):PlAt w' B pl vp vc vr:=by have f:EFr 0 [] w w':=.of hw;have g:=h.keep f Si Si Si Si;obtain⟨ps,hp⟩:=g.ps;exact⟨⟨ps,mB hp.params hb,fun i hi=>by obtain⟨pv,e,ho⟩:=hp.each i hi;exact⟨pv,e,mB ho hb⟩,mB hp.copied hb⟩,mB g.res hb⟩
theorem Jj {t:T} (h:mL t=true):(dC t).extra≤100∧(dC t).area≤100:=by exact V134
theorem Zd (o:Ord) (v:OV) (m:Int) (W w:World) (OT:OrdAt W o v) (dJ:dG W w) (hm:Mx m w) (hf:mL o.ty=true) (fL:o.op≠8) (lX:eR o.ty≤(vZ o).length) (hs:o.s.length≤1000):
 O U 66 #[iW v o] w fun x w'=>∃c:CV,x=cZ (cX (tB o v c).toArray)∧SliceAt W dA c.pw (vZ o)∧(vZ o).length=c.nw∧c.nw≤c.kw∧c.kw≤9223372036854775807∧PlAt w' w.heap.size (dC o.ty) c.vp c.vc c.vr∧dG w w':=by have Z8m:=0;exact V172
theorem Ze (o:Ord) (v:OV) (m:Int) (W w:World) (OT:OrdAt W o v) (dJ:dG W w) (hm:Mx m w) (hf:mL o.ty=true) (fL:o.op=8) (h0:0<o.s.length) (lX:eR o.ty≤(vZ o).length) (hs:o.s.length≤1000):
 O U 66 #[iW v o] w fun x w'=>∃c:CV,x=cZ (cX (tB o v c).toArray)∧SliceAt W dA c.pw (vZ o)∧(vZ o).length=c.nw∧c.nw≤c.kw∧c.kw≤9223372036854775807∧PlAt w' w.heap.size (dC o.ty) c.vp c.vc c.vr∧dG w w':=by have Z8n:=0;exact V172
def pW (area:Nat) (l:Lc):Lc:=if l.1 then(true,l.2+area)else l
theorem uq (l:Lc) (area b7:Nat) (w:World) (fT:w.heap[b7]? =some (cY #[cS dA (area:Nat)] 3 (0,0))) (h1:l.2≤1000) (h2:area≤1000):
 O U 132 #[sF l,cW (some ⟨b7,0,none⟩)] w (RB w (sF (pW area l))):=by obtain⟨c7,z7⟩:=dE fT;have l7:=dB fT;have dH:=dB fT;have eH:=Ih fT;obtain⟨s,n⟩:=l;simp only at h1;unfold sF pW;simp only;clear fT;cases s;(·go_in;go_wp2_with fail;exact bodyPost_ret (v:=cX #[cV false,cS dA (n:Nat)]) (by simp[results,Tryz.results132,go_sem]) rfl ⟨rfl,((aC _ _).alloc (aA _) _).alloc Si _⟩);(·have hw:IntKind.i64.wrap ((n:Int)+(area:Int))=(n:Int)+(area:Int):=aX _ Om;go_in;go_wp2_with fail;exact bodyPost_ret (v:=cX #[cV true,cS dA ((n:Int)+(area:Int))]) (by simp[results,Tryz.results132,go_sem]) rfl ⟨by simp,((aC _ _).alloc (aA _) _).alloc Si _⟩)
theorem T8 {E:UE} {G:GN} (h:GenAt W w E G va vj) (hi:i<G.b.code.length):∃c co v,G.v.pc=some ⟨c,co,none⟩∧c<w.heap.size∧OrdAt W G.b.code[i] v∧
 w.cell? ⟨c,co+i*10,none⟩=some (cS dA G.b.code[i].op)∧w.cell? ⟨c,co+i*10+1,none⟩=some (cT v.pd v.nd v.kd)∧w.cell? ⟨c,co+i*10+2,none⟩=some (cT v.ps v.ns v.ks)∧w.cell? ⟨c,co+i*10+3,none⟩=some (cS dA G.b.code[i].n)∧w.cell? ⟨c,co+i*10+4,none⟩=some (cU G.b.code[i].name)∧
 w.cell? ⟨c,co+i*10+5,none⟩=some (cS dA G.b.code[i].ty.kind)∧w.cell? ⟨c,co+i*10+6,none⟩=some (cU G.b.code[i].ty.name)∧w.cell? ⟨c,co+i*10+7,none⟩=some (cT v.tv.pn v.tv.nn v.tv.kn)∧w.cell? ⟨c,co+i*10+8,none⟩=some (cT v.tv.pp v.tv.np v.tv.kp)∧w.cell? ⟨c,co+i*10+9,none⟩=some (cV G.b.code[i].ty.many):=by obtain⟨c,co,gP,hc,dM⟩:=h.body.code.get Om;obtain⟨v,h1,h2⟩:=dM i hi;exact⟨c,co,v,gP,aF hc h.bel.size,h2,jY h.bel hc h1⟩
theorem o8 {N j:Nat} (h:SliceAt W dA p l) (hj:j<l.length) (hr:∀x∈l,0≤x∧x<N):∃c co x,p=some ⟨c,co,none⟩∧x<N∧∀w',dG W w'→w'.cell? ⟨c,co+j,none⟩=some (cS dA (x:Nat))∧c<w'.heap.size:=by obtain⟨c,co,hp,hc,hx⟩:=Et h hj;have h1:=hr _ (aE hj);refine⟨c,co,l[j].toNat,hp,by omega,fun w' hb=>⟨?_,aF hc hb.size⟩⟩;rw[show((l[j].toNat:Nat):Int)=l[j]by omega];exact(hb.cell (p:=⟨c,co+j,none⟩) hc).trans hx
theorem IF {N:Nat} (h:SliceAt W dA p l) (hj:0<l.length) (hr:∀x∈l,0≤x∧x<N):∃c co x,p=some ⟨c,co,none⟩∧x<N∧∀w',dG W w'→w'.cell? ⟨c,co,none⟩=some (cS dA (x:Nat))∧c<w'.heap.size:=o8 h hj hr
theorem IR {E:UE} {G:GN} {n:Nat} (h:GenAt W w E G va vj) (sm:xK G) (ok:∀l∈G.os,l.1=false→l.2<12) (he:Em E ns n r w)
 (i:Nat) (hi:i<G.b.code.length) (oi:Im G (G.b.code[i])) (fL:G.b.code[i].op=1) (gZ:G.b.code[i].d.length=1) (kX:G.b.code[i].s.length=0):
 O U 33 #[cW (some ⟨G.bg,0,none⟩),cS dA (i:Nat)] w fun x w'=>Step E ns n r 3 (.tuple #[]) w x w':=by have Z16:=0;exact V10
theorem T4 {E:UE} {G:GN} {n:Nat} (h:GenAt W w E G va vj) (sm:xK G) (ok:∀l∈G.os,l.1=false→l.2<12) (he:Em E ns n r w)
 (i:Nat) (hi:i<G.b.code.length) (oi:Im G (G.b.code[i])) (fL:G.b.code[i].op=13) (gZ:G.b.code[i].d.length=1) (kX:G.b.code[i].s.length=0) (KV:G.count≤999):
 O U 33 #[cW (some ⟨G.bg,0,none⟩),cS dA (i:Nat)] w fun x w'=>Step E ns n r 2 (.tuple #[]) w x w':=by have HG:=Ih h;have nM:=Ih sm;have rC:=Ih ok;have Hc:=Ih (Far.refl he);have HN6:=Ih he.n;have iJ:Hid (∀w',EFr E.B eU w w'→w'.cell? ⟨G.bg,0,none⟩=some (cW (some ⟨E.bu,0,none⟩))∧w'.cell? ⟨G.bg,4,none⟩=some (cS dA (G.count:Nat))∧G.bg<w'.heap.size∧dG W w'):=Ih fun w' f=>⟨(h.u f).cell 0 rfl,(h.u f).cell 4 rfl,dB (h.u f).box,(h.u f).bel⟩;obtain⟨c,co,v,gP,hc,ho,x0,x1,x2,x3,x4,x5,x6,x7,x8,x9⟩:=T8 h hi;have Z8F:=0;exact V179
def Lo (t:T) (i:Nat):Nat:=(((dT t).take i).map fun p=>if 4<dQ p then dQ p else 0).sum
def rT (t:T) (i:Nat):Nat:=(((dT t).take i).map dQ).sum
def Wl (x:List Lc×Bool):List Lc:=if x.2 then []else x.1
def Uy (t:T) (i:Nat):List Lc:=((dC t).params.take i).flatMap Wl
theorem Za {t:T} (h:i<(dT t).length):Lo t (i+1)=Lo t i+if 4<dQ (dT t)[i]then dQ (dT t)[i]else 0:=by unfold Lo;rw[aL h,aS,List.sum_append];simp
theorem Sn {t:T} (h:i<(dT t).length):rT t (i+1)=rT t i+dQ (dT t)[i]:=by unfold rT;rw[aL h,aS,List.sum_append];simp
theorem Q2 {t:T} (h:i<(dC t).params.length):Uy t (i+1)=Uy t i++Wl (dC t).params[i]:=by unfold Uy;rw[aL h,List.flatMap_append];simp
theorem xY (t:T) (h:i=(dT t).length):rT t i=eR t:=by unfold rT eR;rw[h,List.take_length]
theorem Ln (t:T) (i:Nat):Lo t i≤rT t i:=by
 unfold Lo rT
 induction(dT t).take i with
  |nil=>simp
  |cons x l ih=>simp only[bC,List.sum_cons];split<;>omega
theorem Fy (t:T) (h:(dT t).length≤6):rT t i≤72:=by have:=zA ((dT t).take i);(have h2:((dT t).take i).length≤6:=by rw[aO];omega);unfold rT;omega
theorem Wd (l:List (List Lc×Bool)):(l.flatMap Wl).Sublist (l.flatMap (·.1)):=by
 induction l with
  |nil=>exact List.Sublist.refl _
  |cons x l ih=>
   rw[cL,cL]
   refine List.Sublist.append ?_ ih
   unfold Wl
   split
   ·exact List.nil_sublist _
   ·exact List.Sublist.refl _
theorem Sw {t:T} {hi:i<(dC t).params.length} {hk:k<(dC t).params[i].1.length}:(dC t).params[i].1[k]∈(dC t).params.flatMap (·.1):=
 List.mem_flatMap.2 ⟨_,aE hi,aE hk⟩
theorem T1 (a:Nat) {x y:Lc} (h:pW a x=pW a y):x=y:=by obtain⟨xs,xn⟩:=x;obtain⟨ys,yn⟩:=y;unfold pW at h;cases xs<;>cases ys<;>simp at h<;>simp[h]
theorem gd {t:T} (hp:XK t) (area more:Nat) (hm:more=0∨t.many=true):((Uy t (dC t).params.length).map (pW area)++(List.range more).map fun k=>((true,area+(dC t).extra+k):Lc)).Nodup:=by have hs:=Wd (dC t).params;have hn:=hs.nodup hp.nd;(have e:Uy t (dC t).params.length=(dC t).params.flatMap Wl:=by unfold Uy;rw[List.take_length]);rw[e,List.nodup_append];refine⟨?_,?_,fun x hx y hy e2=>?_⟩;(·rw[List.nodup_iff_pairwise_ne]at hn⊢;exact List.Pairwise.map _ (fun a b Yn e=>Yn (T1 area e)) hn);(·have h:=List.nodup_range (n:=more);rw[List.nodup_iff_pairwise_ne]at h⊢;exact List.Pairwise.map _ (fun a b Yn e=>Yn (by injection e with _ e;omega)) h);(·obtain⟨l,hl,rfl⟩:=List.mem_map.1 hx;obtain⟨k,hk,rfl⟩:=List.mem_map.1 hy;rw[List.mem_range]at hk;(have oD:t.many=true:=by rcases hm with h|h;omega;exact h);have KB:=hs.subset hl;obtain⟨ls,ln⟩:=l;unfold pW at e2;cases ls;(·simp at e2);(·have:=hp.ex oD _ KB rfl;simp at e2;simp only at this;omega))
def kT (l:List (Lc×Nat)):List Value:=l.flatMap fun a=>[cV a.1.1,cS dA (a.1.2:Nat),cS dA (a.2:Nat)]
theorem Of (l:List (Lc×Nat)) (a:Lc×Nat):kT (l++[a])=kT l++[cV a.1.1,cS dA (a.1.2:Nat),cS dA (a.2:Nat)]:=by unfold kT;rw[List.flatMap_append];rfl
theorem Zn (l:List (Lc×Nat)) (j:Nat) (h:j<l.length):(kT l)[j*3]? =some (cV l[j].1.1)∧(kT l)[j*3+1]? =some (cS dA (l[j].1.2:Nat))∧(kT l)[j*3+2]? =some (cS dA (l[j].2:Nat)):=by
 induction l generalizing j with
  |nil=>exact absurd h Si
  |cons x l ih=>
   have e:kT (x::l)=[cV x.1.1,cS dA (x.1.2:Nat),cS dA (x.2:Nat)]++kT l:=by unfold kT;rw[cL]
   cases j with
   |zero=>rw[e];exact⟨rfl,rfl,rfl⟩
   |succ j=>
    obtain⟨h1,h2,h3⟩:=ih j (by simpa using h)
    rw[e,bD Sv,bD Sv,bD Sv,List.getElem_cons_succ,←h1,←h2,←h3]
    exact⟨congrArg _ Sv,congrArg _ Sv,congrArg _ Sv⟩
theorem elAdr:tL U 230 232 3:=kP (z:=.agg #[.bool false,.int .i64 0,.int .i64 0]) (bytes:=24) Tryz.underlying230 Kr De De De
structure PaS (w wx:World) (E:UE) (ns n r k b:Nat) (oc cc:Array Value) (area:Nat) (pl:Pl) (vp vc vr v9 v10:Value) (ms:List Mv) (rL:List (Lc×Nat)) (tg:List Lc):Prop where
 far:Far E ns n r k w wx
 sz:E.B≤w.heap.size
 x5:wx.heap[b]? =some (cY oc 71 (0,0))
 x6:wx.heap[b+1]? =some (cY cc 165 (0,0))
 x7:wx.heap[b+2]? =some (cY #[cS dA (area:Nat)] 3 (0,0))
 rms:wx.ownsRow w.heap.size 175 4 v9 ms.length (dK ms)
 rads:wx.ownsRow w.heap.size 232 3 v10 rL.length (kT rL)
 m1:∀m∈ms,IsPl m.1∧m.1≠(false,12)
 m2:ms.map (·.2)=tg
 a1:∀a∈rL,(a.1.1=false→a.1.2<4)∧a.1.2≤440∧a.2≤999
 rpl:PlAt wx E.B pl vp vc vr
section
variable {w wx w':World} {E:UE} {ns n r k k' b:Nat} {oc cc:Array Value} {area:Nat} {pl:Pl} {vp vc vr v9 v10 v':Value} {ms:List Mv} {rL:List (Lc×Nat)} {tg:List Lc}
theorem PaS.fr (h:PaS w wx E ns n r k b oc cc area pl vp vc vr v9 v10 ms rL tg) (f:EFr B chg wx w') (hf:Far E ns n r k' w w') (hc:∀t∈[71,165,3,175,232,94,149,4],t∉chg):PaS w w' E ns n r k' b oc cc area pl vp vc vr v9 v10 ms rL tg:=
 ⟨hf,h.sz,f.obj h.x5 (hc _ Si),f.obj h.x6 (hc _ Si),f.obj h.x7 (hc _ Si),f.row h.rms (hc _ Si),f.row h.rads (hc _ Si),h.m1,h.m2,h.a1,h.rpl.keep f (hc _ Si) (hc _ Si) (hc _ Si) (hc _ Si)⟩
theorem PaS.old (h:PaS w wx E ns n r k b oc cc area pl vp vc vr v9 v10 ms rL tg) (hb:dG wx w'):PaS w w' E ns n r k b oc cc area pl vp vc vr v9 v10 ms rL tg:=
 h.fr (B:=0) (chg:=[]) (.of hb) (h.far.old hb) Si
theorem PaS.emit (h:PaS w wx E ns n r k b oc cc area pl vp vc vr v9 v10 ms rL tg) (hf:Far E ns n r k' w w') (f:EFr E.B eU wx w'):PaS w w' E ns n r k' b oc cc area pl vp vc vr v9 v10 ms rL tg:=
 h.fr f hf (by unfold eU;decide)
theorem PaS.mono (h:PaS w wx E ns n r k b oc cc area pl vp vc vr v9 v10 ms rL tg) (hk:k≤k'):PaS w wx E ns n r k' b oc cc area pl vp vc vr v9 v10 ms rL tg:=
 ⟨h.far.mono hk,h.sz,h.x5,h.x6,h.x7,h.rms,h.rads,h.m1,h.m2,h.a1,h.rpl⟩
theorem PaS.mapp (h:PaS w wx E ns n r k b oc cc area pl vp vc vr v9 v10 ms rL tg) {m:Mv} (ha:App wx w' w.heap.size 175 4 v9 v' ms.length (dK ms) (fB m)) (hm:IsPl m.1∧m.1≠(false,12)):PaS w w' E ns n r k b oc cc area pl vp vc vr v' v10 (ms++[m]) rL (tg++[m.2]):=by have f:EFr w.heap.size [175] wx w':=ha.fr h.rms (aA _) Si;refine⟨h.far.loc h.sz f De De De,h.sz,f.obj h.x5 De,f.obj h.x6 De,f.obj h.x7 De,?_,f.row h.rads De,fun x hx=>?_,?_,h.a1,h.rpl.keep f De De De De⟩;(·rw[aD,fF];(have e:dK [m]=fB m:=by unfold dK;simp);rw[e];exact ha.own);(·rcases List.mem_append.1 hx with hx|hx;(·exact h.m1 x hx);(·rw[aK]at hx;rw[hx];exact hm));(·rw[aS,h.m2];rfl)
theorem PaS.aapp (h:PaS w wx E ns n r k b oc cc area pl vp vc vr v9 v10 ms rL tg) {a:Lc×Nat} (ha:App wx w' w.heap.size 232 3 v10 v' rL.length (kT rL) [cV a.1.1,cS dA (a.1.2:Nat),cS dA (a.2:Nat)]) (hm:(a.1.1=false→a.1.2<4)∧a.1.2≤440∧a.2≤999):PaS w w' E ns n r k b oc cc area pl vp vc vr v9 v' ms (rL++[a]) tg:=by have f:EFr w.heap.size [232] wx w':=ha.fr h.rads (aA _) Si;refine⟨h.far.loc h.sz f De De De,h.sz,f.obj h.x5 De,f.obj h.x6 De,f.obj h.x7 De,f.row h.rms De,?_,h.m1,h.m2,fun x hx=>?_,h.rpl.keep f De De De De⟩;(·rw[aD,Of];exact ha.own);(·rcases List.mem_append.1 hx with hx|hx;(·exact h.a1 x hx);(·rw[aK]at hx;rw[hx];exact hm))
end
end
end Go.Proofs.YtfbmaffacikgbaaGreat
