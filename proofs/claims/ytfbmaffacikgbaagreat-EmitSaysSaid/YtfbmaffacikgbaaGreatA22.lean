/- A part of the proof of EmitSays. -/
import Derived.Test.YtfbmaffacikgbaaGreatA10
import Derived.Test.YtfbmaffacikgbaaGreatA21
set_option maxRecDepth 100000
set_option maxHeartbeats 4000000
set_option linter.unusedVariables false
set_option linter.unusedSimpArgs false
open Go renaming Calls→O
open Go.Proofs.Tryz renaming prog→U
open Nat renaming le_refl→aA,lt_of_lt_of_le→aF,le_trans→aG,zero_le→aJ
open List renaming getElem?_eq_getElem→aB,length_append→aD,getElem_mem→aE,length_map→aI,mem_singleton→aK,take_succ_eq_append_getElem→aL,length_cons→aM,length_take→aO,mem_cons_of_mem→aP,getElem_of_mem→aQ,map_append→aS,length_nil→aT,mem_cons_self→aU,take_of_length_le→aY,not_mem_nil→aZ,mem_cons→bF,getElem?_map→bH,append_assoc→bP,set_cons_succ→bS,setIfInBounds_toArray→bX,mem_singleton_self→bY,set_cons_zero→bZ,replicate→cC,getElem_map→cH,all_eq_true→cJ,map_nil→cM,length_set→cQ
open Go.RowKit.Below renaming refl→aC,heap_setCell→bV
open Go.World renaming alloc_heap_new→aH,ownsRow_nil→bE,frozen?→bN,cell?_of_block→bT,setCell→cN
open Go.Lib renaming alloc_old→aR
open Bool renaming and_eq_true→aV
open Go.Value renaming slice→aW,int→bL,string→cE,ownBlock→cO
open Go.IntWalk renaming i64_in→aX
open Go.Proofs.Tryz renaming underlying3→bG,underlying9→bW
open And renaming intro→bM
open Go.ByteArray renaming toList_eq→cK
open Go.Value renaming int→cS
open Go.Value renaming slice→cT
open Go.Value renaming string→cU
open Go.Value renaming bool→cV
open Go.Value renaming pointer→cW
open Go.Value renaming agg→cX
open Go.Obj renaming cells→cY
open Go.Ending renaming returned→cZ
open Go.IntKind renaming i64→dA
namespace Go.Proofs.YtfbmaffacikgbaaGreat
variable {w W w' w1 w0:World} {B r k i size d co b:Nat} {v:Value} {e:TypeId} {xs:List Value} {l:List Int} {a:Act} {p:Option Addr} {s:ByteArray} {mx x:Int}
section
open Go.RowKit Go.Shelf Ob Ty
theorem vA {b2:Nat} {t:TypeId} {a0 a1 a2 a3 a4:Value} (h2:w.heap[b2]? =some (cY #[a0,a1,a2,a3,a4] t (0,0))) (Nb:B≤b2) (c0 c1 c2 c3 c4:Value):
 (((((w.setCell ⟨b2,0,none⟩ c0).setCell ⟨b2,1,none⟩ c1).setCell ⟨b2,2,none⟩ c2).setCell ⟨b2,3,none⟩ c3).setCell ⟨b2,4,none⟩ c4).heap[b2]? =some (cY #[c0,c1,c2,c3,c4] t (0,0))∧
 Below B w (((((w.setCell ⟨b2,0,none⟩ c0).setCell ⟨b2,1,none⟩ c1).setCell ⟨b2,2,none⟩ c2).setCell ⟨b2,3,none⟩ c3).setCell ⟨b2,4,none⟩ c4):=
 ⟨(eF (eF (eF (eF (eF h2 0 c0) 1 c1) 2 c2) 3 c3) 4 c4).trans rfl,dW (dW (dW (dW (dW ⟨rfl,rfl,rfl,aA _,fun _ _=>rfl⟩ b2 0 _ Nb) b2 1 _ Nb) b2 2 _ Nb) b2 3 _ Nb) b2 4 _ Nb⟩
theorem s5a (h:B≤b) (c0 c1 c2 c3 c4:Value):Below B w (((((w.drew.setCell ⟨b,0,none⟩ c0).setCell ⟨b,1,none⟩ c1).setCell ⟨b,2,none⟩ c2).setCell ⟨b,3,none⟩ c3).setCell ⟨b,4,none⟩ c4):=
 dW (dW (dW (dW (dW (show Below B w w.drew from⟨rfl,rfl,rfl,aA _,fun _ _=>rfl⟩) b 0 _ h) b 1 _ h) b 2 _ h) b 3 _ h) b 4 _ h
theorem s5b (h:B≤b) (c0 c1 c2 c3 c4:Value):Below B w ((((((w.setCell ⟨b,0,none⟩ c0).setCell ⟨b,1,none⟩ c1).setCell ⟨b,2,none⟩ c2).setCell ⟨b,3,none⟩ c3).setCell ⟨b,4,none⟩ c4).drew):=
 Below.drew (dW (dW (dW (dW (dW (aC _ _) b 0 _ h) b 1 _ h) b 2 _ h) b 3 _ h) b 4 _ h)
def DD (W:World) (m:Mad) (s:ByteArray) (x:Ending):Prop:=
 (∃t f tv e,x=cZ (.tuple #[fN tv t,cV f,cV true])∧jF m s=some (t,f)∧TyAt W e t tv)∨
 (x=cZ (.tuple #[cX #[cS dA 0,cU ⟨#[]⟩,cT none 0 0,cT none 0 0,cV false],cV false,cV false])∧jF m s=none)
theorem fe {W w:World} (m:Mad) (v:MV) (s:ByteArray) (hm:MadAt W m v) (dJ:dG W w):
 O U 38 #[lR v,cU s] w fun x w'=>DD W m s x∧dG w w':=by have HG:Hid (∀w',dG W w'→O U 92 #[lR v,cU s] w' fun x gL=>yw m s x∧dG w' gL):=Ih fun w' h=>F5 m v s hm h;have Z4R:=0;exact V91
theorem F4 {m:Mad} {t:T} {f:Bool} (h:jF m s=some (t,f)):∃x∈things m,x.2.1=t:=by
 unfold jF at h
 cases e:(things m).find? fun x=>decide (x.1=s)with
  |none=>rw[e]at h;cases h
  |some x=>
   rw[e]at h
   have h1:x.2=(t,f):=by simpa using h
   exact⟨x,List.mem_of_find?_eq_some e,by rw[h1]⟩
theorem Wn {b:oJ} {bv:BV} {m:Mad} {v:MV} (hb:BodAt W b bv) (hm:MadAt W m v) (dJ:dG W w) (pL:nV b=true) (pJ:∀x∈things m,oM x.2.1=true) (gQ:bv.nc≤6000):
 O U 18 #[lR v,gG bv b] w (RB w (cV (b.code.all (gB m)))):=by obtain⟨hf,Tn,-,sY,-,eT,uD⟩:=iA pL;obtain⟨c,co,gP,hc,dM⟩:=hb.code.get sY;obtain⟨nc,jA⟩:=Ex bv.nc;obtain⟨kc,oU⟩:=Ex bv.kc;have ab:=Ih (hb.cl.trans jA.symm);(have qT:nc≤kc:=by rw[jA,oU];exact hb.ck);(have hnc6:nc≤6000:=by rw[jA];exact gQ);have dj:Hid (∀s w',dG W w'→O U 38 #[lR v,cU s] w' fun x gL=>DD W m s x∧dG w' gL):=Ih fun s w' h=>fe m v s hm h;obtain⟨wV,dY,kb,yY,fW,kg,yX,iK,ko⟩:=v;unfold lR at dj⊢;simp only at dj⊢;have HW:=Ih dJ;have mN:=Ih dM;have pO:=Ih pJ;obtain⟨r,hr⟩:=Ex (b.code.all (gB m));rw[←hr];have HR:=Ih hr;unfold gG;rw[gP,←jA,←oU];clear hb hm dJ pL pJ gQ hf Tn sY eT uD dM gP jA oU hr;go_in;obtain⟨wA,gA⟩:=Ex ((w.alloc (cY #[cT wV dY kb,cT yY fW kg,cT yX iK ko] 26)).alloc (cY #[cU b.name,cV b.static,cS dA b.ty.kind,cU b.ty.name,cT bv.tv.pn bv.tv.nn bv.tv.kn,cT bv.tv.pp bv.tv.np bv.tv.kp,cV b.ty.many,cS dA b.regs,cT (some ⟨c,co,none⟩) nc kc] 48));obtain⟨b1,kF⟩:=Ex w.heap.size;have ZcA:=0;exact V289
theorem rO {m:Mad} (h:gW m=true):∀x∈things m,oM x.2.1=true:=by unfold gW at h;simp only[aV,cJ,decide_eq_true_eq]at h;obtain⟨⟨⟨⟨h1,h2⟩,h3⟩,-⟩,-⟩:=h;(have hn:∀{t:T},sI t=true→oM t=true:=fun{t} h=>by unfold sI at h;simp only[aV]at h;exact h.1);(have hf:∀{t:T},mL t=true→oM t=true:=fun{t} h=>by unfold mL at h;simp only[aV]at h;exact h.2);intro x hx;unfold things at hx;simp only[List.mem_append,List.mem_map]at hx;rcases hx with(⟨b,hb,rfl⟩|⟨g,hg,rfl⟩)|⟨o,ho,rfl⟩;(·exact hf (iA (h1 b hb)).1);(·have:=h2 g hg;unfold oX at this;simp only[aV]at this;exact hn this.1);(·have:=h3 o ho;unfold wW at this;split at this;(·exact hf this);(·exact hn this))
theorem Li {m:Mad} (h:gW m=false):mT m=false:=by unfold mT;rw[h];rfl
theorem Yu {m:Mad} (h:gW m=true):mT m=m.bodies.all fun b=>b.code.all (gB m):=by unfold mT;rw[h];rfl
theorem F9:EV:=by intro m v mx w0 w hm hmx hw h0 By;have Zt:=Ih fun bx w' hb hl hx=>Q5 m v mx bx w0 w' hm hmx hb hl hx By h0;have EC:=Ih hm;have nN:=Ih hmx;have HW:=Ih hw;obtain⟨wV,dY,kb,yY,fW,kg,yX,iK,ko⟩:=v;have Yh:dY≤40:=By.1;have hU:m.bodies.length=dY:=hm.bl;have jC:=Ih hU;unfold lR at Zt⊢;simp only at Zt⊢;obtain⟨r,hr⟩:=Ex (mT m);obtain⟨u,hu⟩:=Ex (gW m);rw[←hr];rw[←hu]at Zt;have HR:=Ih hr;have HU:=Ih hu;clear hm hmx hw h0 By hU hr hu;go_in;obtain⟨wA,gA⟩:=Ex ((w.alloc (cY #[cT wV dY kb,cT yY fW kg,cT yX iK ko] 26)).alloc (cY #[cS dA 0,cS .i32 0,cT none 0 0,cS dA 0,cT none 0 0,cT none 0 0,cT none 0 0,cT none 0 0,cS dA 0,cS dA 0,cS dA 0] 88));obtain⟨b1,kF⟩:=Ex w.heap.size;have ZcB:=0;exact V289
def ur (l:List ByteArray):List Value:=l.map cE
theorem o0:(U.info? 9).map (fun i=>(i.zero,i.size,i.bytes))=some (some (cU ⟨#[]⟩),1,16):=by kernel_rfl
theorem Rh {tmp:Obj} (hb:dG w0 W) (hr:W.ownsRow w0.heap.size e size v k xs) (hg:(W.alloc tmp).grownBy w1 v.ownBlock):dG w0 w1:=by refine(hb.alloc hb.size tmp).grown hg (by simp;have:=hb.size;omega) fun j ej=>?_;rcases hr.2 with⟨rfl,_⟩|⟨g,gN,mU,rfl,rI,_,_⟩;(·simp[cO]at ej);(·(obtain rfl:g=j:=by simpa[cO]using ej);exact rI)
theorem rF {n:Nat} (h:w.ownsRow b e size v n xs) (hb:dG w w'):w'.ownsRow b e size v n xs:=
 h.kept (row:=none) (jM hb) (by cases hv:v.ownBlock<;>simp)
theorem NW {n:Nat} (h:w.ownsRow b e size v n xs):∃p c,v=cT p n c:=by exact V249
theorem Jr {l:List ByteArray} (hk:k<l.length):ur (l.take (k+1))=ur (l.take k)++[cU l[k]]:=by unfold ur;rw[aL hk,aS];rfl
theorem zE (m:Mad):m.names.length=m.bodies.length+m.globals.length+m.outs.length:=by unfold Mad.names;rw[aD,aD,aI,aI,aI]
theorem IY {m:Mad} (h:i<m.bodies.length):∃h2:i<m.names.length,m.names[i]=m.bodies[i].name:=by refine⟨by rw[zE];omega,?_⟩;unfold Mad.names;rw[List.getElem_append_left (by rw[aD,aI,aI];omega),List.getElem_append_left (by rw[aI];exact h),cH]
theorem IX {m:Mad} (h:i<m.globals.length):∃h2:m.bodies.length+i<m.names.length,m.names[m.bodies.length+i]=m.globals[i].name:=by refine⟨by rw[zE];omega,?_⟩;unfold Mad.names;rw[List.getElem_append_left (by rw[aD,aI,aI];omega),List.getElem_append_right (by rw[aI];omega),cH];congr 1;simp
theorem IW {m:Mad} (h:i<m.outs.length):∃h2:m.bodies.length+m.globals.length+i<m.names.length,m.names[m.bodies.length+m.globals.length+i]=m.outs[i].name:=by refine⟨by rw[zE];omega,?_⟩;unfold Mad.names;rw[List.getElem_append_right (by rw[aD,aI,aI];omega),cH];congr 1;simp
theorem U0 {m:Mad} {v:MV} (h:MadAt W m v):∀s∈m.names,s.size≤9223372036854775807:=by intro s hs;unfold Mad.names at hs;simp only[List.mem_append,List.mem_map]at hs;rcases hs with(⟨b,hb,rfl⟩|⟨g,hg,rfl⟩)|⟨o,ho,rfl⟩;(·obtain⟨i,hi,rfl⟩:=aQ hb;obtain⟨c,co,-,-,hr⟩:=h.bodies.get Om;obtain⟨x,-,hx⟩:=hr i hi;exact hx.sz);(·obtain⟨i,hi,rfl⟩:=aQ hg;obtain⟨c,co,-,-,hr⟩:=h.globals.get Om;obtain⟨x,-,hx⟩:=hr i hi;exact hx.sz);(·obtain⟨i,hi,rfl⟩:=aQ ho;obtain⟨c,co,-,-,hr⟩:=h.outs.get Om;obtain⟨x,-,hx⟩:=hr i hi;exact hx.sz)
theorem ez {m:Mad} (hi:i<m.names.length) (h:nW m.names[i]=false):gW m=false:=by unfold gW;have:m.names.all nW=false:=List.all_eq_false.2 ⟨m.names[i],aE hi,by rw[h];exact Bool.false_ne_true⟩;rw[this];simp
theorem ey {m:Mad} (hi:i<m.names.length) (h:((m.names.take i).map (·.data.toList)).contains m.names[i].data.toList=true):gW m=false:=by unfold gW;(have hn:¬(m.names.map fun s=>s.data.toList).Nodup:=fun gZ=>by have h2:=gZ.sublist (List.Sublist.map _ (List.take_sublist (i+1) m.names));rw[aL hi,aS,List.nodup_append]at h2;exact h2.2.2 _ (by simpa using h) _ Si rfl);rw[decide_eq_false hn];simp
theorem ew {m:Mad} (h1:∀j (hj:j<m.bodies.length),nV m.bodies[j]=true) (h2:∀j (hj:j<m.globals.length),oX m.globals[j]=true) (h3:∀j (hj:j<m.outs.length),wW m.outs[j]=true)
 (h4:∀j (hj:j<m.names.length),nW m.names[j]=true∧((m.names.take j).map (·.data.toList)).contains m.names[j].data.toList=false):gW m=true:=by have ZfZ:=0;exact V394
theorem j6 (m:Mad) (v:MV) (hm:MadAt W m v) (dJ:dG W w) (By:v.nb≤40∧v.ng≤40∧v.no≤40):
 O U 17 #[lR v] w (RB w (cV (gW m))):=by obtain⟨i0,hi0,hz0,hz1,M0⟩:=info_parts o0;have tQ:=Ih (U0 hm);have Z9X:=0;exact V225
theorem m9 (m:Mad) (v:MV) (hm:MadAt W m v) (dJ:dG W w) (By:v.nb≤40∧v.ng≤40∧v.no≤40):
 O U 6 #[lR v] w (RB w (cV (mT m))):=by have FU:Hid (∀w',dG W w'→O U 17 #[lR v] w' (RB w' (cV (gW m)))):=Ih fun w' h=>j6 m v hm h By;(have XY:Hid (∀(b:oJ) (bv:BV) w',BodAt W b bv→gW m=true→b∈m.bodies→dG W w'→O U 18 #[lR v,gG bv b] w' (RB w' (cV (b.code.all (gB m))))):=Ih fun b bv w' hb hu oL h=>by have Ey:=hu;unfold gW at Ey;simp only[aV,cJ]at Ey;have kO:=Ey.1.1.1.1 b oL;exact Wn hb hm h kO (rO hu) (by rw[←hb.cl];exact(iA kO).2.2.2.2.1));have ZlA:=0;exact V542
theorem P9 (n:Int):wrap32 n=(n+2147483648)%4294967296-2147483648:=by unfold wrap32;omega
theorem je (n:Int) (w:World) (h0:0≤n) (h1:n<4294967296):O U 47 #[cS dA n] w fun e w'=>e=cZ (cS .i32 (wrap32 n))∧w=w':=by by_cases h:2147483648≤n;(·(have e:wrap32 n=n-4294967296:=by rw[P9];omega);rw[e];have hd:decide (2147483648≤n)=true:=decide_eq_true h;clear e;go_in;go_wp2_with fail;go_ret;exact⟨Gn,rfl⟩);(·(have e:wrap32 n=n:=by rw[P9];omega);rw[e];have hd:decide (2147483648≤n)=false:=decide_eq_false h;have h2:n<2147483648:=Om;clear e;go_in;go_wp2_with fail;go_ret;exact⟨Gn,rfl⟩)
theorem GT (n:Int):(0≤n→Int.tmod n 4294967296=n%4294967296)∧(n<0→Int.tmod n 4294967296=n%4294967296∧n%4294967296=0∨Int.tmod n 4294967296=n%4294967296-4294967296∧n%4294967296≠0∧n<0∨0≤n):=by constructor;(·intro h;exact Int.tmod_eq_emod_of_nonneg h);(·intro h;have:=Int.tmod_eq_emod (a:=n) (b:=4294967296);by_cases hd:(4294967296:Int)∣n;(·have h2:=Int.emod_eq_zero_of_dvd hd;rw[if_pos (.inr hd)]at this;exact .inl ⟨by rw[this];simp,h2⟩);(·rw[if_neg (by rintro(x|x);omega;exact hd x)]at this;refine .inr (.inl ⟨by rw[this];rfl,fun x=>hd (Int.dvd_of_emod_eq_zero x),h⟩)))
theorem GV {n l:Int} (h:l=n%4294967296):Int.tdiv (n-l) 4294967296=n/4294967296:=by rw[Int.tdiv_eq_ediv_of_dvd ⟨n/4294967296,by omega⟩];omega
theorem Wx (n:Int) (w:World) (hn:lJ n):O U 22 #[cS dA n] w fun e w'=>e=cZ (.tuple #[cS .i32 (wrap32 n),cS .i32 (wrap32 (n/4294967296))])∧w=w':=by obtain⟨Ns,oN⟩:=hn;obtain⟨l,hl⟩:=Ex (n%4294967296);have Nv:0≤l:=Om;have AW:l<4294967296:=Om;(have hw:wrap32 n=wrap32 l:=by rw[P9,P9];omega);have hq:=GV hl;have Ok:=Ih (fun w'=>je l w' Nv AW);obtain⟨q,hqe⟩:=Ex (n/4294967296);rw[←hqe]at hq⊢;have Am:-2147483648≤q:=Om;have uR:q≤2147483647:=Om;have sX:-9223372036854775808≤n-l:=Om;have hnl2:n-l≤9223372036854775807:=Om;(have Hh:wrap32 q=q:=by rw[P9];omega);rw[hw,Hh];obtain⟨t1,t2⟩:=GT n;rw[←hl]at t1 t2;clear hw Hh hqe;by_cases h0:0≤n;(·have t:=t1 h0;have hd:decide (l<0)=false:=decide_eq_false Om;exact V235);(·rcases t2 Om with⟨t,-⟩|⟨t,fM,-⟩|h;(·have hd:decide (l<0)=false:=decide_eq_false Om;exact V235);(·have hd:decide (l-4294967296<0)=true:=decide_eq_true Om;have dH:l<4294967296:=AW;have hadd:l-4294967296+4294967296=l:=Om;exact V235);(·omega))
def RT (kd n:Int):List Int:=if kd=1 then [wrap32 n]else [wrap32 n,wrap32 (n/4294967296)]
theorem Ww (kd n:Int) (a b c d:Value) (w:World) (hn:lJ n):O U 10 #[cX #[cS dA kd,cS dA n,a,b,c,d]] w fun x w'=>∃g:Nat,x=cZ (cT (some ⟨g,0,none⟩) (RT kd n).length (RT kd n).length)∧dG w w'∧w.heap.size≤g∧w'.heap[g]? =some (cY (pG (RT kd n)).toArray 21 (0,0)):=by have HH:=Ih (fun w'=>Wx n w' hn);obtain⟨Ns,oN⟩:=hn;by_cases hk:kd=1;(·subst hk;have e:RT 1 n=[wrap32 n]:=rfl;rw[e];clear HH e;go_in;go_wp2_with fail;exact V489);(·have FK:(kd==1)=false:=beq_eq_false_iff_ne.2 hk;have e:RT kd n=[wrap32 n,wrap32 (n/4294967296)]:=if_neg hk;rw[e];obtain⟨x1,vN⟩:=Ex (wrap32 n);obtain⟨x2,zI⟩:=Ex (wrap32 (n/4294967296));rw[←vN,←zI]at HH⊢;clear e hk vN zI;go_in;go_wp2_with (first|(refine(HH _).mono ?_;rintro e w' ⟨rfl,rfl⟩));exact V489)
end
end Go.Proofs.YtfbmaffacikgbaaGreat
