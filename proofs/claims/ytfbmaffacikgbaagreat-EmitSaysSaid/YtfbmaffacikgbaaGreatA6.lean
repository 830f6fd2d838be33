/- A part of the proof of EmitSays. -/
import Derived.Test.YtfbmaffacikgbaaGreatA5
set_option maxRecDepth 100000
set_option maxHeartbeats 4000000
set_option linter.unusedVariables false
set_option linter.unusedSimpArgs false
open Go renaming Calls→O
open Go.Proofs.Tryz renaming prog→U
open Nat renaming le_refl→aA
open Go.RowKit.Below renaming refl→aC
open Go.World renaming cell?_alloc_lt→bO
open Go.Value renaming int→cS
open Go.Value renaming string→cU
open Go.Value renaming bool→cV
open Go.Value renaming agg→cX
open Go.Obj renaming cells→cY
open Go.Ending renaming returned→cZ
open Go.IntKind renaming i64→dA
namespace Go.Proofs.YtfbmaffacikgbaaGreat
variable {w W w' W':World} {r i base size b:Nat} {v:Value} {e:TypeId} {vs:List Value} {P:Program} {p ps:Option Addr} {s:ByteArray} {x:Int}
section
open Go.RowKit
theorem Sm (n:Int) (w:World) (h0:0≤n) (h1:n≤4294967295)
 (ho:∀w,O U 44 #[cS dA (n/16777216)] w (RB w (.tuple #[cX #[cS dA 0,cU ⟨#[]⟩,cU ⟨#[]⟩,cV false],cV false]))):
 O U 21 #[cS .u32 n] w (RB w (.tuple #[Cp.instrOf 0 0 0 0 0,cV false])):=by have HO:=Ih ho;clear ho;go_in;go_wp2_with fail;refine(HO _).mono ?_;have ZcK:=0;exact V295
theorem jd (n:Int) (w:World) (h0:0≤n) (h1:n≤4294967295) (nm F:ByteArray) (s:Bool)
 (ho:∀w,O U 44 #[cS dA (n/16777216)] w (RB w (.tuple #[cX #[cS dA (n/16777216),cU nm,cU F,cV s],cV true])))
 (Ts:F.size≤9223372036854775807) (hF:F.data.toList.contains 73=false)
 (hm:∀w,O U 46 #[Cp.instrOf (n/16777216) (n/1048576%16) (n/65536%16) (n%65536) 0] w (RB w (cS dA 0))):
 Calls U 21 #[cS .u32 n] w fun e w'=>e=cZ (.tuple #[Cp.instrOf (n/16777216) (n/1048576%16) (n/65536%16) (n%65536) 0,cV true])∧Below w.heap.size w w':=by have Z0U:=0;exact V5
theorem jc (n:Int) (w:World) (h0:0≤n) (h1:n≤4294967295) (nm F:ByteArray) (s:Bool)
 (ho:∀w,O U 44 #[cS dA (n/16777216)] w (RB w (.tuple #[cX #[cS dA (n/16777216),cU nm,cU F,cV s],cV true])))
 (Ts:F.size≤9223372036854775807) (hF:F.data.toList.contains 73=false)
 (hm:∀w,O U 46 #[Cp.instrOf (n/16777216) (n/1048576%16) (n/65536%16) (n%65536) 0] w (RB w (cS dA 6))):
 Calls U 21 #[cS .u32 n] w fun e w'=>e=cZ (.tuple #[Cp.instrOf 0 0 0 0 0,cV false])∧Below w.heap.size w w':=by have Z0V:=0;exact V5
theorem jb (n:Int) (w:World) (h0:0≤n) (h1:n≤4294967295) (nm F:ByteArray)
 (ho:∀w,O U 44 #[cS dA (n/16777216)] w (RB w (.tuple #[cX #[cS dA (n/16777216),cU nm,cU F,cV true],cV true])))
 (Ts:F.size≤9223372036854775807) (hF:F.data.toList.contains 73=true) (Xz:32768≤n%65536)
 (hm:∀w,O U 46 #[Cp.instrOf (n/16777216) (n/1048576%16) (n/65536%16) 0 (n%65536-65536)] w (RB w (cS dA 0))):
 Calls U 21 #[cS .u32 n] w fun e w'=>e=cZ (.tuple #[Cp.instrOf (n/16777216) (n/1048576%16) (n/65536%16) 0 (n%65536-65536),cV true])∧Below w.heap.size w w':=by have Z0W:=0;exact V5
theorem iy (n:Int) (w:World) (h0:0≤n) (h1:n≤4294967295) (nm F:ByteArray)
 (ho:∀w,O U 44 #[cS dA (n/16777216)] w (RB w (.tuple #[cX #[cS dA (n/16777216),cU nm,cU F,cV true],cV true])))
 (Ts:F.size≤9223372036854775807) (hF:F.data.toList.contains 73=true) (Xz:32768≤n%65536)
 (hm:∀w,O U 46 #[Cp.instrOf (n/16777216) (n/1048576%16) (n/65536%16) 0 (n%65536-65536)] w (RB w (cS dA 6))):
 Calls U 21 #[cS .u32 n] w fun e w'=>e=cZ (.tuple #[Cp.instrOf 0 0 0 0 0,cV false])∧Below w.heap.size w w':=by have Z0V:=0;exact V5
theorem ix (n:Int) (w:World) (h0:0≤n) (h1:n≤4294967295) (nm F:ByteArray)
 (ho:∀w,O U 44 #[cS dA (n/16777216)] w (RB w (.tuple #[cX #[cS dA (n/16777216),cU nm,cU F,cV true],cV true])))
 (Ts:F.size≤9223372036854775807) (hF:F.data.toList.contains 73=true) (Xz:n%65536<32768)
 (hm:∀w,O U 46 #[Cp.instrOf (n/16777216) (n/1048576%16) (n/65536%16) 0 (n%65536)] w (RB w (cS dA 0))):
 Calls U 21 #[cS .u32 n] w fun e w'=>e=cZ (.tuple #[Cp.instrOf (n/16777216) (n/1048576%16) (n/65536%16) 0 (n%65536),cV true])∧Below w.heap.size w w':=by have Z0X:=0;exact V5
theorem iw (n:Int) (w:World) (h0:0≤n) (h1:n≤4294967295) (nm F:ByteArray)
 (ho:∀w,O U 44 #[cS dA (n/16777216)] w (RB w (.tuple #[cX #[cS dA (n/16777216),cU nm,cU F,cV true],cV true])))
 (Ts:F.size≤9223372036854775807) (hF:F.data.toList.contains 73=true) (Xz:n%65536<32768)
 (hm:∀w,O U 46 #[Cp.instrOf (n/16777216) (n/1048576%16) (n/65536%16) 0 (n%65536)] w (RB w (cS dA 6))):
 Calls U 21 #[cS .u32 n] w fun e w'=>e=cZ (.tuple #[Cp.instrOf 0 0 0 0 0,cV false])∧Below w.heap.size w w':=by have Z0V:=0;exact V5
theorem iv (n:Int) (w:World) (h0:0≤n) (h1:n≤4294967295) (nm F:ByteArray)
 (ho:∀w,O U 44 #[cS dA (n/16777216)] w (RB w (.tuple #[cX #[cS dA (n/16777216),cU nm,cU F,cV false],cV true])))
 (Ts:F.size≤9223372036854775807) (hF:F.data.toList.contains 73=true)
 (hm:∀w,O U 46 #[Cp.instrOf (n/16777216) (n/1048576%16) (n/65536%16) 0 (n%65536)] w (RB w (cS dA 0))):
 Calls U 21 #[cS .u32 n] w fun e w'=>e=cZ (.tuple #[Cp.instrOf (n/16777216) (n/1048576%16) (n/65536%16) 0 (n%65536),cV true])∧Below w.heap.size w w':=by have Z0X:=0;exact V5
theorem iu (n:Int) (w:World) (h0:0≤n) (h1:n≤4294967295) (nm F:ByteArray)
 (ho:∀w,O U 44 #[cS dA (n/16777216)] w (RB w (.tuple #[cX #[cS dA (n/16777216),cU nm,cU F,cV false],cV true])))
 (Ts:F.size≤9223372036854775807) (hF:F.data.toList.contains 73=true)
 (hm:∀w,O U 46 #[Cp.instrOf (n/16777216) (n/1048576%16) (n/65536%16) 0 (n%65536)] w (RB w (cS dA 6))):
 Calls U 21 #[cS .u32 n] w fun e w'=>e=cZ (.tuple #[Cp.instrOf 0 0 0 0 0,cV false])∧Below w.heap.size w w':=by have Z0V:=0;exact V5
theorem Wv (n:Int) (w:World) (h0:0≤n) (h1:n≤4294967295):
 O U 21 #[cS .u32 n] w (RB w (.tuple #[Cp.decV (Cp.dec n),cV (Cp.dec n).isSome])):=by
 have ho:=fun w=>Yv (n/16777216) w;have hm:=fun(c i:Int) (w:World)=>I1 (n/16777216) (n/1048576%16) (n/65536%16) c i w;have Ts:=Cp.fields_short (n/16777216);rcases hf:Cp.find (n/16777216)with _|⟨nm,f,s⟩;(·(have e:Cp.dec n=none:=by unfold Cp.dec;rw[hf]);rw[e];(have hv:Cp.rowV (n/16777216)=cX #[cS dA 0,cU ⟨#[]⟩,cU ⟨#[]⟩,cV false]:=by unfold Cp.rowV;rw[hf]);rw[hv,hf]at ho;exact Sm n w h0 h1 ho)
 ·(have hv:Cp.rowV (n/16777216)=cX #[cS dA (n/16777216),cU ⟨nm.toArray⟩,cU ⟨f.toArray⟩,cV s]:=by unfold Cp.rowV;rw[hf]);rw[hv,hf]at ho;(have gO:(⟨f.toArray⟩:ByteArray).size≤9223372036854775807:=by rw[hf]at Ts;simp only at Ts;show f.toArray.size≤_;rw[List.size_toArray];omega);clear Ts;(have hE:∀c i,Cp.mayE (n/16777216) (n/1048576%16) (n/65536%16) c i=0∨Cp.mayE (n/16777216) (n/1048576%16) (n/65536%16) c i=6:=by intro c i;unfold Cp.mayE;rw[hf];simp only;split<;>simp)
  have hd:Cp.dec n=if Cp.mayE (n/16777216) (n/1048576%16) (n/65536%16) (Cp.decC f n) (Cp.decI f s n)=0 then
   some (n/16777216,n/1048576%16,n/65536%16,Cp.decC f n,Cp.decI f s n)else none:=by unfold Cp.dec;rw[hf]
  have Du:=hm (Cp.decC f n) (Cp.decI f s n);have LI:=hE (Cp.decC f n) (Cp.decI f s n);clear hm hE
  cases hF:f.contains 73 with
   |false=>
    have hc:Cp.decC f n=n%65536:=by unfold Cp.decC;rw[hF];rfl
    have hi:Cp.decI f s n=0:=by unfold Cp.decI;rw[hF];rfl
    rw[hc,hi]at Du LI hd
    rcases LI with e|e
    ·rw[e]at Du hd
     rw[hd]
     exact jd n w h0 h1 _ _ s ho gO (by simpa using hF) Du
    ·rw[e]at Du hd
     rw[hd]
     exact jc n w h0 h1 _ _ s ho gO (by simpa using hF) Du
   |true=>
    have hc:Cp.decC f n=0:=by unfold Cp.decC;rw[hF];rfl
    rw[hc]at Du LI hd
    cases s with
    |true=>
     by_cases Xz:32768≤n%65536
     ·have hi:Cp.decI f true n=n%65536-65536:=by unfold Cp.decI;rw[hF];simp[Xz]
      rw[hi]at Du LI hd
      rcases LI with e|e
      ·rw[e]at Du hd
       rw[hd]
       exact jb n w h0 h1 _ _ ho gO (by simpa using hF) Xz Du
      ·rw[e]at Du hd
       rw[hd]
       exact iy n w h0 h1 _ _ ho gO (by simpa using hF) Xz Du
     ·have hi:Cp.decI f true n=n%65536:=by unfold Cp.decI;rw[hF];simp[Xz]
      rw[hi]at Du LI hd
      rcases LI with e|e
      ·rw[e]at Du hd
       rw[hd]
       exact ix n w h0 h1 _ _ ho gO (by simpa using hF) Om Du
      ·rw[e]at Du hd
       rw[hd]
       exact iw n w h0 h1 _ _ ho gO (by simpa using hF) Om Du
    |false=>
     have hi:Cp.decI f false n=n%65536:=by unfold Cp.decI;rw[hF];rfl
     rw[hi]at Du LI hd
     rcases LI with e|e
     ·rw[e]at Du hd
      rw[hd]
      exact iv n w h0 h1 _ _ ho gO (by simpa using hF) Du
     ·rw[e]at Du hd
      rw[hd]
      exact iu n w h0 h1 _ _ ho gO (by simpa using hF) Du
end
section
open Go.RowKit Go.WideShapes Go.ChangeShapes
section
variable {H:Type} {enc:TypeId×Value→H} {P:Program}
theorem Nj {f:Func} {s:ChangeSpec} {apart CA Tz DA:Bool} {args:Array Value} {ds gs:List (DataW H)} {tJ pa pv:List MemPlace}
 (hW:DataW.Whole enc P f.params.toList s.vars apart W args.toList ds gs tJ)
 (sJ:∀(b:Nat) (sp:Nat→Bool) (hd:Bool),DataW.TrodAll enc P W' b sp hd f.resultTypes.toList (v.resultList f.resultTypes.size) (s.fn H (ds++gs)).results [])
 (Ym:∀sp:Nat→Bool,(∀p∈tJ,sp p.block=true)→DataW.TrodAll enc P W' 0 sp true f.params.toList args.toList (s.fn H (ds++gs)).args pa)
 (ux:∀sp:Nat→Bool,(∀p∈tJ,sp p.block=true)→DataW.TrodVars enc P W' sp s.vars (s.fn H (ds++gs)).vars pv)
 (kD:tJ=pa++pv) (hb:dG W W')
 (uB:∀(j:Nat) (t:TypeId) (r:Value),f.resultTypes[j]? =some t→(v.resultList f.resultTypes.size)[j]? =some r→Value.okWide P W' .any 0 t r):
 s.post enc P f apart CA Tz DA W args v W':=by have dH:∀p∈tJ,p.block<W.heap.size:=fun p hp=>hW.lt p hp;(have hold:∀p∈tJ,(fun b=>decide (b<W.heap.size)) p.block=true:=fun p hp=>by simpa using dH p hp);refine⟨ds,gs,tJ,[],pa,pv,hW,sJ _ _ _,Ym _ hold,ux _ hold,World.keptBut_mono (fun p hp=>⟨hp,?_⟩) (hb.frame (·∈tJ)),fun _=>?_⟩;(·rw[kD,List.mem_append]at hp;exact Or.inr hp);(·obtain⟨_,_,_,_,_,hz,hn⟩:=hW;refine⟨uB,_,_,([]++pa)++pv,⟨[]++pa,pv,trodAll_append (Ym _ (fun _ _=>rfl)) (sJ _ _ _),ux _ (fun _ _=>rfl),rfl,?_,?_⟩,?_⟩;(·intro b vK hp;(have xD:MemPlace.cell b vK∈tJ:=by rw[kD];simpa using hp);rw[hb.frozen (dH _ xD)];exact hz b vK xD);(·intro ha;have:=hn ha;rw[kD]at this;simpa using this);(·intro p hp _;rw[kD];simpa using hp))
end
open Go.RowKit Go.WideShapes Go.ChangeShapes
section
variable {H:Type} {enc:TypeId×Value→H} {P:Program}
theorem Ai (hl:laidOutB P=true) {W W':World} {base:Nat} {sp':Nat→Bool}:∀{ts:List TypeId} {vs:List Value} {ds:List (DataW H)} {ps:List MemPlace},(∀t∈ts,P.readableRec t=true∧t<P.types.size)→
 DataW.TrodAll enc P W base (fun _=>true) true ts vs ds ps→(∀p∈ps,W.sameAt W' p)→(∀p∈ps,sp' p.block=true)→DataW.TrodAll enc P W' base sp' true ts vs ds ps
 |[],[],[],_,_,h,_,_=>h
 |_::_,_::_,_::_,_,hT,⟨p,q,h1,h2,e⟩,hw,hs=>⟨p,q,WideElems.Trod_stays hl (hT _ (List.mem_cons.2 (Or.inl rfl))).1 (hT _ (List.mem_cons.2 (Or.inl rfl))).2 h1 (fun x hx=>hw x (by rw[e];exact List.mem_append_left _ hx)) (fun x hx=>hs x (by rw[e];exact List.mem_append_left _ hx)),
  Ai hl (fun t ht=>hT t (List.mem_cons.2 (Or.inr ht))) h2 (fun x hx=>hw x (by rw[e];exact List.mem_append_right _ hx)) (fun x hx=>hs x (by rw[e];exact List.mem_append_right _ hx)),e⟩
theorem Sq (hl:laidOutB P=true) {f:Func} {s:ChangeSpec} {apart CA Tz DA:Bool} {W W':World} {args:Array Value} {v:Value} {ds:List (DataW H)} {ps:List MemPlace}
 (hT:∀t∈f.params.toList,P.readableRec t=true∧t<P.types.size)
 (hW:DataW.Whole enc P f.params.toList s.vars apart W args.toList ds [] ps) (hA:DataW.TrodAll enc P W 0 (fun _=>true) true f.params.toList args.toList ds ps)
 (sJ:∀(b:Nat) (sp:Nat→Bool) (hd:Bool),DataW.TrodAll enc P W' b sp hd f.resultTypes.toList (v.resultList f.resultTypes.size) (s.fn H (ds++[])).results [])
 (Ym:(s.fn H (ds++[])).args=ds) (ux:∀sp:Nat→Bool,DataW.TrodVars enc P W' sp s.vars (s.fn H (ds++[])).vars [])
 (hb:dG W W')
 (uB:∀(j:Nat) (t:TypeId) (r:Value),f.resultTypes[j]? =some t→(v.resultList f.resultTypes.size)[j]? =some r→Value.okWide P W' .any 0 t r):
 s.post enc P f apart CA Tz DA W args v W':=by have dH:∀p∈ps,p.block<W.heap.size:=fun p hp=>hW.lt p hp;refine Nj (pa:=ps) (pv:=[]) hW sJ (fun sp M1=>?_) (fun sp _=>ux sp) Si hb uB;rw[Ym];exact Ai hl hT hA (fun p hp=>hb.same (dH p hp)) M1
end
end
end Go.Proofs.YtfbmaffacikgbaaGreat
