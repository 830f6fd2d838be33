/- A part of the proof of EmitSays. -/
import Derived.Test.YtfbmaffacikgbaaGreatA9
set_option maxRecDepth 100000
set_option maxHeartbeats 4000000
set_option linter.unusedVariables false
set_option linter.unusedSimpArgs false
open Go renaming Calls→O
open Go.Proofs.Tryz renaming prog→U
open Nat renaming le_refl→aA,le_trans→aG,zero_le→aJ
open List renaming getElem?_eq_getElem→aB,getElem_mem→aE,take_succ_eq_append_getElem→aL,getD_eq_getElem?_getD→aN,length_take→aO,getElem_of_mem→aQ,take_of_length_le→aY
open Go.RowKit.Below renaming refl→aC
open Go.World renaming alloc_heap_new→aH
open Go.Lib renaming alloc_old→aR
open Bool renaming and_eq_true→aV
open Go.IntWalk renaming i64_in→aX
open Go.Proofs.Tryz renaming underlying3→bG,underlying4→bQ
open Go.Value renaming int→cS
open Go.Value renaming slice→cT
open Go.Value renaming string→cU
open Go.Value renaming bool→cV
open Go.Value renaming agg→cX
open Go.Obj renaming cells→cY
open Go.Ending renaming returned→cZ
open Go.IntKind renaming i64→dA
namespace Go.Proofs.YtfbmaffacikgbaaGreat
variable {w:World} {r b:Nat} {v:Value} {P:Program}
section
open Go.RowKit Go.Shelf Ob Ty
theorem m4 (b:oJ) (v:BV) (o:Ord) (u:OV) (w:World) (hb:BodAt w b v) (ho:OrdAt w o u) (hf:mL b.ty=true) (hk:o.op=11):
 O U 90 #[gG v b,iW u o] w (RB w (cV (eD b o))):=by have Z2E:=0;exact V55
theorem j9 (b:oJ) (v:BV) (o:Ord) (u:OV) (w:World) (hb:BodAt w b v) (ho:OrdAt w o u) (hf:mL b.ty=true) (hk:o.op=12):
 O U 90 #[gG v b,iW u o] w (RB w (cV (eD b o))):=by have Z2F:=0;exact V55
theorem j8 (b:oJ) (v:BV) (o:Ord) (u:OV) (w:World) (hb:BodAt w b v) (ho:OrdAt w o u) (hf:mL b.ty=true) (hk:o.op=13):
 O U 90 #[gG v b,iW u o] w (RB w (cV (eD b o))):=by have Z2G:=0;exact V55
theorem j7 (b:oJ) (v:BV) (o:Ord) (u:OV) (w:World) (hb:BodAt w b v) (ho:OrdAt w o u) (hf:mL b.ty=true) (hk:o.op=14):
 O U 90 #[gG v b,iW u o] w (RB w (cV (eD b o))):=by have Z2H:=0;exact V55
theorem R6 (b:oJ) (v:BV) (o:Ord) (u:OV) (w:World) (hb:BodAt w b v) (ho:OrdAt w o u) (hf:mL b.ty=true) (hk:o.op=5):
 O U 90 #[gG v b,iW u o] w (RB w (cV (eD b o))):=by have Z0e:=0;exact V2
theorem R5 (b:oJ) (v:BV) (o:Ord) (u:OV) (w:World) (hb:BodAt w b v) (ho:OrdAt w o u) (hf:mL b.ty=true) (hk:o.op=6):
 O U 90 #[gG v b,iW u o] w (RB w (cV (eD b o))):=by have Z2B:=0;exact V55
theorem R2 (b:oJ) (v:BV) (o:Ord) (u:OV) (w:World) (hb:BodAt w b v) (ho:OrdAt w o u) (hf:mL b.ty=true) (hk:o.op=9):
 O U 90 #[gG v b,iW u o] w (RB w (cV (eD b o))):=by have Z2C:=0;exact V55
theorem m5 (b:oJ) (v:BV) (o:Ord) (u:OV) (w:World) (hb:BodAt w b v) (ho:OrdAt w o u) (hf:mL b.ty=true) (hk:o.op=10):
 O U 90 #[gG v b,iW u o] w (RB w (cV (eD b o))):=by have Z2D:=0;exact V55
theorem ip (b:oJ) (v:BV) (o:Ord) (u:OV) (w:World) (hb:BodAt w b v) (ho:OrdAt w o u) (hf:mL b.ty=true):
 O U 90 #[gG v b,iW u o] w (RB w (cV (eD b o))):=by by_cases k1:o.op=1;(·exact S0 b v o u w hb ho hf k1);by_cases k2:o.op=2;(·exact R9 b v o u w hb ho hf k2);by_cases k3:o.op=3;(·exact R8 b v o u w hb ho hf k3);by_cases k4:o.op=4;(·exact R7 b v o u w hb ho hf k4);by_cases k5:o.op=5;(·exact R6 b v o u w hb ho hf k5);by_cases k6:o.op=6;(·exact R5 b v o u w hb ho hf k6);by_cases k7:o.op=7;(·exact R4 b v o u w hb ho hf k7);by_cases k8:o.op=8;(·exact R3 b v o u w hb ho hf k8);by_cases k9:o.op=9;(·exact R2 b v o u w hb ho hf k9);by_cases cm:o.op=10;(·exact m5 b v o u w hb ho hf cm);by_cases FC:o.op=11;(·exact m4 b v o u w hb ho hf FC);by_cases uw:o.op=12;(·exact j9 b v o u w hb ho hf uw);by_cases FB:o.op=13;(·exact j8 b v o u w hb ho hf FB);by_cases FA:o.op=14;(·exact j7 b v o u w hb ho hf FA);exact S1 b v o u w hb ho hf k1 k2 k3 k4 k5 k6 k7 k8 k9 cm FC uw FB FA
theorem Wq (b:oJ) (v:BV) (w:World) (hb:BodAt w b v):
 O U 34 #[gG v b] w (RB w (cV (nV b))):=by
 obtain⟨r,hr⟩:=Ex (nV b);rw[←hr];obtain⟨te,fD⟩:=hb.ty;have gQ:=hb.cl;have GI:=Ih hb;have sG:=Ih fD;unfold gG;obtain⟨P,hP⟩:=Ex (eR b.ty);obtain⟨xi,wZ⟩:=Ex (nW b.name);obtain⟨fb,Na⟩:=Ex (mL b.ty)
 have HR:Hid (r=(xi&&fb&&decide ((P:Int)≤b.regs)&&decide (b.regs≤8000)&&decide (1≤v.nc)&&decide (v.nc≤6000)&&b.code.all (eD b)&&(decide (kM b.code=9)||decide (kM b.code=12)))):=Ih (by
  rw[hr,←gQ,wZ,Na,hP]
  unfold nV mL
  simp only[Bool.and_assoc])
 have Z3F:=0;exact V62
end
end Go.Proofs.YtfbmaffacikgbaaGreat
