/- scarfjointlaw.CodeEncodes: the walk. -/
import Derived.Test.YthnehhidlaggeaaDoorText
import Derived.Test.YthnehhidlaggeaaDoorRText
namespace Go.Proofs.YthnehhidlaggeaaDoor
set_option linter.unusedVariables false
set_option linter.unusedSimpArgs false
open Go.RowKit

set_option maxRecDepth 100000 in
set_option maxHeartbeats 1000000 in
theorem encodes_law (op a b c i : Int) (w : World) (h1 : -9223372036854775808 ≤ op) (h2 : op ≤ 9223372036854775807) (htab : Lib.TabIs Tryd.prog w "internal/strconv.uint64pow10" .u64 Lib.pow10Tab) :
    Calls Tryd.prog 3 #[.agg #[.int .i64 op, .int .i64 a, .int .i64 b, .int .i64 c, .int .i64 i]] w fun e w' => e = .returned (.bool true) ∧ Below w.heap.size w w' := by
  obtain ⟨N, hN⟩ : ∃ N, N = (if Cp.mayE op a b c i = 0 then Cp.encN op a b c i else 0) := ⟨_, rfl⟩
  obtain ⟨E, hE⟩ : ∃ E, E = Cp.mayE op a b c i := ⟨_, rfl⟩
  obtain ⟨S, hS⟩ : ∃ S, S = str (Cp.textT op a b c i) := ⟨_, rfl⟩
  have hc1 := fun w => encode_any op a b c i w h1 h2
  have hc2 := fun w => rencode_any op a b c i w
  have hc3 := fun w => text_any op a b c i w h1 h2
  have hc4 := fun w => rtext_any op a b c i w
  rw [← hN, ← hE] at hc1 hc2
  rw [← hS, ← hE] at hc3 hc4
  have H1 := Lib.hid hc1
  have H2 := Lib.hid hc2
  have H3 := Lib.hid hc3
  have H4 := Lib.hid hc4
  have HT := Lib.hid (Lib.tabBelow_of_tabIs htab)
  clear hN hE hS hc1 hc2 hc3 hc4 htab
  go_enter Tryd.func3, Tryd.ntmps3
  go_wp2_with fail
  refine (H1.out _).mono ?_
  rintro e w1 ⟨rfl, hb⟩
  have hI := (hb.block w.heap.size (by simp)).trans (heap_alloc_new w _)
  have hB : Below w.heap.size w w1 := ((Below.refl _ _).alloc (Nat.le_refl _) _).trans (hb.mono (by simp))
  obtain ⟨p0, p1, p2, p3, p4, pz⟩ := blk5 hI
  have HI := Lib.hid hI
  have HB := Lib.hid hB
  clear hb hI hB
  go_wp2_with fail
  refine (H2.out _).mono ?_
  rintro e w2 ⟨rfl, hb⟩
  have hI := (hb.block w.heap.size (lt_of_block HI.out)).trans HI.out
  have hB := HB.out.trans (hb.mono HB.out.size)
  clear HI HB p0 p1 p2 p3 p4 pz
  obtain ⟨p0, p1, p2, p3, p4, pz⟩ := blk5 hI
  have HI := Lib.hid hI
  have HB := Lib.hid hB
  clear hb hI hB
  go_wp2_with fail
  refine (H3.out _ (HT.out _ HB.out)).mono ?_
  rintro e w3 ⟨rfl, hb⟩
  have hI := (hb.block w.heap.size (lt_of_block HI.out)).trans HI.out
  have hB := HB.out.trans (hb.mono HB.out.size)
  clear HI HB p0 p1 p2 p3 p4 pz
  obtain ⟨p0, p1, p2, p3, p4, pz⟩ := blk5 hI
  have HI := Lib.hid hI
  have HB := Lib.hid hB
  clear hb hI hB
  go_wp2_with fail
  refine (H4.out _).mono ?_
  rintro e w4 ⟨rfl, hb⟩
  have hB := HB.out.trans (hb.mono HB.out.size)
  have HB2 := Lib.hid hB
  clear HI HB p0 p1 p2 p3 p4 pz hb hB
  go_wp2_with fail
  go_ret
  exact ⟨rfl, HB2.out⟩

end Go.Proofs.YthnehhidlaggeaaDoor
