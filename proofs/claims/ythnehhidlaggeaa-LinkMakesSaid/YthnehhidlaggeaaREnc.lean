/- scarfjointref2.Encode: the walk. -/
import Derived.Test.YthnehhidlaggeaaChk
import Derived.Test.YthnehhidlaggeaaCodePlain
import Derived.IntWalk
namespace Go.Proofs.Ythnehhidlaggeaa
set_option linter.unusedVariables false
set_option linter.unusedSimpArgs false
open Go.RowKit

set_option maxHeartbeats 400000 in
theorem rencode_ok (op a b c i : Int) (w : World) (h : Cp.mayE op a b c i = 0) :
    Calls Try.prog 64 #[.agg #[.int .i64 op, .int .i64 a, .int .i64 b, .int .i64 c, .int .i64 i]] w fun e w' => e = .returned (.tuple #[.int .u32 (Cp.encN op a b c i), .int .i64 0]) ∧ Below w.heap.size w w' := by
  obtain ⟨h1, h2, a1, a2, b1, b2, c1, c2, i1, i2, hz⟩ := Cp.ok_bounds op a b c i h
  have HM := Lib.hid (fun w => check_any op a b c i w)
  rw [h] at HM
  obtain ⟨E, hE⟩ : ∃ E, E = Cp.encN op a b c i := ⟨_, rfl⟩
  rw [← hE]
  have hEE : E = op * 16777216 + a * 1048576 + b * 65536 + (c + i) % 65536 := hE
  have HE := Lib.hid hEE
  have hci : -32768 ≤ c + i ∧ c + i ≤ 65535 := by omega
  clear h hz hE hEE
  by_cases hn : c + i < 0
  all_goals
    have hw : IntKind.u32.wrap (((op * 16 + a) * 16 + b) * 65536 + (if c + i < 0 then c + i + 65536 else c + i)) = E := by
      rw [HE.out, IntWalk.u32_in _ (by split <;> omega)]
      split <;> omega
    first | rw [if_pos hn] at hw | rw [if_neg hn] at hw
    go_enter Try.func64, Try.ntmps64
    go_wp2_with fail
    refine (HM.out _).mono ?_
    rintro e w1 ⟨rfl, hb⟩
    have hs : w.heap.size < w1.heap.size := by have := hb.size; simp at this; omega
    have hI := (hb.block w.heap.size (by simp)).trans (heap_alloc_new w _)
    obtain ⟨p0, p1, p2, p3, p4, pz⟩ := blk5 hI
    have hB : Below w.heap.size w w1 := ((Below.refl _ _).alloc (Nat.le_refl _) _).trans (hb.mono (by simp))
    have HB := Lib.hid hB
    clear hb hI hB
    go_wp2_with fail
    go_ret2
    clear p0 p1 p2 p3 p4 pz
    exact ⟨rfl, HB.out⟩

set_option maxHeartbeats 400000 in
theorem rencode_bad (op a b c i er : Int) (w : World) (h : er = 2 ∨ er = 6) (hm : Cp.mayE op a b c i = er) :
    Calls Try.prog 64 #[.agg #[.int .i64 op, .int .i64 a, .int .i64 b, .int .i64 c, .int .i64 i]] w fun e w' => e = .returned (.tuple #[.int .u32 0, .int .i64 er]) ∧ Below w.heap.size w w' := by
  have HM := Lib.hid (fun w => check_any op a b c i w)
  rw [hm] at HM
  clear hm
  rcases h with rfl | rfl
  all_goals
    go_enter Try.func64, Try.ntmps64
    go_wp2_with fail
    refine (HM.out _).mono ?_
    rintro e w1 ⟨rfl, hb⟩
    have hB : Below w.heap.size w w1 := ((Below.refl _ _).alloc (Nat.le_refl _) _).trans (hb.mono (by simp))
    have HB := Lib.hid hB
    clear hb hB
    go_wp2_with fail
    go_ret2
    exact ⟨rfl, HB.out⟩

theorem rmayE_cases (op a b c i : Int) : Cp.mayE op a b c i = 0 ∨ Cp.mayE op a b c i = 2 ∨ Cp.mayE op a b c i = 6 := by
  unfold Cp.mayE
  split
  · exact .inr (.inl rfl)
  · split <;> simp

theorem rencode_any (op a b c i : Int) (w : World) :
    Calls Try.prog 64 #[.agg #[.int .i64 op, .int .i64 a, .int .i64 b, .int .i64 c, .int .i64 i]] w fun e w' =>
      e = .returned (.tuple #[.int .u32 (if Cp.mayE op a b c i = 0 then Cp.encN op a b c i else 0), .int .i64 (Cp.mayE op a b c i)]) ∧ Below w.heap.size w w' := by
  rcases rmayE_cases op a b c i with e | e
  · have h := rencode_ok op a b c i w e
    rw [if_pos e, e]
    exact h
  · rw [if_neg (by omega)]
    exact rencode_bad op a b c i _ w e rfl

end Go.Proofs.Ythnehhidlaggeaa
