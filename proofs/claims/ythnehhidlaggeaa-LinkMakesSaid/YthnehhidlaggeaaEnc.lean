/- code.Encode: the walk. -/
import Derived.Test.YthnehhidlaggeaaMay
import Derived.Test.YthnehhidlaggeaaCodePlain
namespace Go.Proofs.Ythnehhidlaggeaa
set_option linter.unusedVariables false
set_option linter.unusedSimpArgs false
open Go.RowKit

set_option maxHeartbeats 400000 in
theorem encode_ok (op a b c i : Int) (fv : Value) (w : World) (h : Cp.mayE op a b c i = 0) (hfv : ∃ v0 v1 v2 v3, fv = .agg #[.string v0, .string v1, .int .i64 v2, .int .i64 v3])
    (hm : ∀ w, Calls Try.prog 35 #[.agg #[.int .i64 op, .int .i64 a, .int .i64 b, .int .i64 c, .int .i64 i]] w fun e w' => e = .returned (.tuple #[fv, .int .i64 0]) ∧ Below w.heap.size w w') :
    Calls Try.prog 13 #[.agg #[.int .i64 op, .int .i64 a, .int .i64 b, .int .i64 c, .int .i64 i]] w fun e w' => e = .returned (.tuple #[.int .u32 (Cp.encN op a b c i), .int .i64 0]) ∧ Below w.heap.size w w' := by
  obtain ⟨h1, h2, a1, a2, b1, b2, c1, c2, i1, i2, hz⟩ := Cp.ok_bounds op a b c i h
  have he := Cp.enc_eq op a b c i h1 h2 a1 a2 b1 b2 c1 c2 i1 i2 hz
  have HE := Lib.hid he
  clear he hz h
  obtain ⟨v0, v1, v2, v3, rfl⟩ := hfv
  have HM := Lib.hid hm
  clear hm
  go_enter Try.func13, Try.ntmps13
  go_wp2_with fail
  refine (HM.out _).mono ?_
  rintro e w1 ⟨rfl, hb⟩
  have hs : w.heap.size < w1.heap.size := by have := hb.size; simp at this; omega
  have hI := (hb.block w.heap.size (by simp)).trans (heap_alloc_new w _)
  obtain ⟨p0, p1, p2, p3, p4, pz⟩ := blk5 hI
  have hB : Below w.heap.size w w1 := ((Below.refl _ _).alloc (Nat.le_refl _) _).trans (hb.mono (by simp))
  clear hb hI
  go_wp2_with fail
  go_ret2
  clear p0 p1 p2 p3 p4 pz
  exact ⟨by rw [← HE.out]; rfl, hB.alloc hB.size _⟩

set_option maxHeartbeats 400000 in
theorem encode_bad (op a b c i er : Int) (fv : Value) (w : World) (h : er = 2 ∨ er = 6) (hfv : ∃ v0 v1 v2 v3, fv = .agg #[.string v0, .string v1, .int .i64 v2, .int .i64 v3])
    (hm : ∀ w, Calls Try.prog 35 #[.agg #[.int .i64 op, .int .i64 a, .int .i64 b, .int .i64 c, .int .i64 i]] w fun e w' => e = .returned (.tuple #[fv, .int .i64 er]) ∧ Below w.heap.size w w') :
    Calls Try.prog 13 #[.agg #[.int .i64 op, .int .i64 a, .int .i64 b, .int .i64 c, .int .i64 i]] w fun e w' => e = .returned (.tuple #[.int .u32 0, .int .i64 er]) ∧ Below w.heap.size w w' := by
  obtain ⟨v0, v1, v2, v3, rfl⟩ := hfv
  have HM := Lib.hid hm
  clear hm
  rcases h with rfl | rfl
  all_goals
    go_enter Try.func13, Try.ntmps13
    go_wp2_with fail
    refine (HM.out _).mono ?_
    rintro e w1 ⟨rfl, hb⟩
    have hB : Below w.heap.size w w1 := ((Below.refl _ _).alloc (Nat.le_refl _) _).trans (hb.mono (by simp))
    clear hb
    go_wp2_with fail
    go_ret2
    exact ⟨rfl, hB.alloc hB.size _⟩

theorem mayE_cases (op a b c i : Int) : Cp.mayE op a b c i = 0 ∨ Cp.mayE op a b c i = 2 ∨ Cp.mayE op a b c i = 6 := by
  unfold Cp.mayE
  split
  · exact .inr (.inl rfl)
  · split <;> simp

theorem formV_form (op : Int) : ∃ v0 v1 v2 v3, Cp.formV op = .agg #[.string v0, .string v1, .int .i64 v2, .int .i64 v3] := by
  unfold Cp.formV
  split <;> exact ⟨_, _, _, _, rfl⟩

theorem encode_any (op a b c i : Int) (w : World) (h1 : -9223372036854775808 ≤ op) (h2 : op ≤ 9223372036854775807) :
    Calls Try.prog 13 #[.agg #[.int .i64 op, .int .i64 a, .int .i64 b, .int .i64 c, .int .i64 i]] w fun e w' =>
      e = .returned (.tuple #[.int .u32 (if Cp.mayE op a b c i = 0 then Cp.encN op a b c i else 0), .int .i64 (Cp.mayE op a b c i)]) ∧ Below w.heap.size w w' := by
  have hm := fun w => may_any op a b c i w h1 h2
  rcases mayE_cases op a b c i with e | e
  · have h := e
    rw [e] at hm ⊢
    exact encode_ok op a b c i _ w h (formV_form op) hm
  · have hne : ¬ Cp.mayE op a b c i = 0 := by omega
    rw [if_neg hne]
    exact encode_bad op a b c i _ _ w e (formV_form op) hm

end Go.Proofs.Ythnehhidlaggeaa
