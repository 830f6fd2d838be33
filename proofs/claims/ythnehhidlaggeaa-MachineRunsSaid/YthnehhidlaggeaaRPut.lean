/- The reference's put: a register is given a word. -/
import Derived.Test.YthnehhidlaggeaaRMat
namespace Go.Proofs.Ythnehhidlaggeaa
set_option linter.unusedVariables false
set_option linter.unusedSimpArgs false
open Go.RowKit Mc

set_option maxHeartbeats 400000 in
theorem rput_reg (x r : Nat) (v : Int) (u : Value) (w : World) (hr : r < 16) (h13 : r ≠ 13) (hc : w.cell? ⟨x, 4 + r, none⟩ = some u) (hz : ∀ o, w.frozen? ⟨x, o, none⟩ = false) :
    Calls Try.prog 74 #[.pointer (some ⟨x, 0, none⟩), .int .i64 r, .int .i32 v] w fun e w' => e = .returned (.tuple #[]) ∧ w.setCell ⟨x, 4 + r, none⟩ (.int .i32 v) = w' := by
  have ht : ((r : Int) == 13) = false := by rw [beq_eq_false_iff_ne]; omega
  have hri : (r : Int) < 16 := by omega
  clear h13
  go_enter Try.func74, Try.ntmps74
  go_wp2_with fail
  go_end0
  exact ⟨rfl, rfl⟩

set_option maxHeartbeats 400000 in
theorem rput_sp (x g : Nat) (v u low : Int) (M cap : Nat) (w : World) (v1 : -2147483648 ≤ v) (v2 : v ≤ 2147483647) (hc : w.cell? ⟨x, 17, none⟩ = some (.int .i32 u)) (hl : w.cell? ⟨x, 3, none⟩ = some (.int .i64 low))
    (hw : w.cell? ⟨x, 2, none⟩ = some (.slice (some ⟨g, 0, none⟩) M cap)) (hz : ∀ o, w.frozen? ⟨x, o, none⟩ = false) (h1 : low ≤ v) (h2 : v ≤ M) :
    Calls Try.prog 74 #[.pointer (some ⟨x, 0, none⟩), .int .i64 13, .int .i32 v] w fun e w' => e = .returned (.tuple #[]) ∧ w.setCell ⟨x, 17, none⟩ (.int .i32 v) = w' := by
  have d1 : decide (v < low) = false := by simpa using h1
  have d2 : decide ((M : Int) < v) = false := by simpa using h2
  go_enter Try.func74, Try.ntmps74
  go_wp2_with fail
  go_end0
  exact ⟨rfl, rfl⟩

set_option maxHeartbeats 400000 in
theorem rput_full (x g : Nat) (v u low f : Int) (M cap : Nat) (w : World) (v1 : -2147483648 ≤ v) (v2 : v ≤ 2147483647) (hc : w.cell? ⟨x, 17, none⟩ = some (.int .i32 u)) (hl : w.cell? ⟨x, 3, none⟩ = some (.int .i64 low))
    (hw : w.cell? ⟨x, 2, none⟩ = some (.slice (some ⟨g, 0, none⟩) M cap)) (he : w.cell? ⟨x, 22, none⟩ = some (.int .i64 f)) (hz : ∀ o, w.frozen? ⟨x, o, none⟩ = false) (h1 : v < low) (h2 : v ≤ M) :
    Calls Try.prog 74 #[.pointer (some ⟨x, 0, none⟩), .int .i64 13, .int .i32 v] w fun e w' => e = .returned (.tuple #[]) ∧ (w.setCell ⟨x, 17, none⟩ (.int .i32 v)).setCell ⟨x, 22, none⟩ (.int .i64 3) = w' := by
  have d1 : decide (v < low) = true := by simpa using h1
  have d2 : decide ((M : Int) < v) = false := by simpa using h2
  go_enter Try.func74, Try.ntmps74
  go_wp2_with fail
  go_end0
  exact ⟨rfl, rfl⟩

set_option maxHeartbeats 400000 in
theorem rput_wrong (x g : Nat) (v u low f : Int) (M cap : Nat) (w : World) (v1 : -2147483648 ≤ v) (v2 : v ≤ 2147483647) (hc : w.cell? ⟨x, 17, none⟩ = some (.int .i32 u)) (hl : w.cell? ⟨x, 3, none⟩ = some (.int .i64 low))
    (hw : w.cell? ⟨x, 2, none⟩ = some (.slice (some ⟨g, 0, none⟩) M cap)) (he : w.cell? ⟨x, 22, none⟩ = some (.int .i64 f)) (hz : ∀ o, w.frozen? ⟨x, o, none⟩ = false) (h1 : low ≤ v) (h2 : M < v) :
    Calls Try.prog 74 #[.pointer (some ⟨x, 0, none⟩), .int .i64 13, .int .i32 v] w fun e w' => e = .returned (.tuple #[]) ∧ (w.setCell ⟨x, 17, none⟩ (.int .i32 v)).setCell ⟨x, 22, none⟩ (.int .i64 4) = w' := by
  have d1 : decide (v < low) = false := by simpa using h1
  have d2 : decide ((M : Int) < v) = true := by simpa using h2
  go_enter Try.func74, Try.ntmps74
  go_wp2_with fail
  go_end0
  exact ⟨rfl, rfl⟩

/-- a register is given a word -/
theorem rput_any {W w : World} {B : Nat} {Fr : Nat → Prop} {x g : Nat} {cv iv : Value} {low : Int} {m : Mach} (h : RefW W B Fr x g cv iv low m w) (r : Nat) (v : Int) (hr : r < 16) (v1 : -2147483648 ≤ v) (v2 : v ≤ 2147483647) (hf : m.fin = -1) (hl : low ≤ m.words.length) :
    Calls Try.prog 74 #[.pointer (some ⟨x, 0, none⟩), .int .i64 r, .int .i32 v] w fun e w' => e = .returned (.tuple #[]) ∧ RefW W B Fr x g cv iv low (put low m r v) w' ∧ w.grownBy w' (some x) := by
  obtain ⟨ov, h1, h2⟩ := id h
  have hset := h.setReg r hr v
  by_cases h13 : r = 13
  · subst h13
    by_cases hlo : v < low
    · refine (rput_full x g v _ low _ _ _ w v1 v2 (h1.reg 13 (by omega)) h1.head.2.2.2 h1.head.2.2.1 h1.tail.2.2.1 h1.free hlo (by omega)).mono ?_
      rintro e w' ⟨rfl, rfl⟩
      refine ⟨rfl, ?_, ((grown_set w x 17 _).trans (grown_set _ x 22 _))⟩
      have e : put low m ((13 : Nat) : Int) v = { { m with R := m.R.set 13 v } with fin := 3 } := by
        unfold put spEnd
        rw [if_pos hlo, if_pos (by rfl)]
        rfl
      rw [e]
      exact hset.setFin 3
    · by_cases hhi : (m.words.length : Int) < v
      · refine (rput_wrong x g v _ low _ _ _ w v1 v2 (h1.reg 13 (by omega)) h1.head.2.2.2 h1.head.2.2.1 h1.tail.2.2.1 h1.free (by omega) hhi).mono ?_
        rintro e w' ⟨rfl, rfl⟩
        refine ⟨rfl, ?_, ((grown_set w x 17 _).trans (grown_set _ x 22 _))⟩
        have e : put low m ((13 : Nat) : Int) v = { { m with R := m.R.set 13 v } with fin := 4 } := by
          unfold put spEnd
          rw [if_neg hlo, if_pos hhi, if_pos (by rfl)]
          rfl
        rw [e]
        exact hset.setFin 4
      · refine (rput_sp x g v _ low _ _ w v1 v2 (h1.reg 13 (by omega)) h1.head.2.2.2 h1.head.2.2.1 h1.free (by omega) (by omega)).mono ?_
        rintro e w' ⟨rfl, rfl⟩
        refine ⟨rfl, ?_, grown_set w x 17 _⟩
        have e : put low m ((13 : Nat) : Int) v = { m with R := m.R.set 13 v } := by
          unfold put spEnd
          rw [if_neg hlo, if_neg hhi, if_pos (by rfl), ← hf]
          rfl
        rw [e]
        exact hset
  · refine (rput_reg x r v _ w hr h13 (h1.reg r hr) h1.free).mono ?_
    rintro e w' ⟨rfl, rfl⟩
    refine ⟨rfl, ?_, grown_set w x _ _⟩
    have e : put low m (r : Int) v = { m with R := m.R.set r v } := by
      unfold put
      rw [if_neg (by omega), ← hf]
      rfl
    rw [e]
    exact hset

end Go.Proofs.Ythnehhidlaggeaa
