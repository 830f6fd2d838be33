/- word.Op: the walk. -/
import Derived.Test.YthnehhidlaggeaaKit
import Derived.Test.YthnehhidlaggeaaWordPlain
namespace Go.Proofs.Ythnehhidlaggeaa
set_option linter.unusedVariables false
set_option linter.unusedSimpArgs false
open Go.RowKit

theorem one_any (t : Bool) (w : World) : Calls Try.prog 117 #[.bool t] w fun e w' => e = .returned (.int .i32 (Wd.one t)) ∧ w = w' := by
  cases t
  · go_enter Try.func117, Try.ntmps117
    go_wp2
    go_ret
    exact ⟨rfl, rfl⟩
  · go_enter Try.func117, Try.ntmps117
    go_wp2
    go_ret
    exact ⟨rfl, rfl⟩

theorem low_any (x : Int) (w : World) (h1 : -2147483648 ≤ x) (h2 : x ≤ 2147483647) :
    Calls Try.prog 115 #[.int .i32 x] w fun e w' => e = .returned (.int .u64 (Wd.free x)) ∧ w = w' := by
  have hw : IntKind.u32.wrap x = Wd.free x := Wd.wrap_u32 x h1 h2
  have hb := Wd.free_bd x h1 h2
  go_enter Try.func115, Try.ntmps115
  go_wp2_with fail
  go_ret
  exact ⟨rfl, rfl⟩

theorem divide_any (a b : Int) (w : World) (h1 : -2147483648 ≤ a) (h2 : a ≤ 2147483647) (h3 : -2147483648 ≤ b) (h4 : b ≤ 2147483647) (hb0 : b ≠ 0) :
    Calls Try.prog 116 #[.int .i32 a, .int .i32 b] w fun e w' => e = .returned (.tuple #[.int .i32 (wrap32 (a.tdiv b)), .int .i32 (a.tmod b)]) ∧ ∃ nq, w' = w.drewN nq := by
  by_cases hb1 : b = -1
  · subst hb1
    rw [show a.tdiv (-1) = -a by simp, show a.tmod (-1) = 0 by simp]
    go_enter Try.func116, Try.ntmps116
    go_wp2_with fail
    go_ret2
    exact ⟨rfl, 0, rfl⟩
  · have t1 : (b == -1) = false := by simp [hb1]
    have t0 : (b == 0) = false := by simp [hb0]
    go_enter Try.func116, Try.ntmps116
    go_wp2_with fail
    go_quiet (fail)
    go_wp2_with fail
    go_ret2
    exact ⟨rfl, _, rfl⟩

set_option maxHeartbeats 400000 in
theorem wop_1 (a b : Int) (w : World) (h1 : -2147483648 ≤ a) (h2 : a ≤ 2147483647) (h3 : -2147483648 ≤ b) (h4 : b ≤ 2147483647) :
    Calls Try.prog 111 #[.int .i64 1, .int .i32 a, .int .i32 b] w fun e w' => e = .returned (.tuple #[.int .i32 (wrap32 (a + b)), .bool true]) ∧ ∃ nq, w' = w.drewN nq := by
  skip
  go_enter Try.func111, Try.ntmps111
  go_wp2_with (first
    | (go_at_call 117; refine (one_any _ _).mono ?_; rintro e w' ⟨rfl, rfl⟩)
    | (go_at_call 115; refine (low_any _ _ (by omega) (by omega)).mono ?_; rintro e w' ⟨rfl, rfl⟩)
    | (go_at_call 116; refine (HD.out _).mono ?_; rintro e w' ⟨rfl, nq, rfl⟩))
  go_ret2
  exact ⟨rfl, 0, rfl⟩

set_option maxHeartbeats 400000 in
theorem wop_2 (a b : Int) (w : World) (h1 : -2147483648 ≤ a) (h2 : a ≤ 2147483647) (h3 : -2147483648 ≤ b) (h4 : b ≤ 2147483647) :
    Calls Try.prog 111 #[.int .i64 2, .int .i32 a, .int .i32 b] w fun e w' => e = .returned (.tuple #[.int .i32 (wrap32 (a - b)), .bool true]) ∧ ∃ nq, w' = w.drewN nq := by
  skip
  go_enter Try.func111, Try.ntmps111
  go_wp2_with (first
    | (go_at_call 117; refine (one_any _ _).mono ?_; rintro e w' ⟨rfl, rfl⟩)
    | (go_at_call 115; refine (low_any _ _ (by omega) (by omega)).mono ?_; rintro e w' ⟨rfl, rfl⟩)
    | (go_at_call 116; refine (HD.out _).mono ?_; rintro e w' ⟨rfl, nq, rfl⟩))
  go_ret2
  exact ⟨rfl, 0, rfl⟩

set_option maxHeartbeats 400000 in
theorem wop_3 (a b : Int) (w : World) (h1 : -2147483648 ≤ a) (h2 : a ≤ 2147483647) (h3 : -2147483648 ≤ b) (h4 : b ≤ 2147483647) :
    Calls Try.prog 111 #[.int .i64 3, .int .i32 a, .int .i32 b] w fun e w' => e = .returned (.tuple #[.int .i32 (wrap32 (a * b)), .bool true]) ∧ ∃ nq, w' = w.drewN nq := by
  skip
  go_enter Try.func111, Try.ntmps111
  go_wp2_with (first
    | (go_at_call 117; refine (one_any _ _).mono ?_; rintro e w' ⟨rfl, rfl⟩)
    | (go_at_call 115; refine (low_any _ _ (by omega) (by omega)).mono ?_; rintro e w' ⟨rfl, rfl⟩)
    | (go_at_call 116; refine (HD.out _).mono ?_; rintro e w' ⟨rfl, nq, rfl⟩))
  go_ret2
  exact ⟨rfl, 0, rfl⟩

set_option maxHeartbeats 400000 in
theorem wop_4 (a b : Int) (w : World) (h1 : -2147483648 ≤ a) (h2 : a ≤ 2147483647) (h3 : -2147483648 ≤ b) (h4 : b ≤ 2147483647) :
    Calls Try.prog 111 #[.int .i64 4, .int .i32 a, .int .i32 b] w fun e w' => e = .returned (.tuple #[.int .i32 (wrap32 (Wd.free a * Wd.free b / 4294967296)), .bool true]) ∧ ∃ nq, w' = w.drewN nq := by
  have hm := Wd.free_mul a b h1 h2 h3 h4
  go_enter Try.func111, Try.ntmps111
  go_wp2_with (first
    | (go_at_call 117; refine (one_any _ _).mono ?_; rintro e w' ⟨rfl, rfl⟩)
    | (go_at_call 115; refine (low_any _ _ (by omega) (by omega)).mono ?_; rintro e w' ⟨rfl, rfl⟩)
    | (go_at_call 116; refine (HD.out _).mono ?_; rintro e w' ⟨rfl, nq, rfl⟩))
  go_ret2
  exact ⟨rfl, 0, rfl⟩

set_option maxHeartbeats 400000 in
theorem wop_5z (a b : Int) (w : World) (h1 : -2147483648 ≤ a) (h2 : a ≤ 2147483647) (h3 : -2147483648 ≤ b) (h4 : b ≤ 2147483647) (hz : (b == 0) = true):
    Calls Try.prog 111 #[.int .i64 5, .int .i32 a, .int .i32 b] w fun e w' => e = .returned (.tuple #[.int .i32 0, .bool false]) ∧ ∃ nq, w' = w.drewN nq := by
  skip
  go_enter Try.func111, Try.ntmps111
  go_wp2_with (first
    | (go_at_call 117; refine (one_any _ _).mono ?_; rintro e w' ⟨rfl, rfl⟩)
    | (go_at_call 115; refine (low_any _ _ (by omega) (by omega)).mono ?_; rintro e w' ⟨rfl, rfl⟩)
    | (go_at_call 116; refine (HD.out _).mono ?_; rintro e w' ⟨rfl, nq, rfl⟩))
  go_ret2
  exact ⟨rfl, 0, rfl⟩

set_option maxHeartbeats 400000 in
theorem wop_5 (a b : Int) (w : World) (h1 : -2147483648 ≤ a) (h2 : a ≤ 2147483647) (h3 : -2147483648 ≤ b) (h4 : b ≤ 2147483647) (hz : b ≠ 0):
    Calls Try.prog 111 #[.int .i64 5, .int .i32 a, .int .i32 b] w fun e w' => e = .returned (.tuple #[.int .i32 (wrap32 (a.tdiv b)), .bool true]) ∧ ∃ nq, w' = w.drewN nq := by
  have HD := Lib.hid (fun w => divide_any a b w h1 h2 h3 h4 hz)
  have t0 : (b == 0) = false := by simp [hz]
  clear hz
  go_enter Try.func111, Try.ntmps111
  go_wp2_with (first
    | (go_at_call 117; refine (one_any _ _).mono ?_; rintro e w' ⟨rfl, rfl⟩)
    | (go_at_call 115; refine (low_any _ _ (by omega) (by omega)).mono ?_; rintro e w' ⟨rfl, rfl⟩)
    | (go_at_call 116; refine (HD.out _).mono ?_; rintro e w' ⟨rfl, nq, rfl⟩))
  go_ret2
  exact ⟨rfl, _, rfl⟩

set_option maxHeartbeats 400000 in
theorem wop_6z (a b : Int) (w : World) (h1 : -2147483648 ≤ a) (h2 : a ≤ 2147483647) (h3 : -2147483648 ≤ b) (h4 : b ≤ 2147483647) (hz : (b == 0) = true):
    Calls Try.prog 111 #[.int .i64 6, .int .i32 a, .int .i32 b] w fun e w' => e = .returned (.tuple #[.int .i32 0, .bool false]) ∧ ∃ nq, w' = w.drewN nq := by
  skip
  go_enter Try.func111, Try.ntmps111
  go_wp2_with (first
    | (go_at_call 117; refine (one_any _ _).mono ?_; rintro e w' ⟨rfl, rfl⟩)
    | (go_at_call 115; refine (low_any _ _ (by omega) (by omega)).mono ?_; rintro e w' ⟨rfl, rfl⟩)
    | (go_at_call 116; refine (HD.out _).mono ?_; rintro e w' ⟨rfl, nq, rfl⟩))
  go_ret2
  exact ⟨rfl, 0, rfl⟩

set_option maxHeartbeats 400000 in
theorem wop_6 (a b : Int) (w : World) (h1 : -2147483648 ≤ a) (h2 : a ≤ 2147483647) (h3 : -2147483648 ≤ b) (h4 : b ≤ 2147483647) (hz : b ≠ 0):
    Calls Try.prog 111 #[.int .i64 6, .int .i32 a, .int .i32 b] w fun e w' => e = .returned (.tuple #[.int .i32 (a.tmod b), .bool true]) ∧ ∃ nq, w' = w.drewN nq := by
  have HD := Lib.hid (fun w => divide_any a b w h1 h2 h3 h4 hz)
  have t0 : (b == 0) = false := by simp [hz]
  clear hz
  go_enter Try.func111, Try.ntmps111
  go_wp2_with (first
    | (go_at_call 117; refine (one_any _ _).mono ?_; rintro e w' ⟨rfl, rfl⟩)
    | (go_at_call 115; refine (low_any _ _ (by omega) (by omega)).mono ?_; rintro e w' ⟨rfl, rfl⟩)
    | (go_at_call 116; refine (HD.out _).mono ?_; rintro e w' ⟨rfl, nq, rfl⟩))
  go_ret2
  exact ⟨rfl, _, rfl⟩

set_option maxHeartbeats 400000 in
theorem wop_7 (a b : Int) (w : World) (h1 : -2147483648 ≤ a) (h2 : a ≤ 2147483647) (h3 : -2147483648 ≤ b) (h4 : b ≤ 2147483647) :
    Calls Try.prog 111 #[.int .i64 7, .int .i32 a, .int .i32 b] w fun e w' => e = .returned (.tuple #[.int .i32 (bits .and .i32 a b), .bool true]) ∧ ∃ nq, w' = w.drewN nq := by
  skip
  go_enter Try.func111, Try.ntmps111
  go_wp2_with (first
    | (go_at_call 117; refine (one_any _ _).mono ?_; rintro e w' ⟨rfl, rfl⟩)
    | (go_at_call 115; refine (low_any _ _ (by omega) (by omega)).mono ?_; rintro e w' ⟨rfl, rfl⟩)
    | (go_at_call 116; refine (HD.out _).mono ?_; rintro e w' ⟨rfl, nq, rfl⟩))
  go_ret2
  exact ⟨rfl, 0, rfl⟩

set_option maxHeartbeats 400000 in
theorem wop_8 (a b : Int) (w : World) (h1 : -2147483648 ≤ a) (h2 : a ≤ 2147483647) (h3 : -2147483648 ≤ b) (h4 : b ≤ 2147483647) :
    Calls Try.prog 111 #[.int .i64 8, .int .i32 a, .int .i32 b] w fun e w' => e = .returned (.tuple #[.int .i32 (bits .or .i32 a b), .bool true]) ∧ ∃ nq, w' = w.drewN nq := by
  skip
  go_enter Try.func111, Try.ntmps111
  go_wp2_with (first
    | (go_at_call 117; refine (one_any _ _).mono ?_; rintro e w' ⟨rfl, rfl⟩)
    | (go_at_call 115; refine (low_any _ _ (by omega) (by omega)).mono ?_; rintro e w' ⟨rfl, rfl⟩)
    | (go_at_call 116; refine (HD.out _).mono ?_; rintro e w' ⟨rfl, nq, rfl⟩))
  go_ret2
  exact ⟨rfl, 0, rfl⟩

set_option maxHeartbeats 400000 in
theorem wop_9 (a b : Int) (w : World) (h1 : -2147483648 ≤ a) (h2 : a ≤ 2147483647) (h3 : -2147483648 ≤ b) (h4 : b ≤ 2147483647) :
    Calls Try.prog 111 #[.int .i64 9, .int .i32 a, .int .i32 b] w fun e w' => e = .returned (.tuple #[.int .i32 (bits .xor .i32 a b), .bool true]) ∧ ∃ nq, w' = w.drewN nq := by
  skip
  go_enter Try.func111, Try.ntmps111
  go_wp2_with (first
    | (go_at_call 117; refine (one_any _ _).mono ?_; rintro e w' ⟨rfl, rfl⟩)
    | (go_at_call 115; refine (low_any _ _ (by omega) (by omega)).mono ?_; rintro e w' ⟨rfl, rfl⟩)
    | (go_at_call 116; refine (HD.out _).mono ?_; rintro e w' ⟨rfl, nq, rfl⟩))
  go_ret2
  exact ⟨rfl, 0, rfl⟩

set_option maxHeartbeats 400000 in
theorem wop_10 (a b : Int) (w : World) (h1 : -2147483648 ≤ a) (h2 : a ≤ 2147483647) (h3 : -2147483648 ≤ b) (h4 : b ≤ 2147483647) :
    Calls Try.prog 111 #[.int .i64 10, .int .i32 a, .int .i32 b] w fun e w' => e = .returned (.tuple #[.int .i32 (Wd.one (decide (a < b))), .bool true]) ∧ ∃ nq, w' = w.drewN nq := by
  skip
  go_enter Try.func111, Try.ntmps111
  go_wp2_with (first
    | (go_at_call 117; refine (one_any _ _).mono ?_; rintro e w' ⟨rfl, rfl⟩)
    | (go_at_call 115; refine (low_any _ _ (by omega) (by omega)).mono ?_; rintro e w' ⟨rfl, rfl⟩)
    | (go_at_call 116; refine (HD.out _).mono ?_; rintro e w' ⟨rfl, nq, rfl⟩))
  go_ret2
  exact ⟨rfl, 0, rfl⟩

set_option maxHeartbeats 400000 in
theorem wop_11 (a b : Int) (w : World) (h1 : -2147483648 ≤ a) (h2 : a ≤ 2147483647) (h3 : -2147483648 ≤ b) (h4 : b ≤ 2147483647) :
    Calls Try.prog 111 #[.int .i64 11, .int .i32 a, .int .i32 b] w fun e w' => e = .returned (.tuple #[.int .i32 (Wd.one (decide (Wd.free a < Wd.free b))), .bool true]) ∧ ∃ nq, w' = w.drewN nq := by
  skip
  go_enter Try.func111, Try.ntmps111
  go_wp2_with (first
    | (go_at_call 117; refine (one_any _ _).mono ?_; rintro e w' ⟨rfl, rfl⟩)
    | (go_at_call 115; refine (low_any _ _ (by omega) (by omega)).mono ?_; rintro e w' ⟨rfl, rfl⟩)
    | (go_at_call 116; refine (HD.out _).mono ?_; rintro e w' ⟨rfl, nq, rfl⟩))
  go_ret2
  exact ⟨rfl, 0, rfl⟩

set_option maxHeartbeats 400000 in
theorem wop_12 (a b : Int) (w : World) (h1 : -2147483648 ≤ a) (h2 : a ≤ 2147483647) (h3 : -2147483648 ≤ b) (h4 : b ≤ 2147483647) :
    Calls Try.prog 111 #[.int .i64 12, .int .i32 a, .int .i32 b] w fun e w' => e = .returned (.tuple #[.int .i32 (Wd.one (a == b)), .bool true]) ∧ ∃ nq, w' = w.drewN nq := by
  skip
  go_enter Try.func111, Try.ntmps111
  go_wp2_with (first
    | (go_at_call 117; refine (one_any _ _).mono ?_; rintro e w' ⟨rfl, rfl⟩)
    | (go_at_call 115; refine (low_any _ _ (by omega) (by omega)).mono ?_; rintro e w' ⟨rfl, rfl⟩)
    | (go_at_call 116; refine (HD.out _).mono ?_; rintro e w' ⟨rfl, nq, rfl⟩))
  go_ret2
  exact ⟨rfl, 0, rfl⟩

set_option maxHeartbeats 400000 in
theorem wop_far (o a b : Int) (w : World) (ho : o ≤ 0 ∨ 13 ≤ o) (h1 : -2147483648 ≤ a) (h2 : a ≤ 2147483647) (h3 : -2147483648 ≤ b) (h4 : b ≤ 2147483647) :
    Calls Try.prog 111 #[.int .i64 o, .int .i32 a, .int .i32 b] w fun e w' => e = .returned (.tuple #[.int .i32 0, .bool false]) ∧ ∃ nq, w' = w.drewN nq := by
  rcases ho with ho | ho
  all_goals
    go_enter Try.func111, Try.ntmps111
    go_wp2_with fail
    go_ret2
    exact ⟨rfl, 0, rfl⟩

theorem wop_any (o a b : Int) (w : World) (h1 : -2147483648 ≤ a) (h2 : a ≤ 2147483647) (h3 : -2147483648 ≤ b) (h4 : b ≤ 2147483647) :
    Calls Try.prog 111 #[.int .i64 o, .int .i32 a, .int .i32 b] w fun e w' => e = .returned (Wd.opV o a b) ∧ ∃ nq, w' = w.drewN nq := by
  rcases Wd.op_cases o with h | h | h | h | h | h | h | h | h | h | h | h | h
  case inr.inr.inr.inr.inr.inr.inr.inr.inr.inr.inr.inr =>
    have e : Wd.opV o a b = .tuple #[.int .i32 0, .bool false] := by unfold Wd.opV; rw [Wd.op_far o a b h]; rfl
    rw [e]
    exact wop_far o a b w h h1 h2 h3 h4
  all_goals subst h
  · exact wop_1 a b w h1 h2 h3 h4
  · exact wop_2 a b w h1 h2 h3 h4
  · exact wop_3 a b w h1 h2 h3 h4
  · exact wop_4 a b w h1 h2 h3 h4
  · by_cases hz : b = 0
    · have e : Wd.opV 5 a b = .tuple #[.int .i32 0, .bool false] := by simp [Wd.opV, Wd.op, hz]
      rw [e]
      exact wop_5z a b w h1 h2 h3 h4 (by simp [hz])
    · have e : Wd.opV 5 a b = .tuple #[.int .i32 (wrap32 (a.tdiv b)), .bool true] := by simp [Wd.opV, Wd.op, hz]
      rw [e]
      exact wop_5 a b w h1 h2 h3 h4 hz
  · by_cases hz : b = 0
    · have e : Wd.opV 6 a b = .tuple #[.int .i32 0, .bool false] := by simp [Wd.opV, Wd.op, hz]
      rw [e]
      exact wop_6z a b w h1 h2 h3 h4 (by simp [hz])
    · have e : Wd.opV 6 a b = .tuple #[.int .i32 (a.tmod b), .bool true] := by simp [Wd.opV, Wd.op, hz]
      rw [e]
      exact wop_6 a b w h1 h2 h3 h4 hz
  · exact wop_7 a b w h1 h2 h3 h4
  · exact wop_8 a b w h1 h2 h3 h4
  · exact wop_9 a b w h1 h2 h3 h4
  · exact wop_10 a b w h1 h2 h3 h4
  · exact wop_11 a b w h1 h2 h3 h4
  · exact wop_12 a b w h1 h2 h3 h4

end Go.Proofs.Ythnehhidlaggeaa
