/- scarfjointref1.Op: the walk. -/
import Derived.Test.YthnehhidlaggeaaRw1
namespace Go.Proofs.Ythnehhidlaggeaa
set_option linter.unusedVariables false
set_option linter.unusedSimpArgs false
open Go.RowKit

set_option maxHeartbeats 400000 in
theorem rop_1 (a b : Int) (w : World) (h1 : -2147483648 ≤ a) (h2 : a ≤ 2147483647) (h3 : -2147483648 ≤ b) (h4 : b ≤ 2147483647) :
    Calls Try.prog 75 #[.int .i64 1, .int .i32 a, .int .i32 b] w fun e w' => e = .returned (.tuple #[.int .i32 (wrap32 ((a + b) % 4294967296)), .bool true]) ∧ w = w' := by
  skip
  go_enter Try.func75, Try.ntmps75
  go_wp2_with (first
    | (go_at_call 98; refine (cut_any _ _ (by omega) (by omega)).mono ?_; rintro e w' ⟨rfl, rfl⟩)
    | (go_at_call 57; refine (word_any _ _ (by omega) (by omega)).mono ?_; rintro e w' ⟨rfl, rfl⟩)
    | (go_at_call 104; refine (truth_any _ _).mono ?_; rintro e w' ⟨rfl, rfl⟩)
    | (go_at_call 46; refine (free_any _ _ (by omega) (by omega)).mono ?_; rintro e w' ⟨rfl, rfl⟩)
    | (go_at_call 99; refine (product_any _ _ _ (by omega) (by omega) (by omega) (by omega)).mono ?_; rintro e w' ⟨rfl, rfl⟩)
    | (go_at_call 100; refine (HBits.out _).mono ?_; rintro e w' ⟨rfl, rfl⟩))
  go_ret2
  exact ⟨rfl, rfl⟩

set_option maxHeartbeats 400000 in
theorem rop_2 (a b : Int) (w : World) (h1 : -2147483648 ≤ a) (h2 : a ≤ 2147483647) (h3 : -2147483648 ≤ b) (h4 : b ≤ 2147483647) :
    Calls Try.prog 75 #[.int .i64 2, .int .i32 a, .int .i32 b] w fun e w' => e = .returned (.tuple #[.int .i32 (wrap32 ((a - b) % 4294967296)), .bool true]) ∧ w = w' := by
  skip
  go_enter Try.func75, Try.ntmps75
  go_wp2_with (first
    | (go_at_call 98; refine (cut_any _ _ (by omega) (by omega)).mono ?_; rintro e w' ⟨rfl, rfl⟩)
    | (go_at_call 57; refine (word_any _ _ (by omega) (by omega)).mono ?_; rintro e w' ⟨rfl, rfl⟩)
    | (go_at_call 104; refine (truth_any _ _).mono ?_; rintro e w' ⟨rfl, rfl⟩)
    | (go_at_call 46; refine (free_any _ _ (by omega) (by omega)).mono ?_; rintro e w' ⟨rfl, rfl⟩)
    | (go_at_call 99; refine (product_any _ _ _ (by omega) (by omega) (by omega) (by omega)).mono ?_; rintro e w' ⟨rfl, rfl⟩)
    | (go_at_call 100; refine (HBits.out _).mono ?_; rintro e w' ⟨rfl, rfl⟩))
  go_ret2
  exact ⟨rfl, rfl⟩

set_option maxHeartbeats 400000 in
theorem rop_3 (a b : Int) (w : World) (h1 : -2147483648 ≤ a) (h2 : a ≤ 2147483647) (h3 : -2147483648 ≤ b) (h4 : b ≤ 2147483647) :
    Calls Try.prog 75 #[.int .i64 3, .int .i32 a, .int .i32 b] w fun e w' => e = .returned (.tuple #[.int .i32 (wrap32 (Wd.free a * Wd.free b % 4294967296)), .bool true]) ∧ w = w' := by
  have fa := Wd.free_bd a h1 h2
  have fb := Wd.free_bd b h3 h4
  have hm := Wd.free_mul a b h1 h2 h3 h4
  go_enter Try.func75, Try.ntmps75
  go_wp2_with (first
    | (go_at_call 98; refine (cut_any _ _ (by omega) (by omega)).mono ?_; rintro e w' ⟨rfl, rfl⟩)
    | (go_at_call 57; refine (word_any _ _ (by omega) (by omega)).mono ?_; rintro e w' ⟨rfl, rfl⟩)
    | (go_at_call 104; refine (truth_any _ _).mono ?_; rintro e w' ⟨rfl, rfl⟩)
    | (go_at_call 46; refine (free_any _ _ (by omega) (by omega)).mono ?_; rintro e w' ⟨rfl, rfl⟩)
    | (go_at_call 99; refine (product_any _ _ _ (by omega) (by omega) (by omega) (by omega)).mono ?_; rintro e w' ⟨rfl, rfl⟩)
    | (go_at_call 100; refine (HBits.out _).mono ?_; rintro e w' ⟨rfl, rfl⟩))
  go_ret2
  exact ⟨rfl, rfl⟩

set_option maxHeartbeats 400000 in
theorem rop_4 (a b : Int) (w : World) (h1 : -2147483648 ≤ a) (h2 : a ≤ 2147483647) (h3 : -2147483648 ≤ b) (h4 : b ≤ 2147483647) :
    Calls Try.prog 75 #[.int .i64 4, .int .i32 a, .int .i32 b] w fun e w' => e = .returned (.tuple #[.int .i32 (wrap32 (Wd.free a * Wd.free b / 4294967296)), .bool true]) ∧ w = w' := by
  have fa := Wd.free_bd a h1 h2
  have fb := Wd.free_bd b h3 h4
  have hm := Wd.free_mul a b h1 h2 h3 h4
  go_enter Try.func75, Try.ntmps75
  go_wp2_with (first
    | (go_at_call 98; refine (cut_any _ _ (by omega) (by omega)).mono ?_; rintro e w' ⟨rfl, rfl⟩)
    | (go_at_call 57; refine (word_any _ _ (by omega) (by omega)).mono ?_; rintro e w' ⟨rfl, rfl⟩)
    | (go_at_call 104; refine (truth_any _ _).mono ?_; rintro e w' ⟨rfl, rfl⟩)
    | (go_at_call 46; refine (free_any _ _ (by omega) (by omega)).mono ?_; rintro e w' ⟨rfl, rfl⟩)
    | (go_at_call 99; refine (product_any _ _ _ (by omega) (by omega) (by omega) (by omega)).mono ?_; rintro e w' ⟨rfl, rfl⟩)
    | (go_at_call 100; refine (HBits.out _).mono ?_; rintro e w' ⟨rfl, rfl⟩))
  go_ret2
  exact ⟨rfl, rfl⟩

set_option maxHeartbeats 400000 in
theorem rop_5z (a b : Int) (w : World) (h1 : -2147483648 ≤ a) (h2 : a ≤ 2147483647) (h3 : -2147483648 ≤ b) (h4 : b ≤ 2147483647) (hz : (b == 0) = true):
    Calls Try.prog 75 #[.int .i64 5, .int .i32 a, .int .i32 b] w fun e w' => e = .returned (.tuple #[.int .i32 0, .bool false]) ∧ w = w' := by
  skip
  go_enter Try.func75, Try.ntmps75
  go_wp2_with (first
    | (go_at_call 98; refine (cut_any _ _ (by omega) (by omega)).mono ?_; rintro e w' ⟨rfl, rfl⟩)
    | (go_at_call 57; refine (word_any _ _ (by omega) (by omega)).mono ?_; rintro e w' ⟨rfl, rfl⟩)
    | (go_at_call 104; refine (truth_any _ _).mono ?_; rintro e w' ⟨rfl, rfl⟩)
    | (go_at_call 46; refine (free_any _ _ (by omega) (by omega)).mono ?_; rintro e w' ⟨rfl, rfl⟩)
    | (go_at_call 99; refine (product_any _ _ _ (by omega) (by omega) (by omega) (by omega)).mono ?_; rintro e w' ⟨rfl, rfl⟩)
    | (go_at_call 100; refine (HBits.out _).mono ?_; rintro e w' ⟨rfl, rfl⟩))
  go_ret2
  exact ⟨rfl, rfl⟩

set_option maxHeartbeats 400000 in
theorem rop_5 (a b : Int) (w : World) (h1 : -2147483648 ≤ a) (h2 : a ≤ 2147483647) (h3 : -2147483648 ≤ b) (h4 : b ≤ 2147483647) (hz : (b == 0) = false) (hz0 : ¬ b = 0) :
    Calls Try.prog 75 #[.int .i64 5, .int .i32 a, .int .i32 b] w fun e w' => e = .returned (.tuple #[.int .i32 (wrap32 (a.tdiv b % 4294967296)), .bool true]) ∧ w = w' := by
  have hq := Wd.tdiv_bd a b h1 h2
  go_enter Try.func75, Try.ntmps75
  go_wp2_with (first
    | (go_at_call 98; refine (cut_any _ _ (by omega) (by omega)).mono ?_; rintro e w' ⟨rfl, rfl⟩)
    | (go_at_call 57; refine (word_any _ _ (by omega) (by omega)).mono ?_; rintro e w' ⟨rfl, rfl⟩)
    | (go_at_call 104; refine (truth_any _ _).mono ?_; rintro e w' ⟨rfl, rfl⟩)
    | (go_at_call 46; refine (free_any _ _ (by omega) (by omega)).mono ?_; rintro e w' ⟨rfl, rfl⟩)
    | (go_at_call 99; refine (product_any _ _ _ (by omega) (by omega) (by omega) (by omega)).mono ?_; rintro e w' ⟨rfl, rfl⟩)
    | (go_at_call 100; refine (HBits.out _).mono ?_; rintro e w' ⟨rfl, rfl⟩))
  go_ret2
  exact ⟨rfl, rfl⟩

set_option maxHeartbeats 400000 in
theorem rop_6z (a b : Int) (w : World) (h1 : -2147483648 ≤ a) (h2 : a ≤ 2147483647) (h3 : -2147483648 ≤ b) (h4 : b ≤ 2147483647) (hz : (b == 0) = true):
    Calls Try.prog 75 #[.int .i64 6, .int .i32 a, .int .i32 b] w fun e w' => e = .returned (.tuple #[.int .i32 0, .bool false]) ∧ w = w' := by
  skip
  go_enter Try.func75, Try.ntmps75
  go_wp2_with (first
    | (go_at_call 98; refine (cut_any _ _ (by omega) (by omega)).mono ?_; rintro e w' ⟨rfl, rfl⟩)
    | (go_at_call 57; refine (word_any _ _ (by omega) (by omega)).mono ?_; rintro e w' ⟨rfl, rfl⟩)
    | (go_at_call 104; refine (truth_any _ _).mono ?_; rintro e w' ⟨rfl, rfl⟩)
    | (go_at_call 46; refine (free_any _ _ (by omega) (by omega)).mono ?_; rintro e w' ⟨rfl, rfl⟩)
    | (go_at_call 99; refine (product_any _ _ _ (by omega) (by omega) (by omega) (by omega)).mono ?_; rintro e w' ⟨rfl, rfl⟩)
    | (go_at_call 100; refine (HBits.out _).mono ?_; rintro e w' ⟨rfl, rfl⟩))
  go_ret2
  exact ⟨rfl, rfl⟩

set_option maxHeartbeats 400000 in
theorem rop_6 (a b : Int) (w : World) (h1 : -2147483648 ≤ a) (h2 : a ≤ 2147483647) (h3 : -2147483648 ≤ b) (h4 : b ≤ 2147483647) (hz : (b == 0) = false) (hz0 : ¬ b = 0) :
    Calls Try.prog 75 #[.int .i64 6, .int .i32 a, .int .i32 b] w fun e w' => e = .returned (.tuple #[.int .i32 (wrap32 (a.tmod b % 4294967296)), .bool true]) ∧ w = w' := by
  have hq := Wd.tmod_bd a b h1 h2
  go_enter Try.func75, Try.ntmps75
  go_wp2_with (first
    | (go_at_call 98; refine (cut_any _ _ (by omega) (by omega)).mono ?_; rintro e w' ⟨rfl, rfl⟩)
    | (go_at_call 57; refine (word_any _ _ (by omega) (by omega)).mono ?_; rintro e w' ⟨rfl, rfl⟩)
    | (go_at_call 104; refine (truth_any _ _).mono ?_; rintro e w' ⟨rfl, rfl⟩)
    | (go_at_call 46; refine (free_any _ _ (by omega) (by omega)).mono ?_; rintro e w' ⟨rfl, rfl⟩)
    | (go_at_call 99; refine (product_any _ _ _ (by omega) (by omega) (by omega) (by omega)).mono ?_; rintro e w' ⟨rfl, rfl⟩)
    | (go_at_call 100; refine (HBits.out _).mono ?_; rintro e w' ⟨rfl, rfl⟩))
  go_ret2
  exact ⟨rfl, rfl⟩

set_option maxHeartbeats 400000 in
theorem rop_7 (a b : Int) (w : World) (h1 : -2147483648 ≤ a) (h2 : a ≤ 2147483647) (h3 : -2147483648 ≤ b) (h4 : b ≤ 2147483647) :
    Calls Try.prog 75 #[.int .i64 7, .int .i32 a, .int .i32 b] w fun e w' => e = .returned (.tuple #[.int .i32 (bits .and .i32 a b), .bool true]) ∧ w = w' := by
  have HBits := Lib.hid (fun w => bitsand_any a b w h1 h2 h3 h4)
  go_enter Try.func75, Try.ntmps75
  go_wp2_with (first
    | (go_at_call 98; refine (cut_any _ _ (by omega) (by omega)).mono ?_; rintro e w' ⟨rfl, rfl⟩)
    | (go_at_call 57; refine (word_any _ _ (by omega) (by omega)).mono ?_; rintro e w' ⟨rfl, rfl⟩)
    | (go_at_call 104; refine (truth_any _ _).mono ?_; rintro e w' ⟨rfl, rfl⟩)
    | (go_at_call 46; refine (free_any _ _ (by omega) (by omega)).mono ?_; rintro e w' ⟨rfl, rfl⟩)
    | (go_at_call 99; refine (product_any _ _ _ (by omega) (by omega) (by omega) (by omega)).mono ?_; rintro e w' ⟨rfl, rfl⟩)
    | (go_at_call 100; refine (HBits.out _).mono ?_; rintro e w' ⟨rfl, rfl⟩))
  go_ret2
  exact ⟨rfl, rfl⟩

set_option maxHeartbeats 400000 in
theorem rop_8 (a b : Int) (w : World) (h1 : -2147483648 ≤ a) (h2 : a ≤ 2147483647) (h3 : -2147483648 ≤ b) (h4 : b ≤ 2147483647) :
    Calls Try.prog 75 #[.int .i64 8, .int .i32 a, .int .i32 b] w fun e w' => e = .returned (.tuple #[.int .i32 (bits .or .i32 a b), .bool true]) ∧ w = w' := by
  have HBits := Lib.hid (fun w => bitsor_any a b w h1 h2 h3 h4)
  go_enter Try.func75, Try.ntmps75
  go_wp2_with (first
    | (go_at_call 98; refine (cut_any _ _ (by omega) (by omega)).mono ?_; rintro e w' ⟨rfl, rfl⟩)
    | (go_at_call 57; refine (word_any _ _ (by omega) (by omega)).mono ?_; rintro e w' ⟨rfl, rfl⟩)
    | (go_at_call 104; refine (truth_any _ _).mono ?_; rintro e w' ⟨rfl, rfl⟩)
    | (go_at_call 46; refine (free_any _ _ (by omega) (by omega)).mono ?_; rintro e w' ⟨rfl, rfl⟩)
    | (go_at_call 99; refine (product_any _ _ _ (by omega) (by omega) (by omega) (by omega)).mono ?_; rintro e w' ⟨rfl, rfl⟩)
    | (go_at_call 100; refine (HBits.out _).mono ?_; rintro e w' ⟨rfl, rfl⟩))
  go_ret2
  exact ⟨rfl, rfl⟩

set_option maxHeartbeats 400000 in
theorem rop_9 (a b : Int) (w : World) (h1 : -2147483648 ≤ a) (h2 : a ≤ 2147483647) (h3 : -2147483648 ≤ b) (h4 : b ≤ 2147483647) :
    Calls Try.prog 75 #[.int .i64 9, .int .i32 a, .int .i32 b] w fun e w' => e = .returned (.tuple #[.int .i32 (bits .xor .i32 a b), .bool true]) ∧ w = w' := by
  have HBits := Lib.hid (fun w => bitsxor_any a b w h1 h2 h3 h4)
  go_enter Try.func75, Try.ntmps75
  go_wp2_with (first
    | (go_at_call 98; refine (cut_any _ _ (by omega) (by omega)).mono ?_; rintro e w' ⟨rfl, rfl⟩)
    | (go_at_call 57; refine (word_any _ _ (by omega) (by omega)).mono ?_; rintro e w' ⟨rfl, rfl⟩)
    | (go_at_call 104; refine (truth_any _ _).mono ?_; rintro e w' ⟨rfl, rfl⟩)
    | (go_at_call 46; refine (free_any _ _ (by omega) (by omega)).mono ?_; rintro e w' ⟨rfl, rfl⟩)
    | (go_at_call 99; refine (product_any _ _ _ (by omega) (by omega) (by omega) (by omega)).mono ?_; rintro e w' ⟨rfl, rfl⟩)
    | (go_at_call 100; refine (HBits.out _).mono ?_; rintro e w' ⟨rfl, rfl⟩))
  go_ret2
  exact ⟨rfl, rfl⟩

set_option maxHeartbeats 400000 in
theorem rop_10 (a b : Int) (w : World) (h1 : -2147483648 ≤ a) (h2 : a ≤ 2147483647) (h3 : -2147483648 ≤ b) (h4 : b ≤ 2147483647) :
    Calls Try.prog 75 #[.int .i64 10, .int .i32 a, .int .i32 b] w fun e w' => e = .returned (.tuple #[.int .i32 (Wd.one (decide (a < b))), .bool true]) ∧ w = w' := by
  skip
  go_enter Try.func75, Try.ntmps75
  go_wp2_with (first
    | (go_at_call 98; refine (cut_any _ _ (by omega) (by omega)).mono ?_; rintro e w' ⟨rfl, rfl⟩)
    | (go_at_call 57; refine (word_any _ _ (by omega) (by omega)).mono ?_; rintro e w' ⟨rfl, rfl⟩)
    | (go_at_call 104; refine (truth_any _ _).mono ?_; rintro e w' ⟨rfl, rfl⟩)
    | (go_at_call 46; refine (free_any _ _ (by omega) (by omega)).mono ?_; rintro e w' ⟨rfl, rfl⟩)
    | (go_at_call 99; refine (product_any _ _ _ (by omega) (by omega) (by omega) (by omega)).mono ?_; rintro e w' ⟨rfl, rfl⟩)
    | (go_at_call 100; refine (HBits.out _).mono ?_; rintro e w' ⟨rfl, rfl⟩))
  go_ret2
  exact ⟨rfl, rfl⟩

set_option maxHeartbeats 400000 in
theorem rop_11 (a b : Int) (w : World) (h1 : -2147483648 ≤ a) (h2 : a ≤ 2147483647) (h3 : -2147483648 ≤ b) (h4 : b ≤ 2147483647) :
    Calls Try.prog 75 #[.int .i64 11, .int .i32 a, .int .i32 b] w fun e w' => e = .returned (.tuple #[.int .i32 (Wd.one (decide (Wd.free a < Wd.free b))), .bool true]) ∧ w = w' := by
  have fa := Wd.free_bd a h1 h2
  have fb := Wd.free_bd b h3 h4
  have hm := Wd.free_mul a b h1 h2 h3 h4
  go_enter Try.func75, Try.ntmps75
  go_wp2_with (first
    | (go_at_call 98; refine (cut_any _ _ (by omega) (by omega)).mono ?_; rintro e w' ⟨rfl, rfl⟩)
    | (go_at_call 57; refine (word_any _ _ (by omega) (by omega)).mono ?_; rintro e w' ⟨rfl, rfl⟩)
    | (go_at_call 104; refine (truth_any _ _).mono ?_; rintro e w' ⟨rfl, rfl⟩)
    | (go_at_call 46; refine (free_any _ _ (by omega) (by omega)).mono ?_; rintro e w' ⟨rfl, rfl⟩)
    | (go_at_call 99; refine (product_any _ _ _ (by omega) (by omega) (by omega) (by omega)).mono ?_; rintro e w' ⟨rfl, rfl⟩)
    | (go_at_call 100; refine (HBits.out _).mono ?_; rintro e w' ⟨rfl, rfl⟩))
  go_ret2
  exact ⟨rfl, rfl⟩

set_option maxHeartbeats 400000 in
theorem rop_12 (a b : Int) (w : World) (h1 : -2147483648 ≤ a) (h2 : a ≤ 2147483647) (h3 : -2147483648 ≤ b) (h4 : b ≤ 2147483647) :
    Calls Try.prog 75 #[.int .i64 12, .int .i32 a, .int .i32 b] w fun e w' => e = .returned (.tuple #[.int .i32 (Wd.one (a == b)), .bool true]) ∧ w = w' := by
  skip
  go_enter Try.func75, Try.ntmps75
  go_wp2_with (first
    | (go_at_call 98; refine (cut_any _ _ (by omega) (by omega)).mono ?_; rintro e w' ⟨rfl, rfl⟩)
    | (go_at_call 57; refine (word_any _ _ (by omega) (by omega)).mono ?_; rintro e w' ⟨rfl, rfl⟩)
    | (go_at_call 104; refine (truth_any _ _).mono ?_; rintro e w' ⟨rfl, rfl⟩)
    | (go_at_call 46; refine (free_any _ _ (by omega) (by omega)).mono ?_; rintro e w' ⟨rfl, rfl⟩)
    | (go_at_call 99; refine (product_any _ _ _ (by omega) (by omega) (by omega) (by omega)).mono ?_; rintro e w' ⟨rfl, rfl⟩)
    | (go_at_call 100; refine (HBits.out _).mono ?_; rintro e w' ⟨rfl, rfl⟩))
  go_ret2
  exact ⟨rfl, rfl⟩

set_option maxHeartbeats 400000 in
theorem rop_far (o a b : Int) (w : World) (ho : o ≤ 0 ∨ 13 ≤ o) (h1 : -2147483648 ≤ a) (h2 : a ≤ 2147483647) (h3 : -2147483648 ≤ b) (h4 : b ≤ 2147483647) :
    Calls Try.prog 75 #[.int .i64 o, .int .i32 a, .int .i32 b] w fun e w' => e = .returned (.tuple #[.int .i32 0, .bool false]) ∧ w = w' := by
  rcases ho with ho | ho
  all_goals
    go_enter Try.func75, Try.ntmps75
    go_wp2_with fail
    go_ret2
    exact ⟨rfl, rfl⟩

theorem rop_any (o a b : Int) (w : World) (h1 : -2147483648 ≤ a) (h2 : a ≤ 2147483647) (h3 : -2147483648 ≤ b) (h4 : b ≤ 2147483647) :
    Calls Try.prog 75 #[.int .i64 o, .int .i32 a, .int .i32 b] w fun e w' => e = .returned (Wd.opV o a b) ∧ w = w' := by
  rcases Wd.op_cases o with h | h | h | h | h | h | h | h | h | h | h | h | h
  case inr.inr.inr.inr.inr.inr.inr.inr.inr.inr.inr.inr =>
    have e : Wd.opV o a b = .tuple #[.int .i32 0, .bool false] := by unfold Wd.opV; rw [Wd.op_far o a b h]; rfl
    rw [e]
    exact rop_far o a b w h h1 h2 h3 h4
  all_goals subst h
  · have h := rop_1 a b w h1 h2 h3 h4
    rwa [Wd.wrap32_mod] at h
  · have h := rop_2 a b w h1 h2 h3 h4
    rwa [Wd.wrap32_mod] at h
  · have h := rop_3 a b w h1 h2 h3 h4
    rwa [Wd.mul_mod] at h
  · exact rop_4 a b w h1 h2 h3 h4
  · by_cases hz : b = 0
    · have e : Wd.opV 5 a b = .tuple #[.int .i32 0, .bool false] := by simp [Wd.opV, Wd.op, hz]
      rw [e]
      exact rop_5z a b w h1 h2 h3 h4 (by simp [hz])
    · have e : Wd.opV 5 a b = .tuple #[.int .i32 (wrap32 (a.tdiv b)), .bool true] := by simp [Wd.opV, Wd.op, hz]
      rw [e]
      have h := rop_5 a b w h1 h2 h3 h4 (by simp [hz]) hz
      rwa [Wd.wrap32_mod] at h
  · by_cases hz : b = 0
    · have e : Wd.opV 6 a b = .tuple #[.int .i32 0, .bool false] := by simp [Wd.opV, Wd.op, hz]
      rw [e]
      exact rop_6z a b w h1 h2 h3 h4 (by simp [hz])
    · have e : Wd.opV 6 a b = .tuple #[.int .i32 (a.tmod b), .bool true] := by simp [Wd.opV, Wd.op, hz]
      rw [e]
      have h := rop_6 a b w h1 h2 h3 h4 (by simp [hz]) hz
      have hq := Wd.tmod_bd a b h1 h2
      rwa [Wd.wrap32_mod, Wd.wrap32_in _ hq.1 hq.2] at h
  · exact rop_7 a b w h1 h2 h3 h4
  · exact rop_8 a b w h1 h2 h3 h4
  · exact rop_9 a b w h1 h2 h3 h4
  · exact rop_10 a b w h1 h2 h3 h4
  · exact rop_11 a b w h1 h2 h3 h4
  · exact rop_12 a b w h1 h2 h3 h4

end Go.Proofs.Ythnehhidlaggeaa
