/- code.of: the walk: for every op it tells the form that the table has, or that there is none. -/
import Derived.Test.YthnehhidlaggeaaRows
import Derived.WalkKit
import Derived.WalkSpells
import Derived.WalkLawsBesides
import Derived.Lib.Hide
import Derived.Test.YthnehhidlaggeaaCodePlain
namespace Go.Proofs.Ythnehhidlaggeaa
set_option linter.unusedVariables false
set_option linter.unusedSimpArgs false
open Go.RowKit

theorem of1_any (n f : ByteArray) (w : World) :
    Calls Try.prog 66 #[.string n, .string f] w fun e w' => e = .returned (.tuple #[.agg #[.string n, .string f, .int .i64 (-32768), .int .i64 32767], .bool true]) ∧
      w.alloc (.cells #[.string n, .string f, .int .i64 (-32768), .int .i64 32767] 80) = w' := by
  go_enter Try.func66, Try.ntmps66
  go_wp2
  exact bodyPost_ret (v := .tuple #[.agg #[.string n, .string f, .int .i64 (-32768), .int .i64 32767], .bool true]) (by simp [results, Try.results66, go_sem]) rfl ⟨rfl, rfl⟩

theorem of2_any (n f : ByteArray) (w : World) :
    Calls Try.prog 67 #[.string n, .string f] w fun e w' => e = .returned (.tuple #[.agg #[.string n, .string f, .int .i64 0, .int .i64 65535], .bool true]) ∧
      w.alloc (.cells #[.string n, .string f, .int .i64 0, .int .i64 65535] 80) = w' := by
  go_enter Try.func67, Try.ntmps67
  go_wp2
  exact bodyPost_ret (v := .tuple #[.agg #[.string n, .string f, .int .i64 0, .int .i64 65535], .bool true]) (by simp [results, Try.results67, go_sem]) rfl ⟨rfl, rfl⟩

set_option maxHeartbeats 400000 in
theorem of_1 (w : World) :
    Calls Try.prog 33 #[.int .i64 1] w fun e w' => e = .returned (.tuple #[Cp.formV 1, .bool true]) ∧ Below w.heap.size w w' := by
  go_enter Try.func33, Try.ntmps33
  go_wp2_with (first
    | (go_at_call 66; refine (of1_any _ _ _).mono ?_; rintro e w' ⟨rfl, rfl⟩)
    | (go_at_call 67; refine (of2_any _ _ _).mono ?_; rintro e w' ⟨rfl, rfl⟩))
  refine bodyPost_ret (v := .tuple #[Cp.formV 1, .bool true]) (by simp [results, Try.results33, go_sem, Cp.formV, Cp.find]) rfl ⟨rfl, ?_⟩
  repeat (first | exact Below.refl _ _ | refine Below.alloc ?_ (by simp; try omega) _ | refine Below.setCell ?_ (by simp; try omega) _)

set_option maxHeartbeats 400000 in
theorem of_2 (w : World) :
    Calls Try.prog 33 #[.int .i64 2] w fun e w' => e = .returned (.tuple #[Cp.formV 2, .bool true]) ∧ Below w.heap.size w w' := by
  go_enter Try.func33, Try.ntmps33
  go_wp2_with (first
    | (go_at_call 66; refine (of1_any _ _ _).mono ?_; rintro e w' ⟨rfl, rfl⟩)
    | (go_at_call 67; refine (of2_any _ _ _).mono ?_; rintro e w' ⟨rfl, rfl⟩))
  refine bodyPost_ret (v := .tuple #[Cp.formV 2, .bool true]) (by simp [results, Try.results33, go_sem, Cp.formV, Cp.find]) rfl ⟨rfl, ?_⟩
  repeat (first | exact Below.refl _ _ | refine Below.alloc ?_ (by simp; try omega) _ | refine Below.setCell ?_ (by simp; try omega) _)

set_option maxHeartbeats 400000 in
theorem of_3 (w : World) :
    Calls Try.prog 33 #[.int .i64 3] w fun e w' => e = .returned (.tuple #[Cp.formV 3, .bool true]) ∧ Below w.heap.size w w' := by
  go_enter Try.func33, Try.ntmps33
  go_wp2_with (first
    | (go_at_call 66; refine (of1_any _ _ _).mono ?_; rintro e w' ⟨rfl, rfl⟩)
    | (go_at_call 67; refine (of2_any _ _ _).mono ?_; rintro e w' ⟨rfl, rfl⟩))
  refine bodyPost_ret (v := .tuple #[Cp.formV 3, .bool true]) (by simp [results, Try.results33, go_sem, Cp.formV, Cp.find]) rfl ⟨rfl, ?_⟩
  repeat (first | exact Below.refl _ _ | refine Below.alloc ?_ (by simp; try omega) _ | refine Below.setCell ?_ (by simp; try omega) _)

set_option maxHeartbeats 400000 in
theorem of_4 (w : World) :
    Calls Try.prog 33 #[.int .i64 4] w fun e w' => e = .returned (.tuple #[Cp.formV 4, .bool true]) ∧ Below w.heap.size w w' := by
  go_enter Try.func33, Try.ntmps33
  go_wp2_with (first
    | (go_at_call 66; refine (of1_any _ _ _).mono ?_; rintro e w' ⟨rfl, rfl⟩)
    | (go_at_call 67; refine (of2_any _ _ _).mono ?_; rintro e w' ⟨rfl, rfl⟩))
  refine bodyPost_ret (v := .tuple #[Cp.formV 4, .bool true]) (by simp [results, Try.results33, go_sem, Cp.formV, Cp.find]) rfl ⟨rfl, ?_⟩
  repeat (first | exact Below.refl _ _ | refine Below.alloc ?_ (by simp; try omega) _ | refine Below.setCell ?_ (by simp; try omega) _)

set_option maxHeartbeats 400000 in
theorem of_5 (w : World) :
    Calls Try.prog 33 #[.int .i64 5] w fun e w' => e = .returned (.tuple #[Cp.formV 5, .bool true]) ∧ Below w.heap.size w w' := by
  go_enter Try.func33, Try.ntmps33
  go_wp2_with (first
    | (go_at_call 66; refine (of1_any _ _ _).mono ?_; rintro e w' ⟨rfl, rfl⟩)
    | (go_at_call 67; refine (of2_any _ _ _).mono ?_; rintro e w' ⟨rfl, rfl⟩))
  refine bodyPost_ret (v := .tuple #[Cp.formV 5, .bool true]) (by simp [results, Try.results33, go_sem, Cp.formV, Cp.find]) rfl ⟨rfl, ?_⟩
  repeat (first | exact Below.refl _ _ | refine Below.alloc ?_ (by simp; try omega) _ | refine Below.setCell ?_ (by simp; try omega) _)

set_option maxHeartbeats 400000 in
theorem of_6 (w : World) :
    Calls Try.prog 33 #[.int .i64 6] w fun e w' => e = .returned (.tuple #[Cp.formV 6, .bool true]) ∧ Below w.heap.size w w' := by
  go_enter Try.func33, Try.ntmps33
  go_wp2_with (first
    | (go_at_call 66; refine (of1_any _ _ _).mono ?_; rintro e w' ⟨rfl, rfl⟩)
    | (go_at_call 67; refine (of2_any _ _ _).mono ?_; rintro e w' ⟨rfl, rfl⟩))
  refine bodyPost_ret (v := .tuple #[Cp.formV 6, .bool true]) (by simp [results, Try.results33, go_sem, Cp.formV, Cp.find]) rfl ⟨rfl, ?_⟩
  repeat (first | exact Below.refl _ _ | refine Below.alloc ?_ (by simp; try omega) _ | refine Below.setCell ?_ (by simp; try omega) _)

set_option maxHeartbeats 400000 in
theorem of_7 (w : World) :
    Calls Try.prog 33 #[.int .i64 7] w fun e w' => e = .returned (.tuple #[Cp.formV 7, .bool true]) ∧ Below w.heap.size w w' := by
  go_enter Try.func33, Try.ntmps33
  go_wp2_with (first
    | (go_at_call 66; refine (of1_any _ _ _).mono ?_; rintro e w' ⟨rfl, rfl⟩)
    | (go_at_call 67; refine (of2_any _ _ _).mono ?_; rintro e w' ⟨rfl, rfl⟩))
  refine bodyPost_ret (v := .tuple #[Cp.formV 7, .bool true]) (by simp [results, Try.results33, go_sem, Cp.formV, Cp.find]) rfl ⟨rfl, ?_⟩
  repeat (first | exact Below.refl _ _ | refine Below.alloc ?_ (by simp; try omega) _ | refine Below.setCell ?_ (by simp; try omega) _)

set_option maxHeartbeats 400000 in
theorem of_8 (w : World) :
    Calls Try.prog 33 #[.int .i64 8] w fun e w' => e = .returned (.tuple #[Cp.formV 8, .bool true]) ∧ Below w.heap.size w w' := by
  go_enter Try.func33, Try.ntmps33
  go_wp2_with (first
    | (go_at_call 66; refine (of1_any _ _ _).mono ?_; rintro e w' ⟨rfl, rfl⟩)
    | (go_at_call 67; refine (of2_any _ _ _).mono ?_; rintro e w' ⟨rfl, rfl⟩))
  refine bodyPost_ret (v := .tuple #[Cp.formV 8, .bool true]) (by simp [results, Try.results33, go_sem, Cp.formV, Cp.find]) rfl ⟨rfl, ?_⟩
  repeat (first | exact Below.refl _ _ | refine Below.alloc ?_ (by simp; try omega) _ | refine Below.setCell ?_ (by simp; try omega) _)

set_option maxHeartbeats 400000 in
theorem of_9 (w : World) :
    Calls Try.prog 33 #[.int .i64 9] w fun e w' => e = .returned (.tuple #[Cp.formV 9, .bool true]) ∧ Below w.heap.size w w' := by
  go_enter Try.func33, Try.ntmps33
  go_wp2_with (first
    | (go_at_call 66; refine (of1_any _ _ _).mono ?_; rintro e w' ⟨rfl, rfl⟩)
    | (go_at_call 67; refine (of2_any _ _ _).mono ?_; rintro e w' ⟨rfl, rfl⟩))
  refine bodyPost_ret (v := .tuple #[Cp.formV 9, .bool true]) (by simp [results, Try.results33, go_sem, Cp.formV, Cp.find]) rfl ⟨rfl, ?_⟩
  repeat (first | exact Below.refl _ _ | refine Below.alloc ?_ (by simp; try omega) _ | refine Below.setCell ?_ (by simp; try omega) _)

set_option maxHeartbeats 400000 in
theorem of_10 (w : World) :
    Calls Try.prog 33 #[.int .i64 10] w fun e w' => e = .returned (.tuple #[Cp.formV 10, .bool true]) ∧ Below w.heap.size w w' := by
  go_enter Try.func33, Try.ntmps33
  go_wp2_with (first
    | (go_at_call 66; refine (of1_any _ _ _).mono ?_; rintro e w' ⟨rfl, rfl⟩)
    | (go_at_call 67; refine (of2_any _ _ _).mono ?_; rintro e w' ⟨rfl, rfl⟩))
  refine bodyPost_ret (v := .tuple #[Cp.formV 10, .bool true]) (by simp [results, Try.results33, go_sem, Cp.formV, Cp.find]) rfl ⟨rfl, ?_⟩
  repeat (first | exact Below.refl _ _ | refine Below.alloc ?_ (by simp; try omega) _ | refine Below.setCell ?_ (by simp; try omega) _)

set_option maxHeartbeats 400000 in
theorem of_11 (w : World) :
    Calls Try.prog 33 #[.int .i64 11] w fun e w' => e = .returned (.tuple #[Cp.formV 11, .bool true]) ∧ Below w.heap.size w w' := by
  go_enter Try.func33, Try.ntmps33
  go_wp2_with (first
    | (go_at_call 66; refine (of1_any _ _ _).mono ?_; rintro e w' ⟨rfl, rfl⟩)
    | (go_at_call 67; refine (of2_any _ _ _).mono ?_; rintro e w' ⟨rfl, rfl⟩))
  refine bodyPost_ret (v := .tuple #[Cp.formV 11, .bool true]) (by simp [results, Try.results33, go_sem, Cp.formV, Cp.find]) rfl ⟨rfl, ?_⟩
  repeat (first | exact Below.refl _ _ | refine Below.alloc ?_ (by simp; try omega) _ | refine Below.setCell ?_ (by simp; try omega) _)

set_option maxHeartbeats 400000 in
theorem of_12 (w : World) :
    Calls Try.prog 33 #[.int .i64 12] w fun e w' => e = .returned (.tuple #[Cp.formV 12, .bool true]) ∧ Below w.heap.size w w' := by
  go_enter Try.func33, Try.ntmps33
  go_wp2_with (first
    | (go_at_call 66; refine (of1_any _ _ _).mono ?_; rintro e w' ⟨rfl, rfl⟩)
    | (go_at_call 67; refine (of2_any _ _ _).mono ?_; rintro e w' ⟨rfl, rfl⟩))
  refine bodyPost_ret (v := .tuple #[Cp.formV 12, .bool true]) (by simp [results, Try.results33, go_sem, Cp.formV, Cp.find]) rfl ⟨rfl, ?_⟩
  repeat (first | exact Below.refl _ _ | refine Below.alloc ?_ (by simp; try omega) _ | refine Below.setCell ?_ (by simp; try omega) _)

set_option maxHeartbeats 400000 in
theorem of_13 (w : World) :
    Calls Try.prog 33 #[.int .i64 13] w fun e w' => e = .returned (.tuple #[Cp.formV 13, .bool true]) ∧ Below w.heap.size w w' := by
  go_enter Try.func33, Try.ntmps33
  go_wp2_with (first
    | (go_at_call 66; refine (of1_any _ _ _).mono ?_; rintro e w' ⟨rfl, rfl⟩)
    | (go_at_call 67; refine (of2_any _ _ _).mono ?_; rintro e w' ⟨rfl, rfl⟩))
  refine bodyPost_ret (v := .tuple #[Cp.formV 13, .bool true]) (by simp [results, Try.results33, go_sem, Cp.formV, Cp.find]) rfl ⟨rfl, ?_⟩
  repeat (first | exact Below.refl _ _ | refine Below.alloc ?_ (by simp; try omega) _ | refine Below.setCell ?_ (by simp; try omega) _)

set_option maxHeartbeats 400000 in
theorem of_14 (w : World) :
    Calls Try.prog 33 #[.int .i64 14] w fun e w' => e = .returned (.tuple #[Cp.formV 14, .bool true]) ∧ Below w.heap.size w w' := by
  go_enter Try.func33, Try.ntmps33
  go_wp2_with (first
    | (go_at_call 66; refine (of1_any _ _ _).mono ?_; rintro e w' ⟨rfl, rfl⟩)
    | (go_at_call 67; refine (of2_any _ _ _).mono ?_; rintro e w' ⟨rfl, rfl⟩))
  refine bodyPost_ret (v := .tuple #[Cp.formV 14, .bool true]) (by simp [results, Try.results33, go_sem, Cp.formV, Cp.find]) rfl ⟨rfl, ?_⟩
  repeat (first | exact Below.refl _ _ | refine Below.alloc ?_ (by simp; try omega) _ | refine Below.setCell ?_ (by simp; try omega) _)

set_option maxHeartbeats 400000 in
theorem of_15 (w : World) :
    Calls Try.prog 33 #[.int .i64 15] w fun e w' => e = .returned (.tuple #[Cp.formV 15, .bool true]) ∧ Below w.heap.size w w' := by
  go_enter Try.func33, Try.ntmps33
  go_wp2_with (first
    | (go_at_call 66; refine (of1_any _ _ _).mono ?_; rintro e w' ⟨rfl, rfl⟩)
    | (go_at_call 67; refine (of2_any _ _ _).mono ?_; rintro e w' ⟨rfl, rfl⟩))
  refine bodyPost_ret (v := .tuple #[Cp.formV 15, .bool true]) (by simp [results, Try.results33, go_sem, Cp.formV, Cp.find]) rfl ⟨rfl, ?_⟩
  repeat (first | exact Below.refl _ _ | refine Below.alloc ?_ (by simp; try omega) _ | refine Below.setCell ?_ (by simp; try omega) _)

set_option maxHeartbeats 400000 in
theorem of_16 (w : World) :
    Calls Try.prog 33 #[.int .i64 16] w fun e w' => e = .returned (.tuple #[Cp.formV 16, .bool true]) ∧ Below w.heap.size w w' := by
  go_enter Try.func33, Try.ntmps33
  go_wp2_with (first
    | (go_at_call 66; refine (of1_any _ _ _).mono ?_; rintro e w' ⟨rfl, rfl⟩)
    | (go_at_call 67; refine (of2_any _ _ _).mono ?_; rintro e w' ⟨rfl, rfl⟩))
  refine bodyPost_ret (v := .tuple #[Cp.formV 16, .bool true]) (by simp [results, Try.results33, go_sem, Cp.formV, Cp.find]) rfl ⟨rfl, ?_⟩
  repeat (first | exact Below.refl _ _ | refine Below.alloc ?_ (by simp; try omega) _ | refine Below.setCell ?_ (by simp; try omega) _)

set_option maxHeartbeats 400000 in
theorem of_17 (w : World) :
    Calls Try.prog 33 #[.int .i64 17] w fun e w' => e = .returned (.tuple #[Cp.formV 17, .bool true]) ∧ Below w.heap.size w w' := by
  go_enter Try.func33, Try.ntmps33
  go_wp2_with (first
    | (go_at_call 66; refine (of1_any _ _ _).mono ?_; rintro e w' ⟨rfl, rfl⟩)
    | (go_at_call 67; refine (of2_any _ _ _).mono ?_; rintro e w' ⟨rfl, rfl⟩))
  refine bodyPost_ret (v := .tuple #[Cp.formV 17, .bool true]) (by simp [results, Try.results33, go_sem, Cp.formV, Cp.find]) rfl ⟨rfl, ?_⟩
  repeat (first | exact Below.refl _ _ | refine Below.alloc ?_ (by simp; try omega) _ | refine Below.setCell ?_ (by simp; try omega) _)

set_option maxHeartbeats 400000 in
theorem of_18 (w : World) :
    Calls Try.prog 33 #[.int .i64 18] w fun e w' => e = .returned (.tuple #[Cp.formV 18, .bool true]) ∧ Below w.heap.size w w' := by
  go_enter Try.func33, Try.ntmps33
  go_wp2_with (first
    | (go_at_call 66; refine (of1_any _ _ _).mono ?_; rintro e w' ⟨rfl, rfl⟩)
    | (go_at_call 67; refine (of2_any _ _ _).mono ?_; rintro e w' ⟨rfl, rfl⟩))
  refine bodyPost_ret (v := .tuple #[Cp.formV 18, .bool true]) (by simp [results, Try.results33, go_sem, Cp.formV, Cp.find]) rfl ⟨rfl, ?_⟩
  repeat (first | exact Below.refl _ _ | refine Below.alloc ?_ (by simp; try omega) _ | refine Below.setCell ?_ (by simp; try omega) _)

set_option maxHeartbeats 400000 in
theorem of_19 (w : World) :
    Calls Try.prog 33 #[.int .i64 19] w fun e w' => e = .returned (.tuple #[Cp.formV 19, .bool true]) ∧ Below w.heap.size w w' := by
  go_enter Try.func33, Try.ntmps33
  go_wp2_with (first
    | (go_at_call 66; refine (of1_any _ _ _).mono ?_; rintro e w' ⟨rfl, rfl⟩)
    | (go_at_call 67; refine (of2_any _ _ _).mono ?_; rintro e w' ⟨rfl, rfl⟩))
  refine bodyPost_ret (v := .tuple #[Cp.formV 19, .bool true]) (by simp [results, Try.results33, go_sem, Cp.formV, Cp.find]) rfl ⟨rfl, ?_⟩
  repeat (first | exact Below.refl _ _ | refine Below.alloc ?_ (by simp; try omega) _ | refine Below.setCell ?_ (by simp; try omega) _)

set_option maxHeartbeats 400000 in
theorem of_20 (w : World) :
    Calls Try.prog 33 #[.int .i64 20] w fun e w' => e = .returned (.tuple #[Cp.formV 20, .bool true]) ∧ Below w.heap.size w w' := by
  go_enter Try.func33, Try.ntmps33
  go_wp2_with (first
    | (go_at_call 66; refine (of1_any _ _ _).mono ?_; rintro e w' ⟨rfl, rfl⟩)
    | (go_at_call 67; refine (of2_any _ _ _).mono ?_; rintro e w' ⟨rfl, rfl⟩))
  refine bodyPost_ret (v := .tuple #[Cp.formV 20, .bool true]) (by simp [results, Try.results33, go_sem, Cp.formV, Cp.find]) rfl ⟨rfl, ?_⟩
  repeat (first | exact Below.refl _ _ | refine Below.alloc ?_ (by simp; try omega) _ | refine Below.setCell ?_ (by simp; try omega) _)

set_option maxHeartbeats 400000 in
theorem of_21 (w : World) :
    Calls Try.prog 33 #[.int .i64 21] w fun e w' => e = .returned (.tuple #[Cp.formV 21, .bool true]) ∧ Below w.heap.size w w' := by
  go_enter Try.func33, Try.ntmps33
  go_wp2_with (first
    | (go_at_call 66; refine (of1_any _ _ _).mono ?_; rintro e w' ⟨rfl, rfl⟩)
    | (go_at_call 67; refine (of2_any _ _ _).mono ?_; rintro e w' ⟨rfl, rfl⟩))
  refine bodyPost_ret (v := .tuple #[Cp.formV 21, .bool true]) (by simp [results, Try.results33, go_sem, Cp.formV, Cp.find]) rfl ⟨rfl, ?_⟩
  repeat (first | exact Below.refl _ _ | refine Below.alloc ?_ (by simp; try omega) _ | refine Below.setCell ?_ (by simp; try omega) _)

set_option maxHeartbeats 400000 in
theorem of_22 (w : World) :
    Calls Try.prog 33 #[.int .i64 22] w fun e w' => e = .returned (.tuple #[Cp.formV 22, .bool true]) ∧ Below w.heap.size w w' := by
  go_enter Try.func33, Try.ntmps33
  go_wp2_with (first
    | (go_at_call 66; refine (of1_any _ _ _).mono ?_; rintro e w' ⟨rfl, rfl⟩)
    | (go_at_call 67; refine (of2_any _ _ _).mono ?_; rintro e w' ⟨rfl, rfl⟩))
  refine bodyPost_ret (v := .tuple #[Cp.formV 22, .bool true]) (by simp [results, Try.results33, go_sem, Cp.formV, Cp.find]) rfl ⟨rfl, ?_⟩
  repeat (first | exact Below.refl _ _ | refine Below.alloc ?_ (by simp; try omega) _ | refine Below.setCell ?_ (by simp; try omega) _)

set_option maxHeartbeats 400000 in
theorem of_23 (w : World) :
    Calls Try.prog 33 #[.int .i64 23] w fun e w' => e = .returned (.tuple #[Cp.formV 23, .bool true]) ∧ Below w.heap.size w w' := by
  go_enter Try.func33, Try.ntmps33
  go_wp2_with (first
    | (go_at_call 66; refine (of1_any _ _ _).mono ?_; rintro e w' ⟨rfl, rfl⟩)
    | (go_at_call 67; refine (of2_any _ _ _).mono ?_; rintro e w' ⟨rfl, rfl⟩))
  refine bodyPost_ret (v := .tuple #[Cp.formV 23, .bool true]) (by simp [results, Try.results33, go_sem, Cp.formV, Cp.find]) rfl ⟨rfl, ?_⟩
  repeat (first | exact Below.refl _ _ | refine Below.alloc ?_ (by simp; try omega) _ | refine Below.setCell ?_ (by simp; try omega) _)

set_option maxHeartbeats 400000 in
theorem of_24 (w : World) :
    Calls Try.prog 33 #[.int .i64 24] w fun e w' => e = .returned (.tuple #[Cp.formV 24, .bool true]) ∧ Below w.heap.size w w' := by
  go_enter Try.func33, Try.ntmps33
  go_wp2_with (first
    | (go_at_call 66; refine (of1_any _ _ _).mono ?_; rintro e w' ⟨rfl, rfl⟩)
    | (go_at_call 67; refine (of2_any _ _ _).mono ?_; rintro e w' ⟨rfl, rfl⟩))
  refine bodyPost_ret (v := .tuple #[Cp.formV 24, .bool true]) (by simp [results, Try.results33, go_sem, Cp.formV, Cp.find]) rfl ⟨rfl, ?_⟩
  repeat (first | exact Below.refl _ _ | refine Below.alloc ?_ (by simp; try omega) _ | refine Below.setCell ?_ (by simp; try omega) _)

set_option maxHeartbeats 400000 in
theorem of_25 (w : World) :
    Calls Try.prog 33 #[.int .i64 25] w fun e w' => e = .returned (.tuple #[Cp.formV 25, .bool true]) ∧ Below w.heap.size w w' := by
  go_enter Try.func33, Try.ntmps33
  go_wp2_with (first
    | (go_at_call 66; refine (of1_any _ _ _).mono ?_; rintro e w' ⟨rfl, rfl⟩)
    | (go_at_call 67; refine (of2_any _ _ _).mono ?_; rintro e w' ⟨rfl, rfl⟩))
  refine bodyPost_ret (v := .tuple #[Cp.formV 25, .bool true]) (by simp [results, Try.results33, go_sem, Cp.formV, Cp.find]) rfl ⟨rfl, ?_⟩
  repeat (first | exact Below.refl _ _ | refine Below.alloc ?_ (by simp; try omega) _ | refine Below.setCell ?_ (by simp; try omega) _)

set_option maxHeartbeats 400000 in
theorem of_far (op : Int) (w : World) (h1 : -9223372036854775808 ≤ op) (h2 : op ≤ 9223372036854775807) (h : op ≤ 0 ∨ 26 ≤ op) :
    Calls Try.prog 33 #[.int .i64 op] w fun e w' => e = .returned (.tuple #[Cp.formV op, .bool false]) ∧ Below w.heap.size w w' := by
  have hf : Cp.formV op = .agg #[.string ⟨#[]⟩, .string ⟨#[]⟩, .int .i64 0, .int .i64 0] := by unfold Cp.formV; rw [Cp.find_none op h]
  have HF := Lib.hid hf
  clear hf
  rcases h with h | h
  all_goals
    go_enter Try.func33, Try.ntmps33
    go_wp2
    refine bodyPost_ret (v := .tuple #[.agg #[.string ⟨#[]⟩, .string ⟨#[]⟩, .int .i64 0, .int .i64 0], .bool false]) (by simp [results, Try.results33, go_sem]) rfl ⟨by rw [HF.out], ?_⟩
    repeat (first | exact Below.refl _ _ | refine Below.alloc ?_ (by simp; try omega) _ | refine Below.setCell ?_ (by simp; try omega) _)

theorem of_any (op : Int) (w : World) (h1 : -9223372036854775808 ≤ op) (h2 : op ≤ 9223372036854775807) :
    Calls Try.prog 33 #[.int .i64 op] w fun e w' => e = .returned (.tuple #[Cp.formV op, .bool (Cp.find op).isSome]) ∧ Below w.heap.size w w' := by
  rcases Cp.op_cases op with h | h | h | h | h | h | h | h | h | h | h | h | h | h | h | h | h | h | h | h | h | h | h | h | h | h
  case inr.inr.inr.inr.inr.inr.inr.inr.inr.inr.inr.inr.inr.inr.inr.inr.inr.inr.inr.inr.inr.inr.inr.inr.inr =>
    have e : (Cp.find op).isSome = false := by rw [Cp.find_none op h]; rfl
    rw [e]
    exact of_far op w h1 h2 h
  all_goals subst h
  · exact of_1 w
  · exact of_2 w
  · exact of_3 w
  · exact of_4 w
  · exact of_5 w
  · exact of_6 w
  · exact of_7 w
  · exact of_8 w
  · exact of_9 w
  · exact of_10 w
  · exact of_11 w
  · exact of_12 w
  · exact of_13 w
  · exact of_14 w
  · exact of_15 w
  · exact of_16 w
  · exact of_17 w
  · exact of_18 w
  · exact of_19 w
  · exact of_20 w
  · exact of_21 w
  · exact of_22 w
  · exact of_23 w
  · exact of_24 w
  · exact of_25 w

end Go.Proofs.Ythnehhidlaggeaa
