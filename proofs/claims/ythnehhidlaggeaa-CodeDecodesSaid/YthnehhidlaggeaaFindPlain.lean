/- Plain facts: the search in the reference's table. No program in sight. -/
import Derived.Test.YthnehhidlaggeaaTabPlain
namespace Go.Proofs.Ythnehhidlaggeaa.Cp
set_option linter.unusedVariables false
set_option linter.unusedSimpArgs false

/-- the row of an op, as the reference has it -/
def rowV (op : Int) : Value :=
  match find op with
  | some (n, f, s) => .agg #[.int .i64 op, .string ⟨n.toArray⟩, .string ⟨f.toArray⟩, .bool s]
  | none => .agg #[.int .i64 0, .string ⟨#[]⟩, .string ⟨#[]⟩, .bool false]
theorem lt25 {k : Nat} (h : k < 25) : k = 0 ∨ k = 1 ∨ k = 2 ∨ k = 3 ∨ k = 4 ∨ k = 5 ∨ k = 6 ∨ k = 7 ∨ k = 8 ∨ k = 9 ∨ k = 10 ∨ k = 11 ∨ k = 12 ∨ k = 13 ∨ k = 14 ∨ k = 15 ∨ k = 16 ∨ k = 17 ∨ k = 18 ∨ k = 19 ∨ k = 20 ∨ k = 21 ∨ k = 22 ∨ k = 23 ∨ k = 24 := by omega
def opAt (k : Nat) : Int := ops.getD k 0
theorem cells_at (k : Nat) (h : k < 25) :
    (cellsTo 25)[k * 4]? = some (.int .i64 (opAt k)) ∧ (cellsTo 25)[k * 4 + 1]? = some (.string ⟨(rowOf (opAt k)).1.toArray⟩) ∧
    (cellsTo 25)[k * 4 + 2]? = some (.string ⟨(rowOf (opAt k)).2.1.toArray⟩) ∧ (cellsTo 25)[k * 4 + 3]? = some (.bool (rowOf (opAt k)).2.2) := by
  rcases lt25 h with rfl | rfl | rfl | rfl | rfl | rfl | rfl | rfl | rfl | rfl | rfl | rfl | rfl | rfl | rfl | rfl | rfl | rfl | rfl | rfl | rfl | rfl | rfl | rfl | rfl <;> exact ⟨rfl, rfl, rfl, rfl⟩
theorem find_opAt (k : Nat) (h : k < 25) : find (opAt k) = some (rowOf (opAt k)) := by
  rcases lt25 h with rfl | rfl | rfl | rfl | rfl | rfl | rfl | rfl | rfl | rfl | rfl | rfl | rfl | rfl | rfl | rfl | rfl | rfl | rfl | rfl | rfl | rfl | rfl | rfl | rfl <;> rfl
theorem rowV_opAt (k : Nat) (h : k < 25) : rowV (opAt k) = .agg #[.int .i64 (opAt k), .string ⟨(rowOf (opAt k)).1.toArray⟩, .string ⟨(rowOf (opAt k)).2.1.toArray⟩, .bool (rowOf (opAt k)).2.2] := by
  unfold rowV
  rw [find_opAt k h]
theorem find_none_of (op : Int) (h : ∀ j, j < 25 → opAt j ≠ op) : find op = none := by
  rcases op_cases op with e | e | e | e | e | e | e | e | e | e | e | e | e | e | e | e | e | e | e | e | e | e | e | e | e | e
  case inr.inr.inr.inr.inr.inr.inr.inr.inr.inr.inr.inr.inr.inr.inr.inr.inr.inr.inr.inr.inr.inr.inr.inr.inr => exact find_none op e
  all_goals
    exfalso
    subst e
    first
      | exact h 0 (by omega) rfl | exact h 1 (by omega) rfl | exact h 2 (by omega) rfl | exact h 3 (by omega) rfl | exact h 4 (by omega) rfl | exact h 5 (by omega) rfl | exact h 6 (by omega) rfl
      | exact h 7 (by omega) rfl | exact h 8 (by omega) rfl | exact h 9 (by omega) rfl | exact h 10 (by omega) rfl | exact h 11 (by omega) rfl | exact h 12 (by omega) rfl | exact h 13 (by omega) rfl
      | exact h 14 (by omega) rfl | exact h 15 (by omega) rfl | exact h 16 (by omega) rfl | exact h 17 (by omega) rfl | exact h 18 (by omega) rfl | exact h 19 (by omega) rfl | exact h 20 (by omega) rfl
      | exact h 21 (by omega) rfl | exact h 22 (by omega) rfl | exact h 23 (by omega) rfl | exact h 24 (by omega) rfl

theorem fields_short (op : Int) : (match find op with | some (_, f, _) => f.length | none => 0) ≤ 3 := by
  rcases op_cases op with e | e | e | e | e | e | e | e | e | e | e | e | e | e | e | e | e | e | e | e | e | e | e | e | e | e
  case inr.inr.inr.inr.inr.inr.inr.inr.inr.inr.inr.inr.inr.inr.inr.inr.inr.inr.inr.inr.inr.inr.inr.inr.inr => rw [find_none op e]; exact Nat.zero_le _
  all_goals
    subst e
    decide

end Go.Proofs.Ythnehhidlaggeaa.Cp
