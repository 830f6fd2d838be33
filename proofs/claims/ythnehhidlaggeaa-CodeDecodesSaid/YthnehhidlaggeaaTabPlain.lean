/- Plain facts: the reference's table as a row of cells. No program in sight. -/
import Derived.Test.YthnehhidlaggeaaDecPlain
namespace Go.Proofs.Ythnehhidlaggeaa.Cp
set_option linter.unusedVariables false
set_option linter.unusedSimpArgs false

/-- the table, in the reference's order -/
def ops : List Int := [1, 2, 3, 16, 17, 18, 19, 21, 20, 22, 23, 24, 25, 4, 5, 6, 7, 8, 9, 10, 11, 12, 13, 14, 15]
def rowOf (op : Int) : List UInt8 × List UInt8 × Bool := (find op).getD ([], [], false)
/-- a row's four cells -/
def rowCells (op : Int) : List Value := [.int .i64 op, .string ⟨(rowOf op).1.toArray⟩, .string ⟨(rowOf op).2.1.toArray⟩, .bool (rowOf op).2.2]
def cellsTo (k : Nat) : List Value := (ops.take k).flatMap rowCells
theorem cellsTo_succ (k : Nat) (hk : k < 25) : cellsTo (k + 1) = cellsTo k ++ rowCells (ops.getD k 0) := by
  unfold cellsTo
  rw [List.take_succ_eq_append_getElem (by simpa [ops] using hk), List.flatMap_append]
  simp [List.getD_eq_getElem?_getD, show k < ops.length by simpa [ops] using hk]
/-- the names of the operations 4 to 15 -/
def nameK (k : Nat) : ByteArray := ⟨(rowOf (4 + k)).1.toArray⟩

def names : Array Value := #[.string (nameK 0), .string (nameK 1), .string (nameK 2), .string (nameK 3), .string (nameK 4), .string (nameK 5), .string (nameK 6), .string (nameK 7), .string (nameK 8), .string (nameK 9), .string (nameK 10), .string (nameK 11)]
theorem lt12 {k : Nat} (h : k < 12) : k = 0 ∨ k = 1 ∨ k = 2 ∨ k = 3 ∨ k = 4 ∨ k = 5 ∨ k = 6 ∨ k = 7 ∨ k = 8 ∨ k = 9 ∨ k = 10 ∨ k = 11 := by omega
theorem names_at (k : Nat) (h : k < 12) : names[k]? = some (.string (nameK k)) := by
  rcases lt12 h with rfl | rfl | rfl | rfl | rfl | rfl | rfl | rfl | rfl | rfl | rfl | rfl <;> rfl
theorem row_at (k : Nat) (h : k < 12) : rowCells (ops.getD (13 + k) 0) = [.int .i64 (4 + (k : Int)), .string (nameK k), .string ⟨#[65, 66, 67]⟩, .bool false] := by
  rcases lt12 h with rfl | rfl | rfl | rfl | rfl | rfl | rfl | rfl | rfl | rfl | rfl | rfl <;> rfl

end Go.Proofs.Ythnehhidlaggeaa.Cp
