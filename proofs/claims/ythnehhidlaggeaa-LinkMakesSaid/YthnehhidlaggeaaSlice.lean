/- A slice of numbers, in memory: no walk. -/
import Derived.Test.YthnehhidlaggeaaKit
namespace Go.Proofs.Ythnehhidlaggeaa
set_option linter.unusedVariables false
set_option linter.unusedSimpArgs false
open Go.RowKit

/-- an argument's slice of numbers -/
def SliceAt (w : World) (k : IntKind) (p : Option Addr) (l : List Int) : Prop :=
  l.length = 0 ∨ ∃ c co, p = some ⟨c, co, none⟩ ∧ c < w.heap.size ∧ ∀ j, j < l.length → w.cell? ⟨c, co + j, none⟩ = some (.int k (l.getD j 0))

/-- a slice's words are the kind's -/
def In32 (l : List Int) : Prop := ∀ j : Nat, -2147483648 ≤ l.getD j 0 ∧ l.getD j 0 ≤ 2147483647
theorem in32_mem {l : List Int} (h : In32 l) (v : Int) (hv : v ∈ l) : -2147483648 ≤ v ∧ v ≤ 2147483647 := by
  obtain ⟨j, hj, rfl⟩ := List.getElem_of_mem hv
  have := h j
  rwa [List.getD_eq_getElem?_getD, List.getElem?_eq_getElem hj] at this
theorem in32_of {l : List Int} (h : ∀ v ∈ l, -2147483648 ≤ v ∧ v ≤ 2147483647) : In32 l := by
  intro j
  rw [List.getD_eq_getElem?_getD]
  by_cases hj : j < l.length
  · rw [List.getElem?_eq_getElem hj]
    exact h _ (List.getElem_mem hj)
  · rw [List.getElem?_eq_none (by omega)]
    simp
theorem SliceAt.below {w w' : World} {k : IntKind} {p : Option Addr} {l : List Int} (h : SliceAt w k p l) (hb : Below w.heap.size w w') : SliceAt w' k p l := by
  rcases h with h | ⟨c, co, rfl, hc, hcells⟩
  · exact .inl h
  · exact .inr ⟨c, co, rfl, Nat.lt_of_lt_of_le hc hb.size, fun j hj => (hb.cell (p := ⟨c, co + j, none⟩) hc).trans (hcells j hj)⟩

end Go.Proofs.Ythnehhidlaggeaa
