/- scarfjointref2.Find: the walk. -/
import Derived.Test.YthnehhidlaggeaaTab
import Derived.Test.YthnehhidlaggeaaFindPlain
namespace Go.Proofs.Ythnehhidlaggeaa
set_option linter.unusedVariables false
set_option linter.unusedSimpArgs false
open Go.RowKit

set_option maxHeartbeats 1000000 in
theorem find_any (op : Int) (w : World) :
    Calls Try.prog 36 #[.int .i64 op] w fun e w' => e = .returned (.tuple #[Cp.rowV op, .bool (Cp.find op).isSome]) ∧ Below w.heap.size w w' := by
  obtain ⟨rv, hrv⟩ : ∃ rv, rv = Cp.rowV op := ⟨_, rfl⟩
  obtain ⟨tv, htv⟩ : ∃ tv, tv = (Cp.find op).isSome := ⟨_, rfl⟩
  rw [← hrv, ← htv]
  have HRV := Lib.hid hrv
  have HTV := Lib.hid htv
  clear hrv htv
  go_enter Try.func36, Try.ntmps36
  go_wp2_with fail
  refine (rows_any _).mono ?_
  rintro e w1 ⟨⟨v, rfl, hown⟩, hb⟩
  have hR : w1.heap[w.heap.size]? = some (.cells #[.int .i64 0, .string ⟨#[]⟩, .string ⟨#[]⟩, .bool false] 89 (0, 0)) := (hb.block w.heap.size (by simp)).trans (heap_alloc_new w _)
  have hB : Below w.heap.size w w1 := ((Below.refl _ _).alloc (Nat.le_refl _) _).trans (hb.mono (by simp))
  rcases hown.2 with ⟨_, h⟩ | ⟨g, cap, cur, rfl, hbg, _⟩
  · omega
  have hx : ∀ j, j < 100 → w1.cell? ⟨g, j, none⟩ = (Cp.cellsTo 25)[j]? := fun j hj => hown.cellAt j (by omega)
  have hg : w.heap.size < g := by simp at hbg; omega
  clear hown hb hbg
  have HX := Lib.hid hx
  have HR := Lib.hid hR
  have HB := Lib.hid hB
  clear hx hR hB
  go_wp2_with fail
  go_loopg [5] 25 (fun gk i wr => ∃ k : Nat, k ≤ 25 ∧ gk = 25 - k ∧ i = .int .i64 k ∧ wr = w1 ∧ ∀ j, j < k → Cp.opAt j ≠ op)
  case atStart => exact ⟨0, by omega, rfl, rfl, rfl, fun _ h => absurd h (by omega)⟩
  case round =>
    obtain ⟨k, hk, hgk, rfl, rfl, hno⟩ := hrel
    have HG := Lib.hid hgk
    have HN := Lib.hid hno
    clear hgk hno
    by_cases hlt : k < 25
    · have hx0 := (HX.out (k * 4) (by omega)).trans (Cp.cells_at k hlt).1
      by_cases he : Cp.opAt k = op
      · have hx1 := (HX.out (k * 4 + 1) (by omega)).trans (Cp.cells_at k hlt).2.1
        have hx2 := (HX.out (k * 4 + 2) (by omega)).trans (Cp.cells_at k hlt).2.2.1
        have hx3 := (HX.out (k * 4 + 3) (by omega)).trans (Cp.cells_at k hlt).2.2.2
        obtain ⟨q0, q1, q2, q3, qz⟩ := blk4 HR.out
        subst he
        have ht : (Cp.opAt k == Cp.opAt k) = true := by simp
        obtain rfl : tv = true := by rw [HTV.out, Cp.find_opAt k hlt]; rfl
        have hrv := HRV.out
        rw [Cp.rowV_opAt k hlt] at hrv
        subst hrv
        go_wp2_with fail
        refine bodyPost_ret (v := .tuple #[.agg #[.int .i64 (Cp.opAt k), .string ⟨(Cp.rowOf (Cp.opAt k)).1.toArray⟩, .string ⟨(Cp.rowOf (Cp.opAt k)).2.1.toArray⟩, .bool (Cp.rowOf (Cp.opAt k)).2.2], .bool true])
          (by simp [results, Try.results36, go_sem, q0, q1, q2, q3]) rfl ⟨rfl, ?_⟩
        have hB := HB.out
        clear q0 q1 q2 q3 qz hx0 hx1 hx2 hx3
        repeat (first | (with_reducible assumption) | refine Below.setCell ?_ (by simp <;> try omega) _)
      · have ht : (Cp.opAt k == op) = false := by simp [he]
        have HE := Lib.hid he
        clear he
        go_wp2_with fail
        go_roundg (25 - (k + 1))
        case measure => have := HG.out; omega
        case rel => exact ⟨k + 1, hlt, rfl, by go_num, rfl, fun j hj => by
          by_cases e : j = k
          · subst e; exact HE.out
          · exact HN.out j (by omega)⟩
    · obtain rfl : k = 25 := by omega
      have hf : Cp.find op = none := Cp.find_none_of op HN.out
      obtain rfl : tv = false := by rw [HTV.out, hf]; rfl
      obtain rfl : rv = .agg #[.int .i64 0, .string ⟨#[]⟩, .string ⟨#[]⟩, .bool false] := by rw [HRV.out]; unfold Cp.rowV; rw [hf]
      clear hf
      obtain ⟨q0, q1, q2, q3, qz⟩ := blk4 HR.out
      go_wp2_with fail
      refine bodyPost_ret (v := .tuple #[.agg #[.int .i64 0, .string ⟨#[]⟩, .string ⟨#[]⟩, .bool false], .bool false])
        (by simp [results, Try.results36, go_sem, q0, q1, q2, q3]) rfl ⟨rfl, ?_⟩
      have hB := HB.out
      clear q0 q1 q2 q3 qz
      repeat (first | (with_reducible assumption) | refine Below.setCell ?_ (by simp <;> try omega) _)

end Go.Proofs.Ythnehhidlaggeaa
