/- scarfjointref2.Rows: the walk: the table is made. -/
import Derived.Test.YthnehhidlaggeaaKit
import Derived.Test.YthnehhidlaggeaaTabPlain
namespace Go.Proofs.Ythnehhidlaggeaa
set_option linter.unusedVariables false
set_option linter.unusedSimpArgs false
open Go.RowKit

theorem row_info : (Try.prog.info? 89).map (fun i => (i.zero, i.size, i.bytes)) = some (some (.agg #[.int .i64 0, .string ⟨#[]⟩, .string ⟨#[]⟩, .bool false]), 4, 48) := by kernel_rfl

set_option maxRecDepth 100000 in
set_option maxHeartbeats 1000000 in
theorem rows_any (w : World) :
    Calls Try.prog 70 #[] w fun e w' => (∃ v, e = .returned v ∧ w'.ownsRow w.heap.size 89 4 v 25 (Cp.cellsTo 25)) ∧ Below w.heap.size w w' := by
  obtain ⟨i0, hi0, hz0, hz1, hz2⟩ := info_parts row_info
  go_enter Try.func70, Try.ntmps70
  go_wp2_with fail
  have hI : World.ownsRow (World.alloc (w.alloc (.cells (Cp.cellsTo 13).toArray 89)) (.cells Cp.names 9)) w.heap.size 89 4 (.slice (some ⟨w.heap.size, 0, none⟩) 13 13) 13 (Cp.cellsTo 13) :=
    (World.ownsRow_lit w (Cp.cellsTo 13).toArray 13 (Nat.le_refl _) (by decide) rfl).alloc _
  have hN : (World.alloc (w.alloc (.cells (Cp.cellsTo 13).toArray 89)) (.cells Cp.names 9)).heap[w.heap.size + 1]? = some (.cells Cp.names 9 (0, 0)) := heap_alloc_new2 w _ _
  have hB : Below w.heap.size w (World.alloc (w.alloc (.cells (Cp.cellsTo 13).toArray 89)) (.cells Cp.names 9)) := ((Below.refl _ _).alloc (Nat.le_refl _) _).alloc (by simp) _
  go_loopg [3, 1] 12 (fun gk i v wr => ∃ k : Nat, k ≤ 12 ∧ gk = 12 - k ∧ i = .int .i64 k ∧ wr.ownsRow w.heap.size 89 4 v (13 + k) (Cp.cellsTo (13 + k)) ∧
    wr.heap[w.heap.size + 1]? = some (.cells Cp.names 9 (0, 0)) ∧ Below w.heap.size w wr)
  case atStart => exact ⟨0, by omega, rfl, rfl, hI, hN, hB⟩
  case round =>
    clear hI hN hB
    obtain ⟨k, hk, hg, rfl, hown, hN, hB⟩ := hrel
    have HG := Lib.hid hg
    clear hg
    by_cases hlt : k < 12
    · have hc : wr.cell? ⟨w.heap.size + 1, k, none⟩ = some (.string (Cp.nameK k)) := (cell_of_row wr _ k _ _ _ hN).trans (Cp.names_at k hlt)
      have HN := Lib.hid hN
      clear hN
      go_wp2_with (first
        | (at_builtin; refine wpList_append_own _ rfl _ _ 151 rfl w.heap.size 89 i0 _ 4 48 Try.underlying151 hi0 hz0 hz1 hz2 rfl (by decide) _ _ _ rfl (hown.alloc _) ⟨wr.heap.size, 0, none⟩ 1 1 [.int .i64 (4 + (k : Int)), .string (Cp.nameK k), .string ⟨#[65, 66, 67]⟩, .bool false] rfl rfl ?c1 ?c2 ?c3 ?c4 ?c5 ?_))
      case c1 => exact cells4 _ _ _ _ _
      case c2 => intro u hu; simp only [List.mem_cons, List.not_mem_nil, or_false] at hu; rcases hu with rfl | rfl | rfl | rfl <;> rfl
      case c3 => unfold maxLen; omega
      case c4 => omega
      case c5 => simp; exact Nat.le_succ_of_le hB.size
      intro v' w1 hown' hgrow _
      have hne := own_ne hown HN.out (by decide)
      have hN' : w1.heap[w.heap.size + 1]? = some (.cells Cp.names 9 (0, 0)) := by
        have hl := lt_of_block HN.out
        rw [hgrow.block _ (by simp; omega) hne, Below.heap_alloc _ _ _ hl]
        exact HN.out
      have hB' : Below w.heap.size w w1 := (hB.alloc hB.size _).grown hgrow (by simp; exact Nat.le_succ_of_le hB.size) (fun g hg => (hown.lt g hg).1)
      have hown2 : w1.ownsRow w.heap.size 89 4 v' (13 + (k + 1)) (Cp.cellsTo (13 + (k + 1))) := by
        rw [show 13 + (k + 1) = 13 + k + 1 from rfl, Cp.cellsTo_succ (13 + k) (by omega), Cp.row_at k hlt]
        exact hown'
      have HN' := Lib.hid hN'
      clear hown hown' hgrow hN' hne hB HN hc
      go_wp2_with fail
      go_roundg (12 - (k + 1))
      case measure => have := HG.out; omega
      case rel => exact ⟨k + 1, hlt, rfl, by go_num, hown2, HN'.out, hB'⟩
    · obtain rfl : k = 12 := by omega
      have HB := Lib.hid hB
      have HO := Lib.hid hown
      clear hB hown hN
      go_wp2_with fail
      go_ret
      exact ⟨⟨_, rfl, HO.out⟩, HB.out⟩

end Go.Proofs.Ythnehhidlaggeaa
