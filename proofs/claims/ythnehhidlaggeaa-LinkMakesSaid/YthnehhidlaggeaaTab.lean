/- scarfjointref2.Rows: the walk: the table is made. -/
import Derived.Test.YthnehhidlaggeaaKit
import Derived.Test.YthnehhidlaggeaaCodePlain
namespace Go.Proofs.Ythnehhidlaggeaa
set_option linter.unusedVariables false
set_option linter.unusedSimpArgs false
open Go.RowKit

theorem row_info : (Try.prog.info? 89).map (fun i => (i.zero, i.size, i.bytes)) = some (some (.agg #[.int .i64 0, .string ⟨#[]⟩, .string ⟨#[]⟩, .bool false]), 4, 48) := by kernel_rfl

set_option maxRecDepth 100000 in
set_option maxHeartbeats 1000000 in
theorem rows_any (w : World) :
    Calls Try.prog 70 #[] w fun e w' => (∃ v, e = .returned v ∧ w'.ownsRow w.heap.size 89 4 v 25 (Cp.cellsTo 25)) ∧ Below w.heap.size w w' := by
  obtain ⟨i0, hi0, hz0, hz1, hz2⟩ := info_parts row_info
  go_enter Try.func70, Try.ntmps70
  go_wp2_with fail
  have hI : World.ownsRow (World.alloc (w.alloc (.cells (Cp.cellsTo 13).toArray 89)) (.cells Cp.names 9)) w.heap.size 89 4 (.slice (some ⟨w.heap.size, 0, none⟩) 13 13) 13 (Cp.cellsTo 13) :=
    (World.ownsRow_lit w (Cp.cellsTo 13).toArray 13 (Nat.le_refl _) (by decide) rfl).alloc _
  have hN : (World.alloc (w.alloc (.cells (Cp.cellsTo 13).toArray 89)) (.cells Cp.names 9)).heap[w.heap.size + 1]? = some (.cells Cp.names 9 (0, 0)) := heap_alloc_new2 w _ _
  have hB : Below w.heap.size w (World.alloc (w.alloc (.cells (Cp.cellsTo 13).toArray 89)) (.cells Cp.names 9)) := ((Below.refl _ _).alloc (Nat.le_refl _) _).alloc (by simp) _
  go_loopg [3, 1] 12 (fun gk i v wr => ∃ k : Nat, k ≤ 12 ∧ gk = 12 - k ∧ i = .int .i64 k ∧ wr.ownsRow w.heap.size 89 4 v (13 + k) (Cp.cellsTo (13 + k)) ∧
    wr.heap[w.heap.size + 1]? = some (.cells Cp.names 9 (0, 0)) ∧ Below w.heap.size w wr)
  case atStart => exact ⟨0, by omega, rfl, rfl, hI, hN, hB⟩
  case round =>
    clear hI hN hB
    obtain ⟨k, hk, hg, rfl, hown, hN, hB⟩ := hrel
    have HG := Lib.hid hg
    clear hg
    by_cases hlt : k < 12
    · have hc : wr.cell? ⟨w.heap.size + 1, k, none⟩ = some (.string (Cp.nameK k)) := (cell_of_row wr _ k _ _ _ hN).trans (Cp.names_at k hlt)
      have HN := Lib.hid hN
      clear hN
      go_wp2_with (first
        | (at_builtin; refine wpList_append_own _ rfl _ _ 151 rfl w.heap.size 89 i0 _ 4 48 Try.underlying151 hi0 hz0 hz1 hz2 rfl (by decide) _ _ _ rfl (hown.alloc _) ⟨wr.heap.size, 0, none⟩ 1 1 [.int .i64 (4 + (k : Int)), .string (Cp.nameK k), .string ⟨#[65, 66, 67]⟩, .bool false] rfl rfl ?c1 ?c2 ?c3 ?c4 ?c5 ?_))
      case c1 => exact cells4 _ _ _ _ _
      case c2 => intro u hu; simp only [List.mem_cons, List.not_mem_nil, or_false] at hu; rcases hu with rfl | rfl | rfl | rfl <;> rfl
      case c3 => unfold maxLen; omega
      case c4 => omega
      case c5 => simp; exact Nat.le_succ_of_le hB.size
      intro v' w1 hown' hgrow _
      have hne := own_ne hown HN.out (by decide)
      have hN' : w1.heap[w.heap.size + 1]? = some (.cells Cp.names 9 (0, 0)) := by
        have hl := lt_of_block HN.out
        rw [hgrow.block _ (by simp; omega) hne, Below.heap_alloc _ _ _ hl]
        exact HN.out
      have hB' : Below w.heap.size w w1 := (hB.alloc hB.size _).grown hgrow (by simp; exact Nat.le_succ_of_le hB.size) (fun g hg => (hown.lt g hg).1)
      have hown2 : w1.ownsRow w.heap.size 89 4 v' (13 + (k + 1)) (Cp.cellsTo (13 + (k + 1))) := by
        rw [show 13 + (k + 1) = 13 + k + 1 from rfl, Cp.cellsTo_succ (13 + k) (by omega), Cp.row_at k hlt]
        exact hown'
      have HN' := Lib.hid hN'
      clear hown hown' hgrow hN' hne hB HN hc
      go_wp2_with fail
      go_roundg (12 - (k + 1))
      case measure => have := HG.out; omega
      case rel => exact ⟨k + 1, hlt, rfl, by go_num, hown2, HN'.out, hB'⟩
    · obtain rfl : k = 12 := by omega
      have HB := Lib.hid hB
      have HO := Lib.hid hown
      clear hB hown hN
      go_wp2_with fail
      go_ret
      exact ⟨⟨_, rfl, HO.out⟩, HB.out⟩

end Go.Proofs.Ythnehhidlaggeaa

/-! scarfjointref2.Find: the walk. -/
namespace Go.Proofs.Ythnehhidlaggeaa
set_option linter.unusedVariables false
set_option linter.unusedSimpArgs false
open Go.RowKit

set_option maxHeartbeats 1000000 in
theorem find_any (op : Int) (w : World) :
    Calls Try.prog 36 #[.int .i64 op] w fun e w' => e = .returned (.tuple #[Cp.rowV op, .bool (Cp.find op).isSome]) ∧ Below w.heap.size w w' := by
  obtain ⟨rv, hrv⟩ : ∃ rv, rv = Cp.rowV op := ⟨_, rfl⟩
  obtain ⟨tv, htv⟩ : ∃ tv, tv = (Cp.find op).isSome := ⟨_, rfl⟩
  rw [← hrv, ← htv]
  have HRV := Lib.hid hrv
  have HTV := Lib.hid htv
  clear hrv htv
  go_enter Try.func36, Try.ntmps36
  go_wp2_with fail
  refine (rows_any _).mono ?_
  rintro e w1 ⟨⟨v, rfl, hown⟩, hb⟩
  have hR : w1.heap[w.heap.size]? = some (.cells #[.int .i64 0, .string ⟨#[]⟩, .string ⟨#[]⟩, .bool false] 89 (0, 0)) := (hb.block w.heap.size (by simp)).trans (heap_alloc_new w _)
  have hB : Below w.heap.size w w1 := ((Below.refl _ _).alloc (Nat.le_refl _) _).trans (hb.mono (by simp))
  rcases hown.2 with ⟨_, h⟩ | ⟨g, cap, cur, rfl, hbg, _⟩
  · omega
  have hx : ∀ j, j < 100 → w1.cell? ⟨g, j, none⟩ = (Cp.cellsTo 25)[j]? := fun j hj => hown.cellAt j (by omega)
  have hg : w.heap.size < g := by simp at hbg; omega
  clear hown hb hbg
  have HX := Lib.hid hx
  have HR := Lib.hid hR
  have HB := Lib.hid hB
  clear hx hR hB
  go_wp2_with fail
  go_loopg [5] 25 (fun gk i wr => ∃ k : Nat, k ≤ 25 ∧ gk = 25 - k ∧ i = .int .i64 k ∧ wr = w1 ∧ ∀ j, j < k → Cp.opAt j ≠ op)
  case atStart => exact ⟨0, by omega, rfl, rfl, rfl, fun _ h => absurd h (by omega)⟩
  case round =>
    obtain ⟨k, hk, hgk, rfl, rfl, hno⟩ := hrel
    have HG := Lib.hid hgk
    have HN := Lib.hid hno
    clear hgk hno
    by_cases hlt : k < 25
    · have hx0 := (HX.out (k * 4) (by omega)).trans (Cp.cells_at k hlt).1
      by_cases he : Cp.opAt k = op
      · have hx1 := (HX.out (k * 4 + 1) (by omega)).trans (Cp.cells_at k hlt).2.1
        have hx2 := (HX.out (k * 4 + 2) (by omega)).trans (Cp.cells_at k hlt).2.2.1
        have hx3 := (HX.out (k * 4 + 3) (by omega)).trans (Cp.cells_at k hlt).2.2.2
        obtain ⟨q0, q1, q2, q3, qz⟩ := blk4 HR.out
        subst he
        have ht : (Cp.opAt k == Cp.opAt k) = true := by simp
        obtain rfl : tv = true := by rw [HTV.out, Cp.find_opAt k hlt]; rfl
        have hrv := HRV.out
        rw [Cp.rowV_opAt k hlt] at hrv
        subst hrv
        go_wp2_with fail
        refine bodyPost_ret (v := .tuple #[.agg #[.int .i64 (Cp.opAt k), .string ⟨(Cp.rowOf (Cp.opAt k)).1.toArray⟩, .string ⟨(Cp.rowOf (Cp.opAt k)).2.1.toArray⟩, .bool (Cp.rowOf (Cp.opAt k)).2.2], .bool true])
          (by simp [results, Try.results36, go_sem, q0, q1, q2, q3]) rfl ⟨rfl, ?_⟩
        have hB := HB.out
        clear q0 q1 q2 q3 qz hx0 hx1 hx2 hx3
        repeat (first | (with_reducible assumption) | refine Below.setCell ?_ (by simp <;> try omega) _)
      · have ht : (Cp.opAt k == op) = false := by simp [he]
        have HE := Lib.hid he
        clear he
        go_wp2_with fail
        go_roundg (25 - (k + 1))
        case measure => have := HG.out; omega
        case rel => exact ⟨k + 1, hlt, rfl, by go_num, rfl, fun j hj => by
          by_cases e : j = k
          · subst e; exact HE.out
          · exact HN.out j (by omega)⟩
    · obtain rfl : k = 25 := by omega
      have hf : Cp.find op = none := Cp.find_none_of op HN.out
      obtain rfl : tv = false := by rw [HTV.out, hf]; rfl
      obtain rfl : rv = .agg #[.int .i64 0, .string ⟨#[]⟩, .string ⟨#[]⟩, .bool false] := by rw [HRV.out]; unfold Cp.rowV; rw [hf]
      clear hf
      obtain ⟨q0, q1, q2, q3, qz⟩ := blk4 HR.out
      go_wp2_with fail
      refine bodyPost_ret (v := .tuple #[.agg #[.int .i64 0, .string ⟨#[]⟩, .string ⟨#[]⟩, .bool false], .bool false])
        (by simp [results, Try.results36, go_sem, q0, q1, q2, q3]) rfl ⟨rfl, ?_⟩
      have hB := HB.out
      clear q0 q1 q2 q3 qz
      repeat (first | (with_reducible assumption) | refine Below.setCell ?_ (by simp <;> try omega) _)

end Go.Proofs.Ythnehhidlaggeaa

/-! scarfjointref2.Has, fits: the walks. -/
namespace Go.Proofs.Ythnehhidlaggeaa
set_option linter.unusedVariables false
set_option linter.unusedSimpArgs false
open Go.RowKit

set_option maxHeartbeats 400000 in
theorem has_any (s : ByteArray) (c : Int) (t : Bool) (w : World) (hs : s.size ≤ 9223372036854775807) (h0 : 0 ≤ c) (h1 : c < 256) (ht : s.data.toList.contains c.toNat.toUInt8 = t) :
    Calls Try.prog 37 #[.string s, .int .u8 c] w fun e w' => e = .returned (.bool t) ∧ w = w' := by
  have HT := Lib.hid ht
  clear ht
  go_enter Try.func37, Try.ntmps37
  go_wp2_with fail
  go_loopg [5] s.size (fun gk i wr => ∃ k : Nat, k ≤ s.size ∧ gk = s.size - k ∧ i = .int .i64 k ∧ w = wr ∧ ∀ j, j < k → s.data.toList[j]? ≠ some c.toNat.toUInt8)
  case atStart => exact ⟨0, by omega, rfl, rfl, rfl, fun _ h => absurd h (by omega)⟩
  case round =>
    obtain ⟨k, hk, hgk, rfl, rfl, hno⟩ := hrel
    have HG := Lib.hid hgk
    have HN := Lib.hid hno
    clear hgk hno
    by_cases hlt : k < s.size
    · have hb : (s[k].toNat : Int) < 256 := by have := s[k].toNat_lt; omega
      have hg : s.data.toList[k]? = some s[k] := by
        rw [List.getElem?_eq_getElem (by simpa using hlt)]; rfl
      have HG2 := Lib.hid hg
      clear hg
      by_cases he : (s[k].toNat : Int) = c
      · have hte : ((s[k].toNat : Int) == c) = true := by simp [he]
        obtain rfl : t = true := by
          rw [← HT.out, List.contains_iff_mem]
          refine List.mem_of_getElem? (i := k) ?_
          rw [HG2.out, ← he]
          simp
        clear he
        go_wp2_with fail
        go_ret
        exact ⟨rfl, rfl⟩
      · have hte : ((s[k].toNat : Int) == c) = false := by simp [he]
        have HE := Lib.hid he
        clear he
        go_wp2_with fail
        go_roundg (s.size - (k + 1))
        case measure => have := HG.out; omega
        case rel => exact ⟨k + 1, hlt, rfl, by go_num, rfl, fun j hj => by
          by_cases e : j = k
          · subst e
            rw [HG2.out]
            intro hx
            apply HE.out
            have := congrArg (fun o => o.map UInt8.toNat) hx
            simp at this
            omega
          · exact HN.out j (by omega)⟩
    · obtain rfl : t = false := by
        rw [← HT.out, Bool.eq_false_iff]
        intro hc
        rw [List.contains_iff_mem] at hc
        obtain ⟨j, hj⟩ := List.getElem?_of_mem hc
        refine HN.out j ?_ hj
        have := (List.getElem?_eq_some_iff.1 hj).1
        simp at this
        omega
      go_wp2_with fail
      go_ret
      exact ⟨rfl, rfl⟩

end Go.Proofs.Ythnehhidlaggeaa
