/- object.reader: the closure that reads a text: the walk. -/
import Derived.Test.YthnehhidlaggeaaGetRead
import Derived.Test.YthnehhidlaggeaaLate
import Derived.Deep.RegionHeld
namespace Go.Proofs.Ythnehhidlaggeaa
set_option linter.unusedVariables false
set_option linter.unusedSimpArgs false
open Go.RowKit Ob

theorem drew_grown {w w' : World} {row : Option Nat} (h : w.drew.grownBy w' row) : w.grownBy w' row := ⟨h.os, h.tape, h.output, h.size, h.block⟩
theorem grown_refl (w : World) (row : Option Nat) : w.grownBy w row := ⟨rfl, rfl, rfl, Nat.le_refl _, fun _ _ _ => rfl⟩
theorem rdAt_drew {w : World} {B pr : Nat} {l : List UInt8} (h : RdAt w B pr l) : RdAt w.drew B pr l := h.draw 1
/-- a pointer's own box is another block -/
theorem rd_ne {w : World} {B pr br : Nat} {l : List UInt8} (h : RdAt w B pr l) {cs : Array Value} {t : TypeId} (hb : w.heap[br]? = some (.cells cs t (0, 0))) (ht : t ≠ 124) : some br ≠ some pr := by
  obtain ⟨_, a, n, c, h2, _⟩ := h
  intro e
  injection e with e
  rw [e, h2] at hb
  injection hb with hb
  injection hb with _ e2
  exact ht e2.symm
theorem SlcAt.bytesIn {w : World} {B : Nat} {a : Option Addr} {n c : Nat} {l : List UInt8} (h : SlcAt w B a n c l) (hB : B ≤ w.heap.size) : BytesIn w (.slice a n c) l := by
  refine ⟨n, c, a, rfl, h.len, ?_⟩
  rcases h.loc with ⟨rfl, h0⟩ | ⟨b, off, rfl, hlt, hc⟩
  · exact .inl ⟨by have := h.cap; omega, rfl⟩
  · exact .inr ⟨b, off, rfl, by omega, hc⟩

set_option maxRecDepth 100000 in
set_option maxHeartbeats 1000000 in
theorem txt_none (B pr br : Nat) (l : List UInt8) (w : World) (h : RdAt w B pr l) (hb : w.heap[br]? = some (.cells #[.pointer (some ⟨pr, 0, none⟩)] 123 (0, 0))) (hn : txt l = none) :
    Calls Try.prog 84 #[.pointer (some ⟨br, 0, none⟩)] w fun e w' => e = shorts ∧ w.grownBy w' (some pr) := by
  have hn2 : cnt 1 l = none := by
    rw [cnt_txt] at hn
    rcases e : cnt 1 l with _ | ⟨n, r⟩
    · rfl
    · rw [e] at hn; cases hn
  have c0 := cell_of_row w br 0 _ _ _ hb
  simp only [List.getElem?_toArray, List.getElem?_cons_zero] at c0
  have H := Lib.hid (count_none B pr 1 l w.drew (rdAt_drew h) (by omega) (by omega) hn2)
  clear h hb hn hn2
  go_enter Try.func84, Try.ntmps84
  go_wp2_with fail
  refine wp_region_late (fun w' => w'.cell? ⟨br, 0, none⟩ = some (.pointer (some ⟨pr, 0, none⟩))) [] mixed ?hS0 (fun hHeld => ?_)
  case hS0 => (try dsimp only); simp [*, go_sem]
  refine' wpLate_take (i := 0) (v := ?v1) rfl (by kernel_rfl) (by kernel_rfl) (by kernel_rfl) (by kernel_rfl) (by kernel_rfl) (fun _ _ _ h => h) (Or.inl ⟨by rfl, ?hy1⟩) (by assumption) ?rest1
  case hy1 => (intro w hSw; (try dsimp only at hSw); go_simp; try with_reducible rfl)
  try simp only [Act.put, List.setIfInBounds_toArray, List.set_cons_zero, List.set_cons_succ, List.getElem_toArray, List.getElem_cons_zero, List.getElem_cons_succ]
  refine' wpLate_take (i := 1) (v := ?v2) rfl (by kernel_rfl) (by kernel_rfl) (by kernel_rfl) (by kernel_rfl) (by kernel_rfl) (fun _ _ _ h => h) (Or.inl ⟨by rfl, ?hy2⟩) (by assumption) ?rest2
  case hy2 => (intro w hSw; (try dsimp only at hSw); go_simp; try with_reducible rfl)
  try simp only [Act.put, List.setIfInBounds_toArray, List.set_cons_zero, List.set_cons_succ, List.getElem_toArray, List.getElem_cons_zero, List.getElem_cons_succ]
  refine wpLate_ready (rs := [2]) (by kernel_rfl) (by simp) ?_
  refine ReadyL.cons rfl (fun K3 hK3 => ?_) ReadyL.nil
  go_simp
  refine H.out.mono ?_
  rintro e w' ⟨rfl, hg⟩
  exact ⟨rfl, rfl, drew_grown hg⟩

set_option maxRecDepth 100000 in
set_option maxHeartbeats 1000000 in
theorem txt_some (B pr br : Nat) (l : List UInt8) (w : World) (h : RdAt w B pr l) (hb : w.heap[br]? = some (.cells #[.pointer (some ⟨pr, 0, none⟩)] 123 (0, 0))) (a r : List UInt8) (hn : txt l = some (a, r)) :
    Calls Try.prog 84 #[.pointer (some ⟨br, 0, none⟩)] w fun e w' => e = .returned (.string (str a)) ∧ RdAt w' B pr r ∧ w.grownBy w' (some pr) := by
  obtain ⟨n, q, hc, ha, hr⟩ : ∃ n q, cnt 1 l = some (n, q) ∧ q.take n = a ∧ q.drop n = r := by
    rw [cnt_txt] at hn
    rcases e : cnt 1 l with _ | ⟨n, q⟩
    · rw [e] at hn; cases hn
    · rw [e] at hn
      simp only [Option.some.injEq, Prod.mk.injEq] at hn
      exact ⟨n, q, rfl, hn.1, hn.2⟩
  obtain ⟨x, hx, hxn, hnq⟩ := cnt_num hc
  have hxb := num_bd hx
  rw [Nat.div_one] at hnq
  have c0 := cell_of_row w br 0 _ _ _ hb
  simp only [List.getElem?_toArray, List.getElem?_cons_zero] at c0
  have hBp : B ≤ pr := h.1
  have H := Lib.hid (count_some B pr 1 n l q w.drew (rdAt_drew h) (by omega) (by omega) hc)
  have H2 : Hid (∀ w', RdAt w' B pr q → Calls Try.prog 85 #[.pointer (some ⟨pr, 0, none⟩), .int .i64 n] w' fun e w'' => ∃ a' c, e = .returned (.slice a' n c) ∧ SlcAt w'' B a' n c a ∧ RdAt w'' B pr r ∧ w'.grownBy w'' (some pr)) := fun w' hw' => by
    have := take_ok B pr n q w' hw' hnq (by omega)
    rw [ha, hr] at this
    exact this
  have hne := Lib.hid (rd_ne h hb (by decide))
  have HB := Lib.hid hb
  clear h hb hn hc hx hxn ha hr
  go_enter Try.func84, Try.ntmps84
  go_wp2_with fail
  refine wp_region_late (fun w' => w'.cell? ⟨br, 0, none⟩ = some (.pointer (some ⟨pr, 0, none⟩))) [] mixed ?hS0 (fun hHeld => ?_)
  case hS0 => (try dsimp only); simp [*, go_sem]
  refine' wpLate_take (i := 0) (v := ?v4) rfl (by kernel_rfl) (by kernel_rfl) (by kernel_rfl) (by kernel_rfl) (by kernel_rfl) (fun _ _ _ h => h) (Or.inl ⟨by rfl, ?hy4⟩) (by assumption) ?rest4
  case hy4 => (intro w hSw; (try dsimp only at hSw); go_simp; try with_reducible rfl)
  try simp only [Act.put, List.setIfInBounds_toArray, List.set_cons_zero, List.set_cons_succ, List.getElem_toArray, List.getElem_cons_zero, List.getElem_cons_succ]
  refine' wpLate_take (i := 1) (v := ?v5) rfl (by kernel_rfl) (by kernel_rfl) (by kernel_rfl) (by kernel_rfl) (by kernel_rfl) (fun _ _ _ h => h) (Or.inl ⟨by rfl, ?hy5⟩) (by assumption) ?rest5
  case hy5 => (intro w hSw; (try dsimp only at hSw); go_simp; try with_reducible rfl)
  try simp only [Act.put, List.setIfInBounds_toArray, List.set_cons_zero, List.set_cons_succ, List.getElem_toArray, List.getElem_cons_zero, List.getElem_cons_succ]
  refine wpLate_ready (rs := [2]) (by kernel_rfl) (by simp) ?_
  refine ReadyL.cons rfl (fun K6 hK6 => ?_) ReadyL.nil
  go_simp
  refine H.out.mono ?_
  rintro e w1 ⟨rfl, hr1, hg1⟩
  have hb1 := (hg1.block br (lt_of_block HB.out) hne.out).trans HB.out
  have d0 := cell_of_row w1 br 0 _ _ _ hb1
  simp only [List.getElem?_toArray, List.getElem?_cons_zero] at d0
  have HR1 := Lib.hid hr1
  have HG1 := Lib.hid hg1
  have HB1 := Lib.hid hb1
  clear hr1 hg1 hb1
  refine hK6.out _ _ ?hS6 (fun hHeld6 => ?_)
  case hS6 => (intro _; (try dsimp only); simp [*, go_sem])
  clear hK6 K6 hHeld
  have hHeld := hHeld6 (by simp)
  clear hHeld6
  refine wpLate_ready (rs := [3]) (by kernel_rfl) (by simp) ?_
  refine ReadyL.cons rfl (fun K7 hK7 => ?_) ReadyL.nil
  go_simp
  refine (H2.out w1 HR1.out).mono ?_
  rintro e w2 ⟨a2, c2, rfl, hs2, hr2, hg2⟩
  have hb2 := (hg2.block br (lt_of_block HB1.out) hne.out).trans HB1.out
  have f0 := cell_of_row w2 br 0 _ _ _ hb2
  simp only [List.getElem?_toArray, List.getElem?_cons_zero] at f0
  have hbi : BytesIn w2 (.slice a2 n c2) a := hs2.bytesIn (by
    obtain ⟨h1, _, _, _, h2, _⟩ := hr2
    have := lt_of_block h2
    omega)
  have k2 := hbi.run
  have HR2 := Lib.hid hr2
  have HG2 := Lib.hid hg2
  clear hs2 hr2 hg2 hb2 hbi
  refine hK7.out _ _ ?hS7 (fun hHeld7 => ?_)
  case hS7 => (intro _; (try dsimp only); simp [*, go_sem])
  clear hK7 K7 hHeld
  have hHeld := hHeld7 (by simp)
  clear hHeld7
  refine wpLate_ready (rs := [4]) (by kernel_rfl) (by simp) ?_
  refine ReadyL.cons rfl (fun K8 hK8 => ?_) ReadyL.nil
  go_simp
  refine hK8.out _ _ ?hS8 (fun hHeld8 => ?_)
  case hS8 => (intro _; (try dsimp only); simp [*, go_sem])
  clear hK8 K8 hHeld
  have hHeld := hHeld8 (by simp)
  clear hHeld8
  refine' wpLate_take (i := 5) (v := ?v9) rfl (by kernel_rfl) (by kernel_rfl) (by kernel_rfl) (by kernel_rfl) (by kernel_rfl) (fun _ _ _ h => h) (Or.inl ⟨by rfl, ?hy9⟩) (by assumption) ?rest9
  case hy9 => (intro w hSw; (try dsimp only at hSw); go_simp; try with_reducible rfl)
  try simp only [Act.put, List.setIfInBounds_toArray, List.set_cons_zero, List.set_cons_succ, List.getElem_toArray, List.getElem_cons_zero, List.getElem_cons_succ]
  refine wpLate_done (by kernel_rfl) ?_ _
  go_wp2_with fail
  go_ret
  exact ⟨rfl, HR2.out, drew_grown (HG1.out.trans HG2.out)⟩

end Go.Proofs.Ythnehhidlaggeaa
