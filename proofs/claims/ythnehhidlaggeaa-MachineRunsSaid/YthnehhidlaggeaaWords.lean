/- words, begins: the same words? does a row begin with another one? -/
import Derived.Test.YthnehhidlaggeaaRun
namespace Go.Proofs.Ythnehhidlaggeaa
set_option linter.unusedVariables false
set_option linter.unusedSimpArgs false
open Go.RowKit Mc

/-- a slice of words -/
def WordsAt (w : World) (v : Value) (l : List Int) : Prop := ∃ p c, v = .slice p l.length c ∧ l.length ≤ c ∧ l.length ≤ 9223372036854775807 ∧ SliceAt w .i32 p l
theorem WordsAt.below {w w' : World} {v : Value} {l : List Int} (h : WordsAt w v l) (hb : Below w.heap.size w w') : WordsAt w' v l := by
  obtain ⟨p, c, h1, h2, h3, h4⟩ := h
  exact ⟨p, c, h1, h2, h3, h4.below hb⟩
theorem own_words {w : World} {b : Nat} {v : Value} {l : List Int} (h : w.ownsRow b 21 1 v l.length (l.map (Value.int .i32))) : WordsAt w v l := by
  rcases h.2 with ⟨rfl, h0⟩ | ⟨g, cap, cur, rfl, h1, h2, h3, h4, h5, h6⟩
  · exact ⟨none, 0, by rw [h0], by omega, by omega, .inl h0⟩
  · refine ⟨_, cap, rfl, h3, by unfold maxLen at h4; omega, .inr ⟨g, 0, rfl, lt_of_block h2, ?_⟩⟩
    intro j hj
    have := h.cells (g := g) rfl j (.int .i32 (l.getD j 0)) (by rw [List.getElem?_map, List.getElem?_eq_getElem hj, List.getD_eq_getElem?_getD, List.getElem?_eq_getElem hj]; rfl)
    rw [add_at] at this
    rwa [Nat.zero_add]
theorem getD_eq_of_take {l1 l2 : List Int} (hl : l1.length = l2.length) (k : Nat) (hk : k < l1.length) (h : l1.take k = l2.take k) (e : l1.getD k 0 = l2.getD k 0) : l1.take (k + 1) = l2.take (k + 1) := by
  rw [List.take_succ_eq_append_getElem hk, List.take_succ_eq_append_getElem (by omega), h]
  rw [List.getD_eq_getElem?_getD, List.getD_eq_getElem?_getD, List.getElem?_eq_getElem hk, List.getElem?_eq_getElem (by omega)] at e
  rw [show l1[k] = l2[k] from e]

set_option maxRecDepth 100000 in
set_option maxHeartbeats 1000000 in
theorem kwords_any (p1 p2 : Option Addr) (l1 l2 : List Int) (n1 n2 c1 c2 : Nat) (w : World) (h1 : l1.length = n1) (h2 : l2.length = n2) (s1 : SliceAt w .i32 p1 l1) (s2 : SliceAt w .i32 p2 l2) (m1 : n1 ≤ 9223372036854775807) (m2 : n2 ≤ 9223372036854775807) :
    Calls Try.prog 16 #[.slice p1 n1 c1, .slice p2 n2 c2] w fun e w' => e = .returned (.bool (decide (l1 = l2))) ∧ Below w.heap.size w w' := by
  have HS1 := Lib.hid s1
  have HS2 := Lib.hid s2
  have H1 := Lib.hid h1
  have H2 := Lib.hid h2
  clear s1 s2 h1 h2
  obtain ⟨R, hR⟩ : ∃ R, R = decide (l1 = l2) := ⟨_, rfl⟩
  rw [← hR]
  have HR := Lib.hid hR
  clear hR
  by_cases hl : n1 = n2
  · subst hl
    go_enter Try.func16, Try.ntmps16
    go_wp2_with fail
    go_loopw [5] (fun i wr => ∃ k : Nat, k ≤ n1 ∧ i = .int .i64 k ∧ Below w.heap.size w wr ∧ Hid (l1.take k = l2.take k)) (fun i _ => n1 - (intOf i).toNat)
    case atStart => exact ⟨0, by omega, rfl, Below.refl _ _, rfl⟩
    case round =>
      obtain ⟨k, hk, rfl, hb, HK⟩ := hrel
      have HB := Lib.hid hb
      clear hb
      by_cases hlt : k < n1
      · have hl1 := H1.out
        have hl2 := H2.out
        rcases HS1.out with hz | ⟨b1, o1, rfl, hb1, hc1⟩
        · omega
        rcases HS2.out with hz | ⟨b2, o2, rfl, hb2, hc2⟩
        · omega
        have q1 : wr.cell? ⟨b1, o1 + k, none⟩ = some (.int .i32 (l1.getD k 0)) := (HB.out.cell hb1).trans (hc1 k (by omega))
        have q2 : wr.cell? ⟨b2, o2 + k, none⟩ = some (.int .i32 (l2.getD k 0)) := (HB.out.cell hb2).trans (hc2 k (by omega))
        have hki : (k : Int) < n1 := by omega
        obtain ⟨x1, hx1⟩ : ∃ x1, x1 = l1.getD k 0 := ⟨_, rfl⟩
        obtain ⟨x2, hx2⟩ : ∃ x2, x2 = l2.getD k 0 := ⟨_, rfl⟩
        rw [← hx1] at q1
        rw [← hx2] at q2
        have HX1 := Lib.hid hx1
        have HX2 := Lib.hid hx2
        clear hx1 hx2 hc1 hc2 hb1 hb2 hl1 hl2
        by_cases he : x1 = x2
        · have hne : (x1 != x2) = false := by simp [he]
          have HE := Lib.hid he
          clear he
          go_wp2_with fail
          go_quiet (fail)
          go_wp2_with fail
          go_roundw
          case rel =>
            refine ⟨k + 1, by omega, by go_num, below_drewN HB.out _, ?_⟩
            have hl1 := H1.out
            have hl2 := H2.out
            exact getD_eq_of_take (by omega) k (by omega) HK.out (by rw [← HX1.out, ← HX2.out]; exact HE.out)
          case measure => simp [intOf]; omega
        · have hne : (x1 != x2) = true := by simp [he]
          have HE := Lib.hid he
          clear he
          go_wp2_with fail
          go_quiet (fail)
          go_wp2_with fail
          go_ret
          refine ⟨?_, below_drewN HB.out _⟩
          have hf : R = false := by
            rw [HR.out]
            refine decide_eq_false ?_
            rintro rfl
            exact HE.out (HX1.out.trans HX2.out.symm)
          rw [hf]
          rfl
      · go_wp2_with fail
        go_ret
        refine ⟨?_, HB.out⟩
        have hl1 := H1.out
        have hl2 := H2.out
        have hh := HK.out
        rw [List.take_of_length_le (by omega), List.take_of_length_le (by omega)] at hh
        have hf : R = true := by rw [HR.out]; exact decide_eq_true hh
        rw [hf]
        rfl
  · have hne : ((n1 : Int) != n2) = true := by rw [bne_iff_ne]; omega
    have HE := Lib.hid hl
    clear hl
    go_enter Try.func16, Try.ntmps16
    go_wp2_with fail
    go_ret
    refine ⟨?_, Below.refl _ _⟩
    have hf : R = false := by
      rw [HR.out]
      refine decide_eq_false ?_
      rintro rfl
      exact HE.out (H1.out.symm.trans H2.out)
    rw [hf]
    rfl

set_option maxRecDepth 100000 in
set_option maxHeartbeats 1000000 in
theorem lwords_any (p1 p2 : Option Addr) (l1 l2 : List Int) (n1 n2 c1 c2 : Nat) (w : World) (h1 : l1.length = n1) (h2 : l2.length = n2) (s1 : SliceAt w .i32 p1 l1) (s2 : SliceAt w .i32 p2 l2) (m1 : n1 ≤ 9223372036854775807) (m2 : n2 ≤ 9223372036854775807) :
    Calls Try.prog 32 #[.slice p1 n1 c1, .slice p2 n2 c2] w fun e w' => e = .returned (.bool (decide (l1 = l2))) ∧ Below w.heap.size w w' := by
  have HS1 := Lib.hid s1
  have HS2 := Lib.hid s2
  have H1 := Lib.hid h1
  have H2 := Lib.hid h2
  clear s1 s2 h1 h2
  obtain ⟨R, hR⟩ : ∃ R, R = decide (l1 = l2) := ⟨_, rfl⟩
  rw [← hR]
  have HR := Lib.hid hR
  clear hR
  by_cases hl : n1 = n2
  · subst hl
    go_enter Try.func32, Try.ntmps32
    go_wp2_with fail
    go_loopw [5] (fun i wr => ∃ k : Nat, k ≤ n1 ∧ i = .int .i64 k ∧ Below w.heap.size w wr ∧ Hid (l1.take k = l2.take k)) (fun i _ => n1 - (intOf i).toNat)
    case atStart => exact ⟨0, by omega, rfl, Below.refl _ _, rfl⟩
    case round =>
      obtain ⟨k, hk, rfl, hb, HK⟩ := hrel
      have HB := Lib.hid hb
      clear hb
      by_cases hlt : k < n1
      · have hl1 := H1.out
        have hl2 := H2.out
        rcases HS1.out with hz | ⟨b1, o1, rfl, hb1, hc1⟩
        · omega
        rcases HS2.out with hz | ⟨b2, o2, rfl, hb2, hc2⟩
        · omega
        have q1 : wr.cell? ⟨b1, o1 + k, none⟩ = some (.int .i32 (l1.getD k 0)) := (HB.out.cell hb1).trans (hc1 k (by omega))
        have q2 : wr.cell? ⟨b2, o2 + k, none⟩ = some (.int .i32 (l2.getD k 0)) := (HB.out.cell hb2).trans (hc2 k (by omega))
        have hki : (k : Int) < n1 := by omega
        obtain ⟨x1, hx1⟩ : ∃ x1, x1 = l1.getD k 0 := ⟨_, rfl⟩
        obtain ⟨x2, hx2⟩ : ∃ x2, x2 = l2.getD k 0 := ⟨_, rfl⟩
        rw [← hx1] at q1
        rw [← hx2] at q2
        have HX1 := Lib.hid hx1
        have HX2 := Lib.hid hx2
        clear hx1 hx2 hc1 hc2 hb1 hb2 hl1 hl2
        by_cases he : x1 = x2
        · have hne : (x1 != x2) = false := by simp [he]
          have HE := Lib.hid he
          clear he
          go_wp2_with fail
          go_quiet (fail)
          go_wp2_with fail
          go_roundw
          case rel =>
            refine ⟨k + 1, by omega, by go_num, below_drewN HB.out _, ?_⟩
            have hl1 := H1.out
            have hl2 := H2.out
            exact getD_eq_of_take (by omega) k (by omega) HK.out (by rw [← HX1.out, ← HX2.out]; exact HE.out)
          case measure => simp [intOf]; omega
        · have hne : (x1 != x2) = true := by simp [he]
          have HE := Lib.hid he
          clear he
          go_wp2_with fail
          go_quiet (fail)
          go_wp2_with fail
          go_ret
          refine ⟨?_, below_drewN HB.out _⟩
          have hf : R = false := by
            rw [HR.out]
            refine decide_eq_false ?_
            rintro rfl
            exact HE.out (HX1.out.trans HX2.out.symm)
          rw [hf]
          rfl
      · go_wp2_with fail
        go_ret
        refine ⟨?_, HB.out⟩
        have hl1 := H1.out
        have hl2 := H2.out
        have hh := HK.out
        rw [List.take_of_length_le (by omega), List.take_of_length_le (by omega)] at hh
        have hf : R = true := by rw [HR.out]; exact decide_eq_true hh
        rw [hf]
        rfl
  · have hne : ((n1 : Int) != n2) = true := by rw [bne_iff_ne]; omega
    have HE := Lib.hid hl
    clear hl
    go_enter Try.func32, Try.ntmps32
    go_wp2_with fail
    go_ret
    refine ⟨?_, Below.refl _ _⟩
    have hf : R = false := by
      rw [HR.out]
      refine decide_eq_false ?_
      rintro rfl
      exact HE.out (H1.out.symm.trans H2.out)
    rw [hf]
    rfl

theorem SliceAt.take {w : World} {k : IntKind} {p : Option Addr} {l : List Int} (h : SliceAt w k p l) (n : Nat) (hn : n ≤ l.length) : SliceAt w k p (l.take n) := by
  rcases h with h | ⟨c, co, rfl, hc, hcells⟩
  · exact .inl (by rw [List.length_take]; omega)
  · refine .inr ⟨c, co, rfl, hc, fun j hj => ?_⟩
    rw [List.length_take] at hj
    have := hcells j (by omega)
    rw [List.getD_eq_getElem?_getD, List.getElem?_take, if_pos (by omega)]
    rwa [List.getD_eq_getElem?_getD] at this

set_option maxHeartbeats 1000000 in
theorem begins_yes (p1 p2 : Option Addr) (l1 l2 : List Int) (n1 n2 c1 c2 : Nat) (w : World) (h1 : l1.length = n1) (h2 : l2.length = n2) (s1 : SliceAt w .i32 p1 l1) (s2 : SliceAt w .i32 p2 l2) (m1 : n1 ≤ 9223372036854775807) (m2 : n2 ≤ 9223372036854775807) (mc : n1 ≤ c1) (hp : l2 <+: l1) :
    Calls Try.prog 15 #[.slice p1 n1 c1, .slice p2 n2 c2] w fun e w' => e = .returned (.bool true) ∧ Below w.heap.size w w' := by
  have hle : n2 ≤ n1 := by rw [← h1, ← h2]; exact hp.length_le
  have ht : l1.take n2 = l2 := by rw [← h2]; exact (List.prefix_iff_eq_take.1 hp).symm
  have HC : Hid (∀ w', Below w.heap.size w w' → Calls Try.prog 16 #[.slice p1 n2 c1, .slice p2 n2 c2] w' fun e w'' => e = .returned (.bool true) ∧ Below w'.heap.size w' w'') := by
    intro w' hb
    have h := kwords_any p1 p2 (l1.take n2) l2 n2 n2 c1 c2 w' (by rw [ht]; exact h2) h2 ((s1.below hb).take n2 (by omega)) (s2.below hb) (by omega) (by omega)
    rw [ht, decide_eq_true rfl] at h
    exact h
  have hlei : (n2 : Int) ≤ n1 := by omega
  have hlec : (n2 : Int) ≤ c1 := by omega
  clear h1 h2 s1 s2 hp ht
  go_enter Try.func15, Try.ntmps15
  go_wp2_with fail
  refine (HC.out _ (Below.refl _ _)).mono ?_
  rintro e w2 ⟨rfl, hb⟩
  go_wp2_with fail
  go_ret
  exact ⟨rfl, hb⟩

end Go.Proofs.Ythnehhidlaggeaa
