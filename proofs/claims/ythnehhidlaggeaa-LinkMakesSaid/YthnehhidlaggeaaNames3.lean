/- The reference's names: the walk. -/
import Derived.Test.YthnehhidlaggeaaNames2
namespace Go.Proofs.Ythnehhidlaggeaa
set_option linter.unusedVariables false
set_option linter.unusedSimpArgs false
open Go.RowKit Ob

def reservedB : List ByteArray := [{ data := #[98, 114, 101, 97, 107] }, { data := #[99, 111, 117, 110, 116] }, { data := #[101, 108, 115, 101] }, { data := #[101, 120, 116, 101, 114, 110] }, { data := #[101, 120, 116, 114, 97] }, { data := #[102, 110] }, { data := #[105, 102] }, { data := #[105, 110, 116] }, { data := #[108, 111, 110, 103] }, { data := #[112, 117, 116] }, { data := #[114, 101, 116, 117, 114, 110] }, { data := #[115, 116, 97, 116, 105, 99] }, { data := #[115, 116, 114, 117, 99, 116] }, { data := #[119, 104, 105, 108, 101] }]
theorem reservedB_eq : reservedB.map (·.data.toList) = reserved := by kernel_rfl
theorem reservedB_at (j : Nat) (h : j < reservedB.length) : (reservedB.map Value.string).toArray[j]? = some (.string reservedB[j]) := by
  rw [List.getElem?_toArray, List.getElem?_map, List.getElem?_eq_getElem h]
  rfl

set_option maxRecDepth 100000 in
theorem reserved_any (w : World) : Calls Try.prog 81 #[] w fun e w' => e = .returned (.slice (some ⟨w.heap.size, 0, none⟩) 14 14) ∧ w.alloc (.cells (reservedB.map Value.string).toArray 9) = w' := by
  go_enter Try.func81, Try.ntmps81
  go_wp2_with fail
  go_ret
  exact ⟨rfl, rfl⟩

set_option maxRecDepth 100000 in
set_option maxHeartbeats 2000000 in
theorem rname_any (s : ByteArray) (w : World) (hs : s.size ≤ 9223372036854775807) :
    Calls Try.prog 52 #[.string s] w fun e w' => e = .returned (.bool (nameB s.data.toList)) ∧ Below w.heap.size w w' := by
  have HRS : Hid (∀ w' : World, Calls Try.prog 80 #[.slice (some ⟨w'.heap.size, 0, none⟩) 14 14, .string s] (w'.alloc (.cells (reservedB.map Value.string).toArray 9)) fun e w'' => e = .returned (.bool (reserved.contains s.data.toList)) ∧ w'.alloc (.cells (reservedB.map Value.string).toArray 9) = w'') := by
    intro w'
    have h := among_any s w'.heap.size 14 14 reservedB (w'.alloc (.cells (reservedB.map Value.string).toArray 9)) rfl (by omega) (fun j h => by
      rw [cell_of_row _ _ _ _ _ _ (heap_alloc_new w' _), reservedB_at j h])
    rw [reservedB_eq] at h
    exact h
  obtain ⟨t, ht⟩ : ∃ t, nameB s.data.toList = t := ⟨_, rfl⟩
  rw [ht]
  have HT := Lib.hid ht
  have hsd := size_data s
  have HSD := Lib.hid hsd
  clear ht hsd
  by_cases h1 : s.size < 1
  · obtain rfl : t = false := by rw [← HT.out]; exact nameB_len (.inl (by rw [HSD.out]; exact h1))
    go_enter Try.func52, Try.ntmps52
    go_wp2_with fail
    go_ret
    exact ⟨rfl, Below.refl _ _⟩
  by_cases h2 : 16 < s.size
  · obtain rfl : t = false := by rw [← HT.out]; exact nameB_len (.inr (by rw [HSD.out]; exact h2))
    go_enter Try.func52, Try.ntmps52
    go_wp2_with fail
    go_ret
    exact ⟨rfl, Below.refl _ _⟩
  have d1 : decide ((s.size : Int) < 1) = false := decide_eq_false (by omega)
  have d2 : decide (16 < (s.size : Int)) = false := decide_eq_false (by omega)
  go_enter Try.func52, Try.ntmps52
  go_wp2_with fail
  go_loopg [3] s.size (fun gk i wr => ∃ k : Nat, k ≤ s.size ∧ gk = s.size - k ∧ i = .int .i64 k ∧ w = wr ∧ ∀ j, j < k → nameAt s.data.toList j = true)
  case atStart => exact ⟨0, by omega, rfl, rfl, rfl, fun _ h => absurd h (by omega)⟩
  case round =>
    obtain ⟨k, hk, hgk, rfl, rfl, hall⟩ := hrel
    have HG := Lib.hid hgk
    have HN := Lib.hid hall
    clear hgk hall
    by_cases hlt : k < s.size
    · have hb : (s[k].toNat : Int) < 256 := by have := s[k].toNat_lt; omega
      have HA : Hid (nameAt s.data.toList k = (if k = 0 then letterI (s[k].toNat : Int) else restI (s[k].toNat : Int))) := by
        show nameAt _ _ = _
        unfold nameAt
        rw [getD_data s k hlt]
        split
        · rename_i e; subst e; rw [getD_data s 0 hlt]
        · rfl
      by_cases hl : letterI (s[k].toNat : Int) = true
      · have HK : Hid (nameAt s.data.toList k = true) := by show nameAt _ _ = true; rw [HA.out]; unfold restI; rw [hl]; simp
        go_wp2_with (go_at_call 78; refine (rletter_any _ _).mono ?_; rintro e w' ⟨rfl, rfl⟩)
        go_roundg (s.size - (k + 1))
        case measure => have := HG.out; omega
        case rel => exact ⟨k + 1, hlt, rfl, by go_num, rfl, fun j hj => by
          by_cases e : j = k
          · subst e; exact HK.out
          · exact HN.out j (by omega)⟩
      · have hl' : letterI (s[k].toNat : Int) = false := by simpa using hl
        clear hl
        by_cases hk0 : k = 0
        · have e0 : ((k : Int) == 0) = true := beq_iff_eq.2 (by omega)
          obtain rfl : t = false := by
            rw [← HT.out]
            exact nameB_at (j := k) (by rw [HSD.out]; exact hlt) (by rw [HA.out, if_pos hk0]; exact hl')
          clear hk0
          go_wp2_with (go_at_call 78; refine (rletter_any _ _).mono ?_; rintro e w' ⟨rfl, rfl⟩)
          go_ret
          exact ⟨rfl, Below.refl _ _⟩
        have e0 : ((k : Int) == 0) = false := beq_eq_false_iff_ne.2 (by omega)
        have HA2 : Hid (nameAt s.data.toList k = restI (s[k].toNat : Int)) := by show nameAt _ _ = _; rw [HA.out, if_neg hk0]
        clear HA hk0
        by_cases hd : digitI (s[k].toNat : Int) = true
        · have HK : Hid (nameAt s.data.toList k = true) := by show nameAt _ _ = true; rw [HA2.out]; unfold restI; rw [hd, Bool.true_or, Bool.or_true]
          go_wp2_with (first | (go_at_call 78; refine (rletter_any _ _).mono ?_; rintro e w' ⟨rfl, rfl⟩) | (go_at_call 79; refine (rdigit_any _ _).mono ?_; rintro e w' ⟨rfl, rfl⟩))
          go_roundg (s.size - (k + 1))
          case measure => have := HG.out; omega
          case rel => exact ⟨k + 1, hlt, rfl, by go_num, rfl, fun j hj => by
            by_cases e : j = k
            · subst e; exact HK.out
            · exact HN.out j (by omega)⟩
        · have hd' : digitI (s[k].toNat : Int) = false := by simpa using hd
          clear hd
          by_cases h5 : (s[k].toNat : Int) = 95
          · have e5 : ((s[k].toNat : Int) != 95) = false := by simp [h5]
            have HK : Hid (nameAt s.data.toList k = true) := by show nameAt _ _ = true; rw [HA2.out]; unfold restI; rw [h5]; rfl
            clear h5
            go_wp2_with (first | (go_at_call 78; refine (rletter_any _ _).mono ?_; rintro e w' ⟨rfl, rfl⟩) | (go_at_call 79; refine (rdigit_any _ _).mono ?_; rintro e w' ⟨rfl, rfl⟩))
            go_roundg (s.size - (k + 1))
            case measure => have := HG.out; omega
            case rel => exact ⟨k + 1, hlt, rfl, by go_num, rfl, fun j hj => by
              by_cases e : j = k
              · subst e; exact HK.out
              · exact HN.out j (by omega)⟩
          · have e5 : ((s[k].toNat : Int) != 95) = true := by simp [h5]
            have e6 : ((s[k].toNat : Int) == 95) = false := by simp [h5]
            obtain rfl : t = false := by
              rw [← HT.out]
              refine nameB_at (j := k) (by rw [HSD.out]; exact hlt) ?_
              rw [HA2.out]; unfold restI; rw [hl', hd', e6]; rfl
            clear h5 e6
            go_wp2_with (first | (go_at_call 78; refine (rletter_any _ _).mono ?_; rintro e w' ⟨rfl, rfl⟩) | (go_at_call 79; refine (rdigit_any _ _).mono ?_; rintro e w' ⟨rfl, rfl⟩))
            go_ret
            exact ⟨rfl, Below.refl _ _⟩
    · have HF : Hid ((!reserved.contains s.data.toList) = t) := by
        show _ = _
        rw [← HT.out, nameB_all (by rw [HSD.out]; omega) (by rw [HSD.out]; omega) (fun j hj => HN.out j (by rw [HSD.out] at hj; omega))]
      go_wp2_with fail
      refine (reserved_any _).mono ?_
      rintro e w1 ⟨rfl, rfl⟩
      go_wp2_with fail
      refine (HRS.out _).mono ?_
      rintro e w1 ⟨rfl, rfl⟩
      go_wp2_with fail
      go_ret
      exact ⟨ret_bool (by have := HF.out; rwa [List.contains_eq_mem] at this), (Below.refl _ _).alloc (Nat.le_refl _) _⟩

end Go.Proofs.Ythnehhidlaggeaa
