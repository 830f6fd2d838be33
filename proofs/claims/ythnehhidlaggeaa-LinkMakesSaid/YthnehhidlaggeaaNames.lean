/- Names and signs, the program's: the walks. -/
import Derived.Test.YthnehhidlaggeaaKit
import Derived.Test.YthnehhidlaggeaaShelf
import Derived.Test.YthnehhidlaggeaaObjPlain
namespace Go.Proofs.Ythnehhidlaggeaa
set_option linter.unusedVariables false
set_option linter.unusedSimpArgs false
open Go.RowKit Ob

theorem ret_bool {a b : Bool} (h : a = b) : Ending.returned (.bool a) = Ending.returned (.bool b) := by rw [h]
theorem isLetter_any (n : Int) (w : World) : Calls Try.prog 76 #[.int .u8 n] w fun e w' => e = .returned (.bool (letterI n)) ∧ w = w' := by
  go_enter Try.func76, Try.ntmps76
  go_wp2_with fail
  all_goals go_ret
  all_goals refine ⟨ret_bool ?_, rfl⟩
  all_goals (unfold letterI; first | (simp [*]; done) | (rw [Bool.eq_iff_iff]; simp; omega))

theorem words_lit : ({ data := #[32, 98, 114, 101, 97, 107, 32, 99, 111, 117, 110, 116, 32, 101, 108, 115, 101, 32, 101, 120, 116, 101, 114, 110, 32, 101, 120, 116, 114, 97, 32, 102, 110, 32, 105, 102, 32, 105, 110, 116, 32, 108, 111, 110, 103, 32, 112, 117, 116, 32, 114, 101, 116, 117, 114, 110, 32, 115, 116, 97, 116, 105, 99, 32, 115, 116, 114, 117, 99, 116, 32, 119, 104, 105, 108, 101, 32] } : ByteArray).data.toList = wordsText := by kernel_rfl
theorem words_size : ({ data := #[32, 98, 114, 101, 97, 107, 32, 99, 111, 117, 110, 116, 32, 101, 108, 115, 101, 32, 101, 120, 116, 101, 114, 110, 32, 101, 120, 116, 114, 97, 32, 102, 110, 32, 105, 102, 32, 105, 110, 116, 32, 108, 111, 110, 103, 32, 112, 117, 116, 32, 114, 101, 116, 117, 114, 110, 32, 115, 116, 97, 116, 105, 99, 32, 115, 116, 114, 117, 99, 116, 32, 119, 104, 105, 108, 101, 32] } : ByteArray).size < 4294967281 := of_decide_eq_true (by kernel_rfl)
theorem getD_data (s : ByteArray) (k : Nat) (h : k < s.size) : s.data.toList.getD k 0 = s[k] := by
  rw [List.getD_eq_getElem?_getD, List.getElem?_eq_getElem (by simpa using h)]
  rfl
theorem mem_data {s : ByteArray} {P : UInt8 → Prop} (h : ∀ j, j < s.size → P (s.data.toList.getD j 0)) : ∀ c ∈ s.data.toList, P c := by
  intro c hc
  obtain ⟨j, hj⟩ := List.getElem?_of_mem hc
  have hl := (List.getElem?_eq_some_iff.1 hj).1
  have := h j (by simpa using hl)
  rwa [List.getD_eq_getElem?_getD, hj] at this
theorem size_data (s : ByteArray) : s.data.toList.length = s.size := by rw [Array.length_toList]; rfl

theorem contains_lit (s : ByteArray) (m : Int) (w : World) (hm : w.cell? ⟨0, 0, none⟩ = some (.int .i64 m)) (hl : ∀ c ∈ s.data.toList, c ≠ 32) :
    Calls Try.prog 77 #[.string { data := #[32, 98, 114, 101, 97, 107, 32, 99, 111, 117, 110, 116, 32, 101, 108, 115, 101, 32, 101, 120, 116, 101, 114, 110, 32, 101, 120, 116, 114, 97, 32, 102, 110, 32, 105, 102, 32, 105, 110, 116, 32, 108, 111, 110, 103, 32, 112, 117, 116, 32, 114, 101, 116, 117, 114, 110, 32, 115, 116, 97, 116, 105, 99, 32, 115, 116, 114, 117, 99, 116, 32, 119, 104, 105, 108, 101, 32] }, .string ({ data := #[32] } ++ s ++ { data := #[32] })] w fun e w' => e = .returned (.bool (reserved.contains s.data.toList)) ∧ w = w' := by
  have e1 : ({ data := #[32] } ++ s ++ { data := #[32] } : ByteArray).data.toList = 32 :: (s.data.toList ++ [32]) := by simp
  generalize ({ data := #[32] } ++ s ++ { data := #[32] } : ByteArray) = sub at *
  have e2 := words_lit
  have e3 := words_size
  generalize ({ data := #[32, 98, 114, 101, 97, 107, 32, 99, 111, 117, 110, 116, 32, 101, 108, 115, 101, 32, 101, 120, 116, 101, 114, 110, 32, 101, 120, 116, 114, 97, 32, 102, 110, 32, 105, 102, 32, 105, 110, 116, 32, 108, 111, 110, 103, 32, 112, 117, 116, 32, 114, 101, 116, 117, 114, 110, 32, 115, 116, 97, 116, 105, 99, 32, 115, 116, 114, 117, 99, 116, 32, 119, 104, 105, 108, 101, 32] } : ByteArray) = ws at *
  refine (Try.strings_Contains ws sub m w e3 hm).mono ?_
  rintro e w' ⟨rfl, rfl⟩
  refine ⟨ret_bool ?_, rfl⟩
  rw [e1, e2]
  exact contains_reserved _ hl

set_option maxRecDepth 100000 in
set_option maxHeartbeats 2000000 in
theorem isName_any (s : ByteArray) (m : Int) (w : World) (hs : s.size ≤ 9223372036854775807) (hm : w.cell? ⟨0, 0, none⟩ = some (.int .i64 m)) :
    Calls Try.prog 48 #[.string s] w fun e w' => e = .returned (.bool (nameB s.data.toList)) ∧ w = w' := by
  have HW : Hid ((∀ c ∈ s.data.toList, c ≠ 32) → Calls Try.prog 77 #[.string { data := #[32, 98, 114, 101, 97, 107, 32, 99, 111, 117, 110, 116, 32, 101, 108, 115, 101, 32, 101, 120, 116, 101, 114, 110, 32, 101, 120, 116, 114, 97, 32, 102, 110, 32, 105, 102, 32, 105, 110, 116, 32, 108, 111, 110, 103, 32, 112, 117, 116, 32, 114, 101, 116, 117, 114, 110, 32, 115, 116, 97, 116, 105, 99, 32, 115, 116, 114, 117, 99, 116, 32, 119, 104, 105, 108, 101, 32] }, .string ({ data := #[32] } ++ s ++ { data := #[32] })] w fun e w' => e = .returned (.bool (reserved.contains s.data.toList)) ∧ w = w') := contains_lit s m w hm
  obtain ⟨t, ht⟩ : ∃ t, nameB s.data.toList = t := ⟨_, rfl⟩
  rw [ht]
  have HT := Lib.hid ht
  have hsd := size_data s
  have HSD := Lib.hid hsd
  clear ht hm hsd
  by_cases h1 : s.size < 1
  · obtain rfl : t = false := by rw [← HT.out]; exact nameB_len (.inl (by rw [HSD.out]; exact h1))
    go_enter Try.func48, Try.ntmps48
    go_wp2_with fail
    go_ret
    exact ⟨rfl, rfl⟩
  by_cases h2 : 16 < s.size
  · obtain rfl : t = false := by rw [← HT.out]; exact nameB_len (.inr (by rw [HSD.out]; exact h2))
    go_enter Try.func48, Try.ntmps48
    go_wp2_with fail
    go_ret
    exact ⟨rfl, rfl⟩
  have hp : 0 < s.size := by omega
  have hb0 : (s[0].toNat : Int) < 256 := by have := s[0].toNat_lt; omega
  by_cases h3 : letterI (s[0].toNat : Int) = true
  · have d1 : decide ((s.size : Int) < 1) = false := decide_eq_false (by omega)
    have d2 : decide (16 < (s.size : Int)) = false := decide_eq_false (by omega)
    have H3 : Hid (nameAt s.data.toList 0 = true) := by
      show nameAt _ _ = _
      unfold nameAt
      rw [if_pos rfl, getD_data s 0 hp]
      exact h3
    go_enter Try.func48, Try.ntmps48
    go_wp2_with (go_at_call 76; refine (isLetter_any _ _).mono ?_; rintro e w' ⟨rfl, rfl⟩)
    clear h3 hb0
    go_loopg [4] (s.size - 1) (fun gk i wr => ∃ k : Nat, 1 ≤ k ∧ k ≤ s.size ∧ gk = s.size - k ∧ i = .int .i64 k ∧ w = wr ∧ ∀ j, j < k → nameAt s.data.toList j = true)
    case atStart => exact ⟨1, by omega, by omega, rfl, rfl, rfl, fun j hj => by obtain rfl : j = 0 := by omega
                                                                                exact H3.out⟩
    case round =>
      obtain ⟨k, hk1, hk, hgk, rfl, rfl, hall⟩ := hrel
      have HG := Lib.hid hgk
      have HN := Lib.hid hall
      clear hgk hall
      by_cases hlt : k < s.size
      · have hb : (s[k].toNat : Int) < 256 := by have := s[k].toNat_lt; omega
        have HA : Hid (nameAt s.data.toList k = restI (s[k].toNat : Int)) := by
          show nameAt _ _ = _
          unfold nameAt
          rw [if_neg (by omega), getD_data s k hlt]
        by_cases hl : letterI (s[k].toNat : Int) = true
        · have HK : Hid (nameAt s.data.toList k = true) := by show nameAt _ _ = true; rw [HA.out]; unfold restI; rw [hl]; rfl
          go_wp2_with (go_at_call 76; refine (isLetter_any _ _).mono ?_; rintro e w' ⟨rfl, rfl⟩)
          go_roundg (s.size - (k + 1))
          case measure => have := HG.out; omega
          case rel => exact ⟨k + 1, by omega, hlt, rfl, by go_num, rfl, fun j hj => by
            by_cases e : j = k
            · subst e; exact HK.out
            · exact HN.out j (by omega)⟩
        · have hl' : letterI (s[k].toNat : Int) = false := by simpa using hl
          clear hl
          by_cases h5 : (s[k].toNat : Int) = 95
          · have e5 : ((s[k].toNat : Int) != 95) = false := by simp [h5]
            have HK : Hid (nameAt s.data.toList k = true) := by show nameAt _ _ = true; rw [HA.out]; unfold restI; rw [h5]; rfl
            clear h5
            go_wp2_with (go_at_call 76; refine (isLetter_any _ _).mono ?_; rintro e w' ⟨rfl, rfl⟩)
            go_roundg (s.size - (k + 1))
            case measure => have := HG.out; omega
            case rel => exact ⟨k + 1, by omega, hlt, rfl, by go_num, rfl, fun j hj => by
              by_cases e : j = k
              · subst e; exact HK.out
              · exact HN.out j (by omega)⟩
          · have e5 : ((s[k].toNat : Int) != 95) = true := by simp [h5]
            have e6 : ((s[k].toNat : Int) == 95) = false := by simp [h5]
            have E6 := Lib.hid e6
            clear h5 e6
            by_cases hd : digitI (s[k].toNat : Int) = true
            · have HK : Hid (nameAt s.data.toList k = true) := by show nameAt _ _ = true; rw [HA.out]; unfold restI; rw [hd, Bool.true_or, Bool.or_true]
              have c1 : decide ((s[k].toNat : Int) < 48) = false := by unfold digitI at hd; simp at hd ⊢; omega
              have c2 : decide (57 < (s[k].toNat : Int)) = false := by unfold digitI at hd; simp at hd ⊢; omega
              clear hd
              go_wp2_with (go_at_call 76; refine (isLetter_any _ _).mono ?_; rintro e w' ⟨rfl, rfl⟩)
              go_roundg (s.size - (k + 1))
              case measure => have := HG.out; omega
              case rel => exact ⟨k + 1, by omega, hlt, rfl, by go_num, rfl, fun j hj => by
                by_cases e : j = k
                · subst e; exact HK.out
                · exact HN.out j (by omega)⟩
            · have hd' : digitI (s[k].toNat : Int) = false := by simpa using hd
              clear hd
              obtain rfl : t = false := by
                rw [← HT.out]
                refine nameB_at (j := k) (by rw [HSD.out]; exact hlt) ?_
                rw [HA.out]; unfold restI; rw [hl', hd', E6.out]; rfl
              by_cases c1 : (s[k].toNat : Int) < 48
              · go_wp2_with (go_at_call 76; refine (isLetter_any _ _).mono ?_; rintro e w' ⟨rfl, rfl⟩)
                go_ret
                exact ⟨rfl, rfl⟩
              · have c2 : 57 < (s[k].toNat : Int) := by unfold digitI at hd'; simp at hd'; omega
                go_wp2_with (go_at_call 76; refine (isLetter_any _ _).mono ?_; rintro e w' ⟨rfl, rfl⟩)
                go_ret
                exact ⟨rfl, rfl⟩
      · have HF : Hid ((!reserved.contains s.data.toList) = t) := by
          show _ = _
          rw [← HT.out, nameB_all (by rw [HSD.out]; omega) (by rw [HSD.out]; omega) (fun j hj => HN.out j (by rw [HSD.out] at hj; omega))]
        have HC : Hid (∀ c ∈ s.data.toList, c ≠ 32) := by
          show ∀ c ∈ s.data.toList, c ≠ 32
          exact mem_data (fun j hj => nameAt_ne (HN.out j (by omega)))
        go_wp2_with fail
        refine (HW.out HC.out).mono ?_
        rintro e w' ⟨rfl, rfl⟩
        go_wp2_with fail
        go_ret
        exact ⟨ret_bool (by have := HF.out; rwa [List.contains_eq_mem] at this), rfl⟩
  · obtain rfl : t = false := by
      rw [← HT.out]
      refine nameB_at (j := 0) (by rw [HSD.out]; exact hp) ?_
      unfold nameAt
      rw [if_pos rfl, getD_data s 0 hp]
      simpa using h3
    have h3' : letterI (s[0].toNat : Int) = false := by simpa using h3
    clear h3
    go_enter Try.func48, Try.ntmps48
    go_wp2_with (go_at_call 76; refine (isLetter_any _ _).mono ?_; rintro e w' ⟨rfl, rfl⟩)
    go_ret
    exact ⟨rfl, rfl⟩

end Go.Proofs.Ythnehhidlaggeaa
