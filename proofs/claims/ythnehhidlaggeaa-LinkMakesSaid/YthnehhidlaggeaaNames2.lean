/- Signs; the reference's names and signs: the walks. -/
import Derived.Test.YthnehhidlaggeaaNames
import Derived.Lib.SlicesS
namespace Go.Proofs.Ythnehhidlaggeaa
set_option linter.unusedVariables false
set_option linter.unusedSimpArgs false
open Go.RowKit Ob

set_option maxRecDepth 100000 in
set_option maxHeartbeats 2000000 in
theorem plain_any (s : ByteArray) (w : World) (hs : s.size ≤ 9223372036854775807) :
    Calls Try.prog 49 #[.string s] w fun e w' => e = .returned (.bool (signB s.data.toList)) ∧ w = w' := by
  obtain ⟨t, ht⟩ : ∃ t, signB s.data.toList = t := ⟨_, rfl⟩
  rw [ht]
  have HT := Lib.hid ht
  have hsd := size_data s
  have HSD := Lib.hid hsd
  clear ht hsd
  go_enter Try.func49, Try.ntmps49
  go_wp2_with fail
  go_loopg [6] s.size (fun gk i wr => ∃ k : Nat, k ≤ s.size ∧ gk = s.size - k ∧ i = .int .i64 k ∧ w = wr ∧ ∀ j, j < k → signAt s.data.toList j = true)
  case atStart => exact ⟨0, by omega, rfl, rfl, rfl, fun _ h => absurd h (by omega)⟩
  case round =>
    obtain ⟨k, hk, hgk, rfl, rfl, hall⟩ := hrel
    have HG := Lib.hid hgk
    have HN := Lib.hid hall
    clear hgk hall
    by_cases hlt : k < s.size
    · have hb : (s[k].toNat : Int) < 256 := by have := s[k].toNat_lt; omega
      have HA : Hid (signAt s.data.toList k = (decide (32 ≤ (s[k].toNat : Int)) && decide ((s[k].toNat : Int) ≤ 126))) := by
        show signAt _ _ = _
        unfold signAt
        rw [getD_data s k hlt]
      by_cases c1 : (s[k].toNat : Int) < 32
      · obtain rfl : t = false := by
          rw [← HT.out]
          refine signB_at (j := k) (by rw [HSD.out]; exact hlt) ?_
          rw [HA.out, decide_eq_false (by omega)]
          rfl
        go_wp2_with fail
        go_ret
        exact ⟨rfl, rfl⟩
      · by_cases c2 : 126 < (s[k].toNat : Int)
        · obtain rfl : t = false := by
            rw [← HT.out]
            refine signB_at (j := k) (by rw [HSD.out]; exact hlt) ?_
            rw [HA.out, decide_eq_false (p := (s[k].toNat : Int) ≤ 126) (by omega), Bool.and_false]
          go_wp2_with fail
          go_ret
          exact ⟨rfl, rfl⟩
        · have HK : Hid (signAt s.data.toList k = true) := by
            show signAt _ _ = true
            rw [HA.out, decide_eq_true (p := 32 ≤ (s[k].toNat : Int)) (by omega), decide_eq_true (p := (s[k].toNat : Int) ≤ 126) (by omega)]
            rfl
          go_wp2_with fail
          go_roundg (s.size - (k + 1))
          case measure => have := HG.out; omega
          case rel => exact ⟨k + 1, hlt, rfl, by go_num, rfl, fun j hj => by
            by_cases e : j = k
            · subst e; exact HK.out
            · exact HN.out j (by omega)⟩
    · obtain rfl : k = s.size := by omega
      have HF : Hid ((decide (1 ≤ (s.size : Int)) && decide ((s.size : Int) ≤ 2000)) = t) := by
        show (decide (1 ≤ (s.size : Int)) && decide ((s.size : Int) ≤ 2000)) = t
        rw [← HT.out]
        by_cases h1 : s.size < 1
        · rw [signB_len (.inl (by rw [HSD.out]; exact h1)), decide_eq_false (by omega)]
          rfl
        · by_cases h2 : 2000 < s.size
          · rw [signB_len (.inr (by rw [HSD.out]; exact h2)), decide_eq_false (p := (s.size : Int) ≤ 2000) (by omega), Bool.and_false]
          · rw [signB_all (by rw [HSD.out]; omega) (by rw [HSD.out]; omega) (fun j hj => HN.out j (by rw [HSD.out] at hj; exact hj)), decide_eq_true (p := 1 ≤ (s.size : Int)) (by omega), decide_eq_true (p := (s.size : Int) ≤ 2000) (by omega)]
            rfl
      clear hlt
      by_cases h1 : s.size < 1
      · obtain rfl : t = false := by rw [← HF.out, decide_eq_false (by omega)]; rfl
        go_wp2_with fail
        go_ret
        exact ⟨rfl, rfl⟩
      · go_wp2_with fail
        go_ret
        refine ⟨ret_bool ?_, rfl⟩
        have := HF.out
        rwa [decide_eq_true (p := 1 ≤ (s.size : Int)) (by omega), Bool.true_and] at this

set_option maxRecDepth 100000 in
set_option maxHeartbeats 2000000 in
theorem sign_any (s : ByteArray) (w : World) (hs : s.size ≤ 9223372036854775807) :
    Calls Try.prog 53 #[.string s] w fun e w' => e = .returned (.bool (signB s.data.toList)) ∧ w = w' := by
  obtain ⟨t, ht⟩ : ∃ t, signB s.data.toList = t := ⟨_, rfl⟩
  rw [ht]
  have HT := Lib.hid ht
  have hsd := size_data s
  have HSD := Lib.hid hsd
  clear ht hsd
  by_cases h1 : s.size < 1
  · obtain rfl : t = false := by rw [← HT.out]; exact signB_len (.inl (by rw [HSD.out]; exact h1))
    go_enter Try.func53, Try.ntmps53
    go_wp2_with fail
    go_ret
    exact ⟨rfl, rfl⟩
  by_cases h2 : 2000 < s.size
  · obtain rfl : t = false := by rw [← HT.out]; exact signB_len (.inr (by rw [HSD.out]; exact h2))
    go_enter Try.func53, Try.ntmps53
    go_wp2_with fail
    go_ret
    exact ⟨rfl, rfl⟩
  have d1 : decide ((s.size : Int) < 1) = false := decide_eq_false (by omega)
  have d2 : decide (2000 < (s.size : Int)) = false := decide_eq_false (by omega)
  go_enter Try.func53, Try.ntmps53
  go_wp2_with fail
  go_loopg [3] s.size (fun gk i wr => ∃ k : Nat, k ≤ s.size ∧ gk = s.size - k ∧ i = .int .i64 k ∧ w = wr ∧ ∀ j, j < k → signAt s.data.toList j = true)
  case atStart => exact ⟨0, by omega, rfl, rfl, rfl, fun _ h => absurd h (by omega)⟩
  case round =>
    obtain ⟨k, hk, hgk, rfl, rfl, hall⟩ := hrel
    have HG := Lib.hid hgk
    have HN := Lib.hid hall
    clear hgk hall
    by_cases hlt : k < s.size
    · have hb : (s[k].toNat : Int) < 256 := by have := s[k].toNat_lt; omega
      have HA : Hid (signAt s.data.toList k = (decide (32 ≤ (s[k].toNat : Int)) && decide ((s[k].toNat : Int) ≤ 126))) := by
        show signAt _ _ = _
        unfold signAt
        rw [getD_data s k hlt]
      by_cases c1 : (s[k].toNat : Int) < 32
      · obtain rfl : t = false := by
          rw [← HT.out]
          refine signB_at (j := k) (by rw [HSD.out]; exact hlt) ?_
          rw [HA.out, decide_eq_false (by omega)]
          rfl
        go_wp2_with fail
        go_ret
        exact ⟨rfl, rfl⟩
      · by_cases c2 : 126 < (s[k].toNat : Int)
        · obtain rfl : t = false := by
            rw [← HT.out]
            refine signB_at (j := k) (by rw [HSD.out]; exact hlt) ?_
            rw [HA.out, decide_eq_false (p := (s[k].toNat : Int) ≤ 126) (by omega), Bool.and_false]
          go_wp2_with fail
          go_ret
          exact ⟨rfl, rfl⟩
        · have HK : Hid (signAt s.data.toList k = true) := by
            show signAt _ _ = true
            rw [HA.out, decide_eq_true (p := 32 ≤ (s[k].toNat : Int)) (by omega), decide_eq_true (p := (s[k].toNat : Int) ≤ 126) (by omega)]
            rfl
          go_wp2_with fail
          go_roundg (s.size - (k + 1))
          case measure => have := HG.out; omega
          case rel => exact ⟨k + 1, hlt, rfl, by go_num, rfl, fun j hj => by
            by_cases e : j = k
            · subst e; exact HK.out
            · exact HN.out j (by omega)⟩
    · obtain rfl : t = true := by rw [← HT.out]; exact signB_all (by rw [HSD.out]; omega) (by rw [HSD.out]; omega) (fun j hj => HN.out j (by rw [HSD.out] at hj; omega))
      go_wp2_with fail
      go_ret
      exact ⟨rfl, rfl⟩

theorem rletter_any (n : Int) (w : World) : Calls Try.prog 78 #[.int .u8 n] w fun e w' => e = .returned (.bool (letterI n)) ∧ w = w' := by
  go_enter Try.func78, Try.ntmps78
  go_wp2_with fail
  all_goals go_ret
  all_goals refine ⟨ret_bool ?_, rfl⟩
  all_goals (unfold letterI; first | (simp [*]; done) | (rw [Bool.eq_iff_iff]; simp; omega))
theorem rdigit_any (n : Int) (w : World) : Calls Try.prog 79 #[.int .u8 n] w fun e w' => e = .returned (.bool (digitI n)) ∧ w = w' := by
  go_enter Try.func79, Try.ntmps79
  go_wp2_with fail
  all_goals go_ret
  all_goals refine ⟨ret_bool ?_, rfl⟩
  all_goals (unfold digitI; first | (simp [*]; done) | (rw [Bool.eq_iff_iff]; simp; omega))

/-- texts behind a pointer -/
def TextsAt (w : World) (b : Nat) (l : List ByteArray) : Prop := ∀ j (h : j < l.length), w.cell? ⟨b, j, none⟩ = some (.string l[j])
set_option maxRecDepth 100000 in
set_option maxHeartbeats 2000000 in
theorem among_any (s : ByteArray) (b n cap : Nat) (l : List ByteArray) (w : World) (hl : l.length = n) (hn : n ≤ 9223372036854775807) (h : TextsAt w b l) :
    Calls Try.prog 80 #[.slice (some ⟨b, 0, none⟩) n cap, .string s] w fun e w' => e = .returned (.bool ((l.map (·.data.toList)).contains s.data.toList)) ∧ w = w' := by
  obtain ⟨t, ht⟩ : ∃ t, (l.map (·.data.toList)).contains s.data.toList = t := ⟨_, rfl⟩
  rw [ht]
  have HT := Lib.hid ht
  have HL := Lib.hid hl
  have HC := Lib.hid h
  clear ht hl h
  go_enter Try.func80, Try.ntmps80
  go_wp2_with fail
  go_loopg [5] n (fun gk i wr => ∃ k : Nat, k ≤ n ∧ gk = n - k ∧ i = .int .i64 k ∧ w = wr ∧ ∀ j (h : j < l.length), j < k → l[j].data.toList ≠ s.data.toList)
  case atStart => exact ⟨0, by omega, rfl, rfl, rfl, fun _ _ h => absurd h (by omega)⟩
  case round =>
    obtain ⟨k, hk, hgk, rfl, rfl, hall⟩ := hrel
    have HG := Lib.hid hgk
    have HN := Lib.hid hall
    clear hgk hall
    by_cases hlt : k < n
    · have hkl : k < l.length := by rw [HL.out]; exact hlt
      obtain ⟨x, hx⟩ : ∃ x, x = l[k] := ⟨_, rfl⟩
      have hcell : w.cell? ⟨b, 0 + k, none⟩ = some (.string x) := by rw [Nat.zero_add, hx]; exact HC.out k hkl
      have hcell2 : w.cell? ⟨b, k, none⟩ = some (.string x) := by rw [hx]; exact HC.out k hkl
      have HX := Lib.hid hx
      clear hx
      by_cases he : x.data.toList = s.data.toList
      · obtain rfl : t = true := by
          rw [← HT.out, List.contains_iff_mem, ← he, HX.out]
          exact List.mem_map.2 ⟨_, List.getElem_mem hkl, rfl⟩
        have hq : (x.toList == s.toList) = true := by rw [ByteArray.toList_eq, ByteArray.toList_eq, he]; simp
        clear he
        go_wp2_with fail
        go_ret
        exact ⟨rfl, rfl⟩
      · have hq : (x.toList == s.toList) = false := by rw [ByteArray.toList_eq, ByteArray.toList_eq]; exact beq_eq_false_iff_ne.2 he
        have HE := Lib.hid he
        clear he
        go_wp2_with fail
        go_roundg (n - (k + 1))
        case measure => have := HG.out; omega
        case rel => exact ⟨k + 1, hlt, rfl, by go_num, rfl, fun j h hj => by
          by_cases e : j = k
          · subst e; rw [← HX.out]; exact HE.out
          · exact HN.out j h (by omega)⟩
    · obtain rfl : t = false := by
        rw [← HT.out, Bool.eq_false_iff]
        intro hm
        rw [List.contains_iff_mem] at hm
        obtain ⟨x, hx, e⟩ := List.mem_map.1 hm
        obtain ⟨j, hj, rfl⟩ := List.getElem_of_mem hx
        exact HN.out j hj (by rw [HL.out] at hj; omega) e
      go_wp2_with fail
      go_ret
      exact ⟨rfl, rfl⟩

end Go.Proofs.Ythnehhidlaggeaa
