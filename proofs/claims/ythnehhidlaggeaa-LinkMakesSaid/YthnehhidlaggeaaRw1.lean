/- scarfjointref1: Free, Word, Cut, Product, Bit, bits: the walks. -/
import Derived.Test.YthnehhidlaggeaaKit
import Derived.Test.YthnehhidlaggeaaRw1Plain
namespace Go.Proofs.Ythnehhidlaggeaa
set_option linter.unusedVariables false
set_option linter.unusedSimpArgs false
open Go.RowKit

theorem free_any (x : Int) (w : World) (h1 : -2147483648 ≤ x) (h2 : x ≤ 2147483647) :
    Calls Try.prog 46 #[.int .i32 x] w fun e w' => e = .returned (.int .i64 (Wd.free x)) ∧ w = w' := by
  by_cases h : x < 0
  · have e : Wd.free x = x + 4294967296 := by unfold Wd.free; rw [if_pos h]
    rw [e]
    go_enter Try.func46, Try.ntmps46
    go_wp2_with fail
    go_ret
    exact ⟨rfl, rfl⟩
  · have e : Wd.free x = x := by unfold Wd.free; rw [if_neg h]
    rw [e]
    clear e
    go_enter Try.func46, Try.ntmps46
    go_wp2_with fail
    go_ret
    exact ⟨rfl, rfl⟩

theorem word_any (n : Int) (w : World) (h1 : 0 ≤ n) (h2 : n < 4294967296) :
    Calls Try.prog 57 #[.int .i64 n] w fun e w' => e = .returned (.int .i32 (wrap32 n)) ∧ w = w' := by
  by_cases h : 2147483648 ≤ n
  · rw [Wd.word_high n h h2]
    go_enter Try.func57, Try.ntmps57
    go_wp2_with fail
    go_ret
    exact ⟨rfl, rfl⟩
  · rw [Wd.word_low n h1 (by omega)]
    go_enter Try.func57, Try.ntmps57
    go_wp2_with fail
    go_ret
    exact ⟨rfl, rfl⟩

theorem cut_any (n : Int) (w : World) (h1 : -4611686018427387904 ≤ n) (h2 : n ≤ 4611686018427387904) :
    Calls Try.prog 98 #[.int .i64 n] w fun e w' => e = .returned (.int .i64 (n % 4294967296)) ∧ w = w' := by
  by_cases h : 0 ≤ n
  · go_enter Try.func98, Try.ntmps98
    go_wp2_with fail
    go_ret
    exact ⟨rfl, rfl⟩
  · have ht : n.tmod 4294967296 = -((-n) % 4294967296) := by
      have : n = -(-n) := by omega
      rw [this, Int.neg_tmod, Int.tmod_eq_emod_of_nonneg (by omega)]
      omega
    by_cases hz : (-n) % 4294967296 = 0
    · have ht' : n.tmod 4294967296 = 0 := by rw [ht, hz]; rfl
      have e : n % 4294967296 = 0 := by omega
      rw [e]
      clear ht hz e
      go_enter Try.func98, Try.ntmps98
      go_wp2_with fail
      go_ret
      exact ⟨rfl, rfl⟩
    · obtain ⟨m, hm⟩ : ∃ m, m = (-n) % 4294967296 := ⟨_, rfl⟩
      have hb : 0 < m ∧ m < 4294967296 := by omega
      have e : n % 4294967296 = -m + 4294967296 := by omega
      rw [e]
      rw [← hm] at ht
      clear hm e hz
      go_enter Try.func98, Try.ntmps98
      go_wp2_with fail
      go_ret
      exact ⟨rfl, rfl⟩

set_option maxHeartbeats 1000000 in
theorem product_any (a b : Int) (w : World) (a0 : 0 ≤ a) (a1 : a < 4294967296) (b0 : 0 ≤ b) (b1 : b < 4294967296) :
    Calls Try.prog 99 #[.int .i64 a, .int .i64 b] w fun e w' => e = .returned (.tuple #[.int .i64 (a * b % 4294967296), .int .i64 (a * b / 4294967296)]) ∧ w = w' := by
  have hp := Wd.product a b a0 a1 b0 b1
  simp only at hp
  rw [← hp.1, ← hp.2]
  clear hp
  obtain ⟨al, hal⟩ : ∃ x, x = a % 65536 := ⟨_, rfl⟩
  obtain ⟨ah, hah⟩ : ∃ x, x = a / 65536 := ⟨_, rfl⟩
  obtain ⟨bl, hbl⟩ : ∃ x, x = b % 65536 := ⟨_, rfl⟩
  obtain ⟨bh, hbh⟩ : ∃ x, x = b / 65536 := ⟨_, rfl⟩
  have g1 := Wd.half_mul (a % 65536) (b % 65536) (by omega) (by omega) (by omega) (by omega)
  have g2 := Wd.half_mul (a % 65536) (b / 65536) (by omega) (by omega) (by omega) (by omega)
  have g3 := Wd.half_mul (a / 65536) (b % 65536) (by omega) (by omega) (by omega) (by omega)
  have g4 := Wd.half_mul (a / 65536) (b / 65536) (by omega) (by omega) (by omega) (by omega)
  clear hal hah hbl hbh
  go_enter Try.func99, Try.ntmps99
  go_wp2_with fail
  go_ret2
  exact ⟨rfl, rfl⟩

theorem truth_any (t : Bool) (w : World) : Calls Try.prog 104 #[.bool t] w fun e w' => e = .returned (.int .i32 (Wd.one t)) ∧ w = w' := by
  cases t
  · go_enter Try.func104, Try.ntmps104
    go_wp2
    go_ret
    exact ⟨rfl, rfl⟩
  · go_enter Try.func104, Try.ntmps104
    go_wp2
    go_ret
    exact ⟨rfl, rfl⟩

theorem div_step (x i : Nat) : ((x / 2 ^ i : Nat) : Int) / 2 = ((x / 2 ^ (i + 1) : Nat) : Int) := by
  rw [Nat.pow_succ, ← Nat.div_div_eq_div_mul]; omega

set_option maxHeartbeats 400000 in
theorem bit_any (x k : Nat) (t : Bool) (w : World) (hx : x < 4294967296) (hk : k ≤ 64) (ht : x.testBit k = t) :
    Calls Try.prog 112 #[.int .i64 x, .int .i64 k] w fun e w' => e = .returned (.bool t) ∧ w = w' := by
  have HT := Lib.hid ht
  clear ht
  go_enter Try.func112, Try.ntmps112
  go_wp2_with fail
  go_loopg [0, 5] k (fun gk v i wr => ∃ j : Nat, j ≤ k ∧ gk = k - j ∧ i = .int .i64 j ∧ v = .int .i64 (x / 2 ^ j : Nat) ∧ w = wr)
  case atStart => exact ⟨0, by omega, rfl, rfl, by simp, rfl⟩
  case round =>
    obtain ⟨j, hj, hg, rfl, rfl, rfl⟩ := hrel
    have HG := Lib.hid hg
    clear hg
    have hs := Lib.hid (div_step x j)
    have hle : x / 2 ^ j ≤ x := Nat.div_le_self _ _
    by_cases hlt : j < k
    · obtain ⟨y, hy⟩ : ∃ y, y = x / 2 ^ j := ⟨_, rfl⟩
      rw [← hy] at hle hs ⊢
      clear hy
      go_wp2_with fail
      go_roundg (k - (j + 1))
      case measure => have := HG.out; omega
      case rel => exact ⟨j + 1, hlt, rfl, by go_num, by rw [← hs.out], rfl⟩
    · obtain rfl : j = k := by omega
      obtain ⟨y, hy⟩ : ∃ y, y = x / 2 ^ j := ⟨_, rfl⟩
      have hv : ((y : Int) % 2 == 1) = t := by
        rw [← HT.out, Nat.testBit_eq_decide_div_mod_eq, ← hy, Bool.eq_iff_iff]
        simp
        omega
      rw [← hy] at hle ⊢
      clear hy hs HT
      go_wp2_with fail
      go_ret
      exact ⟨rfl, rfl⟩

theorem gand_any (p q : Bool) (w : World) : Calls Try.prog 101 #[.bool p, .bool q] w fun e w' => e = .returned (.bool (p && q)) ∧ w = w' := by
  cases p <;> cases q <;> (go_enter Try.func101, Try.ntmps101; go_wp2; go_ret; exact ⟨rfl, rfl⟩)

set_option maxHeartbeats 1000000 in
theorem bitsand_any (a b : Int) (w : World) (h1 : -2147483648 ≤ a) (h2 : a ≤ 2147483647) (h3 : -2147483648 ≤ b) (h4 : b ≤ 2147483647) :
    Calls Try.prog 100 #[.int .i32 a, .int .i32 b, .func (Fn.func 101) #[] #[]] w fun e w' => e = .returned (.int .i32 (bits .and .i32 a b)) ∧ w = w' := by
  rw [← Wd.bits_and a b h1 h2 h3 h4]
  obtain ⟨x, hx⟩ : ∃ x : Nat, x = (Wd.free a).toNat := ⟨_, rfl⟩
  obtain ⟨y, hy⟩ : ∃ y : Nat, y = (Wd.free b).toNat := ⟨_, rfl⟩
  have bx := Wd.free_bd a h1 h2
  have by' := Wd.free_bd b h3 h4
  have HA : Hid (∀ w, Calls Try.prog 46 #[.int .i32 a] w fun e w' => e = .returned (.int .i64 (x : Int)) ∧ w = w') := by
    intro w; have := free_any a w h1 h2; rwa [show Wd.free a = (x : Int) by omega] at this
  have HB : Hid (∀ w, Calls Try.prog 46 #[.int .i32 b] w fun e w' => e = .returned (.int .i64 (y : Int)) ∧ w = w') := by
    intro w; have := free_any b w h3 h4; rwa [show Wd.free b = (y : Int) by omega] at this
  have hx2 : x < 4294967296 := by omega
  have hy2 : y < 4294967296 := by omega
  rw [← hx, ← hy]
  clear hx hy bx by' h1 h2 h3 h4
  obtain ⟨Z, hZ⟩ : ∃ Z, Z = wrap32 (Wd.bitsTo (fun p q => p && q) x y 32 : Nat) := ⟨_, rfl⟩
  rw [← hZ]
  have HZ := Lib.hid hZ
  clear hZ
  go_enter Try.func100, Try.ntmps100
  go_wp2_with fail
  go_loopg [7, 8, 9] 32 (fun gk v p i wr => ∃ j : Nat, j ≤ 32 ∧ gk = 32 - j ∧ i = .int .i64 j ∧ v = .int .i64 (Wd.bitsTo (fun p q => p && q) x y j : Nat) ∧ p = .int .i64 (2 ^ j : Nat) ∧ w = wr)
  case atStart => exact ⟨0, by omega, rfl, rfl, rfl, rfl, rfl⟩
  case round =>
    obtain ⟨j, hj, hg, rfl, rfl, rfl, rfl⟩ := hrel
    have HG := Lib.hid hg
    clear hg
    by_cases hlt : j < 32
    · obtain ⟨tx, htx⟩ : ∃ t, x.testBit j = t := ⟨_, rfl⟩
      obtain ⟨ty, hty⟩ : ∃ t, y.testBit j = t := ⟨_, rfl⟩
      have HX := Lib.hid (fun w => bit_any x j tx w hx2 (by omega) htx)
      have HY := Lib.hid (fun w => bit_any y j ty w hy2 (by omega) hty)
      have hb := Wd.bitsTo_lt (fun p q => p && q) x y j
      have hpow : 2 ^ j ≤ 2147483648 := Nat.pow_le_pow_right (n := 2) (by omega) (show j ≤ 31 by omega)
      have hn : Wd.bitsTo (fun p q => p && q) x y (j + 1) = Wd.bitsTo (fun p q => p && q) x y j + if (tx && ty) = true then 2 ^ j else 0 := by rw [Wd.bitsTo, htx, hty]
      have HN := Lib.hid hn
      have hq : (2 : Nat) ^ (j + 1) = 2 * 2 ^ j := by rw [Nat.pow_succ]; omega
      have HQ := Lib.hid hq
      clear hn htx hty hq
      generalize Wd.bitsTo (fun p q => p && q) x y j = V at hb HN ⊢
      generalize 2 ^ j = Q at hb HN hpow HQ ⊢
      cases tx <;> cases ty
      all_goals
        go_wp2_with fail
        refine (HA.out _).mono ?_
        rintro e w' ⟨rfl, rfl⟩
        go_wp2_with fail
        refine (HX.out _).mono ?_
        rintro e w' ⟨rfl, rfl⟩
        go_wp2_with fail
        refine (HB.out _).mono ?_
        rintro e w' ⟨rfl, rfl⟩
        go_wp2_with fail
        refine (HY.out _).mono ?_
        rintro e w' ⟨rfl, rfl⟩
        go_wp2_with (go_at_call 101; refine (gand_any _ _ _).mono ?_; rintro e w' ⟨rfl, rfl⟩)
        go_roundg (32 - (j + 1))
        case measure => have := HG.out; omega
        case rel => exact ⟨j + 1, hlt, rfl, by go_num, by rw [HN.out]; simp, by rw [HQ.out]; simp, rfl⟩
    · obtain rfl : j = 32 := by omega
      have hb := Wd.bitsTo_lt (fun p q => p && q) x y 32
      obtain ⟨V, hV⟩ : ∃ V, V = Wd.bitsTo (fun p q => p && q) x y 32 := ⟨_, rfl⟩
      rw [← hV] at hb HZ ⊢
      clear hV
      go_wp2_with (go_at_call 57; refine (word_any _ _ (by omega) (by omega)).mono ?_; rintro e w' ⟨rfl, rfl⟩)
      go_ret
      exact ⟨by rw [HZ.out]; rfl, rfl⟩

theorem gor_any (p q : Bool) (w : World) : Calls Try.prog 102 #[.bool p, .bool q] w fun e w' => e = .returned (.bool (p || q)) ∧ w = w' := by
  cases p <;> cases q <;> (go_enter Try.func102, Try.ntmps102; go_wp2; go_ret; exact ⟨rfl, rfl⟩)

set_option maxHeartbeats 1000000 in
theorem bitsor_any (a b : Int) (w : World) (h1 : -2147483648 ≤ a) (h2 : a ≤ 2147483647) (h3 : -2147483648 ≤ b) (h4 : b ≤ 2147483647) :
    Calls Try.prog 100 #[.int .i32 a, .int .i32 b, .func (Fn.func 102) #[] #[]] w fun e w' => e = .returned (.int .i32 (bits .or .i32 a b)) ∧ w = w' := by
  rw [← Wd.bits_or a b h1 h2 h3 h4]
  obtain ⟨x, hx⟩ : ∃ x : Nat, x = (Wd.free a).toNat := ⟨_, rfl⟩
  obtain ⟨y, hy⟩ : ∃ y : Nat, y = (Wd.free b).toNat := ⟨_, rfl⟩
  have bx := Wd.free_bd a h1 h2
  have by' := Wd.free_bd b h3 h4
  have HA : Hid (∀ w, Calls Try.prog 46 #[.int .i32 a] w fun e w' => e = .returned (.int .i64 (x : Int)) ∧ w = w') := by
    intro w; have := free_any a w h1 h2; rwa [show Wd.free a = (x : Int) by omega] at this
  have HB : Hid (∀ w, Calls Try.prog 46 #[.int .i32 b] w fun e w' => e = .returned (.int .i64 (y : Int)) ∧ w = w') := by
    intro w; have := free_any b w h3 h4; rwa [show Wd.free b = (y : Int) by omega] at this
  have hx2 : x < 4294967296 := by omega
  have hy2 : y < 4294967296 := by omega
  rw [← hx, ← hy]
  clear hx hy bx by' h1 h2 h3 h4
  obtain ⟨Z, hZ⟩ : ∃ Z, Z = wrap32 (Wd.bitsTo (fun p q => p || q) x y 32 : Nat) := ⟨_, rfl⟩
  rw [← hZ]
  have HZ := Lib.hid hZ
  clear hZ
  go_enter Try.func100, Try.ntmps100
  go_wp2_with fail
  go_loopg [7, 8, 9] 32 (fun gk v p i wr => ∃ j : Nat, j ≤ 32 ∧ gk = 32 - j ∧ i = .int .i64 j ∧ v = .int .i64 (Wd.bitsTo (fun p q => p || q) x y j : Nat) ∧ p = .int .i64 (2 ^ j : Nat) ∧ w = wr)
  case atStart => exact ⟨0, by omega, rfl, rfl, rfl, rfl, rfl⟩
  case round =>
    obtain ⟨j, hj, hg, rfl, rfl, rfl, rfl⟩ := hrel
    have HG := Lib.hid hg
    clear hg
    by_cases hlt : j < 32
    · obtain ⟨tx, htx⟩ : ∃ t, x.testBit j = t := ⟨_, rfl⟩
      obtain ⟨ty, hty⟩ : ∃ t, y.testBit j = t := ⟨_, rfl⟩
      have HX := Lib.hid (fun w => bit_any x j tx w hx2 (by omega) htx)
      have HY := Lib.hid (fun w => bit_any y j ty w hy2 (by omega) hty)
      have hb := Wd.bitsTo_lt (fun p q => p || q) x y j
      have hpow : 2 ^ j ≤ 2147483648 := Nat.pow_le_pow_right (n := 2) (by omega) (show j ≤ 31 by omega)
      have hn : Wd.bitsTo (fun p q => p || q) x y (j + 1) = Wd.bitsTo (fun p q => p || q) x y j + if (tx || ty) = true then 2 ^ j else 0 := by rw [Wd.bitsTo, htx, hty]
      have HN := Lib.hid hn
      have hq : (2 : Nat) ^ (j + 1) = 2 * 2 ^ j := by rw [Nat.pow_succ]; omega
      have HQ := Lib.hid hq
      clear hn htx hty hq
      generalize Wd.bitsTo (fun p q => p || q) x y j = V at hb HN ⊢
      generalize 2 ^ j = Q at hb HN hpow HQ ⊢
      cases tx <;> cases ty
      all_goals
        go_wp2_with fail
        refine (HA.out _).mono ?_
        rintro e w' ⟨rfl, rfl⟩
        go_wp2_with fail
        refine (HX.out _).mono ?_
        rintro e w' ⟨rfl, rfl⟩
        go_wp2_with fail
        refine (HB.out _).mono ?_
        rintro e w' ⟨rfl, rfl⟩
        go_wp2_with fail
        refine (HY.out _).mono ?_
        rintro e w' ⟨rfl, rfl⟩
        go_wp2_with (go_at_call 102; refine (gor_any _ _ _).mono ?_; rintro e w' ⟨rfl, rfl⟩)
        go_roundg (32 - (j + 1))
        case measure => have := HG.out; omega
        case rel => exact ⟨j + 1, hlt, rfl, by go_num, by rw [HN.out]; simp, by rw [HQ.out]; simp, rfl⟩
    · obtain rfl : j = 32 := by omega
      have hb := Wd.bitsTo_lt (fun p q => p || q) x y 32
      obtain ⟨V, hV⟩ : ∃ V, V = Wd.bitsTo (fun p q => p || q) x y 32 := ⟨_, rfl⟩
      rw [← hV] at hb HZ ⊢
      clear hV
      go_wp2_with (go_at_call 57; refine (word_any _ _ (by omega) (by omega)).mono ?_; rintro e w' ⟨rfl, rfl⟩)
      go_ret
      exact ⟨by rw [HZ.out]; rfl, rfl⟩

theorem gxor_any (p q : Bool) (w : World) : Calls Try.prog 103 #[.bool p, .bool q] w fun e w' => e = .returned (.bool (p != q)) ∧ w = w' := by
  cases p <;> cases q <;> (go_enter Try.func103, Try.ntmps103; go_wp2; go_ret; exact ⟨rfl, rfl⟩)

set_option maxHeartbeats 1000000 in
theorem bitsxor_any (a b : Int) (w : World) (h1 : -2147483648 ≤ a) (h2 : a ≤ 2147483647) (h3 : -2147483648 ≤ b) (h4 : b ≤ 2147483647) :
    Calls Try.prog 100 #[.int .i32 a, .int .i32 b, .func (Fn.func 103) #[] #[]] w fun e w' => e = .returned (.int .i32 (bits .xor .i32 a b)) ∧ w = w' := by
  rw [← Wd.bits_xor a b h1 h2 h3 h4]
  obtain ⟨x, hx⟩ : ∃ x : Nat, x = (Wd.free a).toNat := ⟨_, rfl⟩
  obtain ⟨y, hy⟩ : ∃ y : Nat, y = (Wd.free b).toNat := ⟨_, rfl⟩
  have bx := Wd.free_bd a h1 h2
  have by' := Wd.free_bd b h3 h4
  have HA : Hid (∀ w, Calls Try.prog 46 #[.int .i32 a] w fun e w' => e = .returned (.int .i64 (x : Int)) ∧ w = w') := by
    intro w; have := free_any a w h1 h2; rwa [show Wd.free a = (x : Int) by omega] at this
  have HB : Hid (∀ w, Calls Try.prog 46 #[.int .i32 b] w fun e w' => e = .returned (.int .i64 (y : Int)) ∧ w = w') := by
    intro w; have := free_any b w h3 h4; rwa [show Wd.free b = (y : Int) by omega] at this
  have hx2 : x < 4294967296 := by omega
  have hy2 : y < 4294967296 := by omega
  rw [← hx, ← hy]
  clear hx hy bx by' h1 h2 h3 h4
  obtain ⟨Z, hZ⟩ : ∃ Z, Z = wrap32 (Wd.bitsTo (fun p q => p != q) x y 32 : Nat) := ⟨_, rfl⟩
  rw [← hZ]
  have HZ := Lib.hid hZ
  clear hZ
  go_enter Try.func100, Try.ntmps100
  go_wp2_with fail
  go_loopg [7, 8, 9] 32 (fun gk v p i wr => ∃ j : Nat, j ≤ 32 ∧ gk = 32 - j ∧ i = .int .i64 j ∧ v = .int .i64 (Wd.bitsTo (fun p q => p != q) x y j : Nat) ∧ p = .int .i64 (2 ^ j : Nat) ∧ w = wr)
  case atStart => exact ⟨0, by omega, rfl, rfl, rfl, rfl, rfl⟩
  case round =>
    obtain ⟨j, hj, hg, rfl, rfl, rfl, rfl⟩ := hrel
    have HG := Lib.hid hg
    clear hg
    by_cases hlt : j < 32
    · obtain ⟨tx, htx⟩ : ∃ t, x.testBit j = t := ⟨_, rfl⟩
      obtain ⟨ty, hty⟩ : ∃ t, y.testBit j = t := ⟨_, rfl⟩
      have HX := Lib.hid (fun w => bit_any x j tx w hx2 (by omega) htx)
      have HY := Lib.hid (fun w => bit_any y j ty w hy2 (by omega) hty)
      have hb := Wd.bitsTo_lt (fun p q => p != q) x y j
      have hpow : 2 ^ j ≤ 2147483648 := Nat.pow_le_pow_right (n := 2) (by omega) (show j ≤ 31 by omega)
      have hn : Wd.bitsTo (fun p q => p != q) x y (j + 1) = Wd.bitsTo (fun p q => p != q) x y j + if (tx != ty) = true then 2 ^ j else 0 := by rw [Wd.bitsTo, htx, hty]
      have HN := Lib.hid hn
      have hq : (2 : Nat) ^ (j + 1) = 2 * 2 ^ j := by rw [Nat.pow_succ]; omega
      have HQ := Lib.hid hq
      clear hn htx hty hq
      generalize Wd.bitsTo (fun p q => p != q) x y j = V at hb HN ⊢
      generalize 2 ^ j = Q at hb HN hpow HQ ⊢
      cases tx <;> cases ty
      all_goals
        go_wp2_with fail
        refine (HA.out _).mono ?_
        rintro e w' ⟨rfl, rfl⟩
        go_wp2_with fail
        refine (HX.out _).mono ?_
        rintro e w' ⟨rfl, rfl⟩
        go_wp2_with fail
        refine (HB.out _).mono ?_
        rintro e w' ⟨rfl, rfl⟩
        go_wp2_with fail
        refine (HY.out _).mono ?_
        rintro e w' ⟨rfl, rfl⟩
        go_wp2_with (go_at_call 103; refine (gxor_any _ _ _).mono ?_; rintro e w' ⟨rfl, rfl⟩)
        go_roundg (32 - (j + 1))
        case measure => have := HG.out; omega
        case rel => exact ⟨j + 1, hlt, rfl, by go_num, by rw [HN.out]; simp, by rw [HQ.out]; simp, rfl⟩
    · obtain rfl : j = 32 := by omega
      have hb := Wd.bitsTo_lt (fun p q => p != q) x y 32
      obtain ⟨V, hV⟩ : ∃ V, V = Wd.bitsTo (fun p q => p != q) x y 32 := ⟨_, rfl⟩
      rw [← hV] at hb HZ ⊢
      clear hV
      go_wp2_with (go_at_call 57; refine (word_any _ _ (by omega) (by omega)).mono ?_; rintro e w' ⟨rfl, rfl⟩)
      go_ret
      exact ⟨by rw [HZ.out]; rfl, rfl⟩

end Go.Proofs.Ythnehhidlaggeaa
