/- scarfjointref2.fits, Check: the walks. -/
import Derived.Test.YthnehhidlaggeaaTab
import Derived.Test.YthnehhidlaggeaaCodePlain
namespace Go.Proofs.Ythnehhidlaggeaa
set_option linter.unusedVariables false
set_option linter.unusedSimpArgs false
open Go.RowKit

theorem has_k (f : ByteArray) (x : Int) (t : Bool) (hs : f.size ≤ 9223372036854775807) (h0 : 0 ≤ x) (h1 : x < 256) (ht : f.data.toList.contains x.toNat.toUInt8 = t) (w : World) :
    Calls Try.prog 37 #[.string f, .int .u8 x] w fun e w' => e = .returned (.bool t) ∧ w = w' := has_any f x t w hs h0 h1 ht

set_option maxHeartbeats 400000 in
theorem fits_no (op x n : Int) (nm f : ByteArray) (s : Bool) (w : World) (hs : f.size ≤ 9223372036854775807) (h0 : 0 ≤ x) (h1 : x < 256) (ht : f.data.toList.contains x.toNat.toUInt8 = false)  :
    Calls Try.prog 71 #[.agg #[.int .i64 op, .string nm, .string f, .bool s], .int .u8 x, .int .i64 n] w fun e w' => e = .returned (.bool (decide (n = 0))) ∧ Below w.heap.size w w' := by
  have HC := Lib.hid (has_k f x false hs h0 h1 ht)
  clear ht
  
  go_enter Try.func71, Try.ntmps71
  go_wp2_with (first
    | (go_at_call 37; refine (HC.out _).mono ?_; rintro e w' ⟨rfl, rfl⟩))
  go_ret
  exact ⟨by congr 2, (Below.refl _ _).alloc (Nat.le_refl _) _⟩

set_option maxHeartbeats 400000 in
theorem fits_reg (op x n : Int) (nm f : ByteArray) (s : Bool) (w : World) (hs : f.size ≤ 9223372036854775807) (h0 : 0 ≤ x) (h1 : x < 256) (ht : f.data.toList.contains x.toNat.toUInt8 = true) (hx : x ≠ 73) :
    Calls Try.prog 71 #[.agg #[.int .i64 op, .string nm, .string f, .bool s], .int .u8 x, .int .i64 n] w fun e w' => e = .returned (.bool (decide (0 ≤ n ∧ n ≤ 15))) ∧ Below w.heap.size w w' := by
  have HC := Lib.hid (has_k f x true hs h0 h1 ht)
  clear ht
  have hx1 : (x != 73) = true := by simp [hx]
  clear hx
  go_enter Try.func71, Try.ntmps71
  by_cases g1 : 0 ≤ n
  · by_cases g2 : n ≤ 15
    · go_wp2_with (first
        | (go_at_call 37; refine (HC.out _).mono ?_; rintro e w' ⟨rfl, rfl⟩))
      go_ret
      exact ⟨by simp [g1, g2], (Below.refl _ _).alloc (Nat.le_refl _) _⟩
    · go_wp2_with (first
        | (go_at_call 37; refine (HC.out _).mono ?_; rintro e w' ⟨rfl, rfl⟩))
      go_ret
      exact ⟨by simp; omega, (Below.refl _ _).alloc (Nat.le_refl _) _⟩
  · go_wp2_with (first
      | (go_at_call 37; refine (HC.out _).mono ?_; rintro e w' ⟨rfl, rfl⟩))
    go_ret
    exact ⟨by simp; omega, (Below.refl _ _).alloc (Nat.le_refl _) _⟩

set_option maxHeartbeats 400000 in
theorem fits_sig (op x n : Int) (nm f : ByteArray) (w : World) (hs : f.size ≤ 9223372036854775807) (h0 : 0 ≤ x) (h1 : x < 256) (ht : f.data.toList.contains x.toNat.toUInt8 = true) (hx : x = 73) :
    Calls Try.prog 71 #[.agg #[.int .i64 op, .string nm, .string f, .bool true], .int .u8 x, .int .i64 n] w fun e w' => e = .returned (.bool (decide (-32768 ≤ n ∧ n ≤ 32767))) ∧ Below w.heap.size w w' := by
  have HC := Lib.hid (has_k f x true hs h0 h1 ht)
  clear ht
  have hx1 : (x != 73) = false := by simp [hx]
  clear hx
  go_enter Try.func71, Try.ntmps71
  by_cases g1 : -32768 ≤ n
  · by_cases g2 : n ≤ 32767
    · go_wp2_with (first
        | (go_at_call 37; refine (HC.out _).mono ?_; rintro e w' ⟨rfl, rfl⟩))
      go_ret
      exact ⟨by simp [g1, g2], (Below.refl _ _).alloc (Nat.le_refl _) _⟩
    · go_wp2_with (first
        | (go_at_call 37; refine (HC.out _).mono ?_; rintro e w' ⟨rfl, rfl⟩))
      go_ret
      exact ⟨by simp; omega, (Below.refl _ _).alloc (Nat.le_refl _) _⟩
  · go_wp2_with (first
      | (go_at_call 37; refine (HC.out _).mono ?_; rintro e w' ⟨rfl, rfl⟩))
    go_ret
    exact ⟨by simp; omega, (Below.refl _ _).alloc (Nat.le_refl _) _⟩

set_option maxHeartbeats 400000 in
theorem fits_fre (op x n : Int) (nm f : ByteArray) (w : World) (hs : f.size ≤ 9223372036854775807) (h0 : 0 ≤ x) (h1 : x < 256) (ht : f.data.toList.contains x.toNat.toUInt8 = true) (hx : x = 73) :
    Calls Try.prog 71 #[.agg #[.int .i64 op, .string nm, .string f, .bool false], .int .u8 x, .int .i64 n] w fun e w' => e = .returned (.bool (decide (0 ≤ n ∧ n ≤ 65535))) ∧ Below w.heap.size w w' := by
  have HC := Lib.hid (has_k f x true hs h0 h1 ht)
  clear ht
  have hx1 : (x != 73) = false := by simp [hx]
  clear hx
  go_enter Try.func71, Try.ntmps71
  by_cases g1 : 0 ≤ n
  · by_cases g2 : n ≤ 65535
    · go_wp2_with (first
        | (go_at_call 37; refine (HC.out _).mono ?_; rintro e w' ⟨rfl, rfl⟩))
      go_ret
      exact ⟨by simp [g1, g2], (Below.refl _ _).alloc (Nat.le_refl _) _⟩
    · go_wp2_with (first
        | (go_at_call 37; refine (HC.out _).mono ?_; rintro e w' ⟨rfl, rfl⟩))
      go_ret
      exact ⟨by simp; omega, (Below.refl _ _).alloc (Nat.le_refl _) _⟩
  · go_wp2_with (first
      | (go_at_call 37; refine (HC.out _).mono ?_; rintro e w' ⟨rfl, rfl⟩))
    go_ret
    exact ⟨by simp; omega, (Below.refl _ _).alloc (Nat.le_refl _) _⟩

theorem fits_any (op x n : Int) (nm f : ByteArray) (s : Bool) (w : World) (hs : f.size ≤ 9223372036854775807) (h0 : 0 ≤ x) (h1 : x < 256) :
    Calls Try.prog 71 #[.agg #[.int .i64 op, .string nm, .string f, .bool s], .int .u8 x, .int .i64 n] w fun e w' =>
      e = .returned (.bool (Cp.okV f.data.toList (Cp.loOf s) (Cp.hiOf s) x n)) ∧ Below w.heap.size w w' := by
  unfold Cp.okV
  cases hc : f.data.toList.contains x.toNat.toUInt8 with
  | false => simpa using fits_no op x n nm f s w hs h0 h1 hc
  | true =>
    by_cases hx : x = 73
    · cases s with
      | true => simpa [hx, Cp.loOf, Cp.hiOf] using fits_sig op x n nm f w hs h0 h1 hc hx
      | false => simpa [hx, Cp.loOf, Cp.hiOf] using fits_fre op x n nm f w hs h0 h1 hc hx
    · simpa [hx] using fits_reg op x n nm f s w hs h0 h1 hc hx

end Go.Proofs.Ythnehhidlaggeaa
