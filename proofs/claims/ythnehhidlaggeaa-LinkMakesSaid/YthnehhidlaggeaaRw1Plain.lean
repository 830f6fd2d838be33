/- Plain facts on the reference's words: halves, products, bits. No program in sight. -/
import Derived.Test.YthnehhidlaggeaaWordPlain
namespace Go.Proofs.Ythnehhidlaggeaa.Wd
set_option linter.unusedVariables false
set_option linter.unusedSimpArgs false
open Go.RowKit

theorem wrap32_eq (n : Int) : wrap32 n = (n + 2147483648) % 4294967296 - 2147483648 := by
  unfold wrap32
  omega
theorem wrap32_mod (n : Int) : wrap32 (n % 4294967296) = wrap32 n := by rw [wrap32_eq, wrap32_eq]; omega
/-- of a number from 0 to below 2^32, as the reference makes the word -/
theorem word_low (n : Int) (h0 : 0 ≤ n) (h1 : n < 2147483648) : wrap32 n = n := by rw [wrap32_eq]; omega
theorem word_high (n : Int) (h0 : 2147483648 ≤ n) (h1 : n < 4294967296) : wrap32 n = n - 4294967296 := by rw [wrap32_eq]; omega

/-- the product of two numbers below 2^32, by halves -/
theorem product (a b : Int) (a0 : 0 ≤ a) (a1 : a < 4294967296) (b0 : 0 ≤ b) (b1 : b < 4294967296) :
    let low := a % 65536 * (b % 65536)
    let middle := a % 65536 * (b / 65536) + low / 65536
    let other := a / 65536 * (b % 65536) + middle % 65536
    (a / 65536 * (b % 65536) + middle) % 65536 * 65536 + low % 65536 = a * b % 4294967296 ∧ a / 65536 * (b / 65536) + middle / 65536 + other / 65536 = a * b / 4294967296 := by
  intro low middle other
  have ea : a = a / 65536 * 65536 + a % 65536 := by omega
  have eb : b = b / 65536 * 65536 + b % 65536 := by omega
  have hab : a * b = a / 65536 * (b / 65536) * 4294967296 + (a % 65536 * (b / 65536) + a / 65536 * (b % 65536)) * 65536 + a % 65536 * (b % 65536) := by
    generalize a / 65536 = x at ea
    generalize a % 65536 = y at ea
    generalize b / 65536 = u at eb
    generalize b % 65536 = v at eb
    subst ea eb
    rw [Int.add_mul, Int.mul_add, Int.mul_add]
    have e1 : x * 65536 * (u * 65536) = x * u * 4294967296 := by
      rw [Int.mul_assoc, Int.mul_comm 65536 (u * 65536), Int.mul_assoc u, ← Int.mul_assoc]; rfl
    have e2 : x * 65536 * v = x * v * 65536 := by rw [Int.mul_assoc, Int.mul_comm 65536, ← Int.mul_assoc]
    have e3 : y * (u * 65536) = y * u * 65536 := by rw [Int.mul_assoc]
    rw [e1, e2, e3]
    omega
  have p0 : 0 ≤ a % 65536 * (b % 65536) := Int.mul_nonneg (by omega) (by omega)
  have q0 : 0 ≤ a % 65536 * (b / 65536) := Int.mul_nonneg (by omega) (by omega)
  have r0 : 0 ≤ a / 65536 * (b % 65536) := Int.mul_nonneg (by omega) (by omega)
  have s0 : 0 ≤ a / 65536 * (b / 65536) := Int.mul_nonneg (by omega) (by omega)
  simp only [low, middle, other]
  rw [hab]
  generalize a % 65536 * (b % 65536) = p at *
  generalize a % 65536 * (b / 65536) = q at *
  generalize a / 65536 * (b % 65536) = r at *
  generalize a / 65536 * (b / 65536) = s at *
  omega

/-- bounds of a product of numbers below 2^16 -/
theorem half_mul (x y : Int) (x0 : 0 ≤ x) (x1 : x ≤ 65535) (y0 : 0 ≤ y) (y1 : y ≤ 65535) : 0 ≤ x * y ∧ x * y ≤ 4294836225 := by
  refine ⟨Int.mul_nonneg x0 y0, ?_⟩
  have h1 : x * y ≤ 65535 * y := Int.mul_le_mul_of_nonneg_right x1 y0
  omega

/-- the first k bits of two numbers, put together by g -/
def bitsTo (g : Bool → Bool → Bool) (x y : Nat) : Nat → Nat
  | 0 => 0
  | k + 1 => bitsTo g x y k + if g (x.testBit k) (y.testBit k) then 2 ^ k else 0
theorem bitsTo_lt (g : Bool → Bool → Bool) (x y : Nat) : ∀ k, bitsTo g x y k < 2 ^ k
  | 0 => by simp [bitsTo]
  | k + 1 => by
    have := bitsTo_lt g x y k
    rw [bitsTo, Nat.pow_succ]
    split <;> omega
theorem bitsTo_eq (g : Bool → Bool → Bool) (x y z : Nat) (h : ∀ k, z.testBit k = g (x.testBit k) (y.testBit k)) : ∀ k, bitsTo g x y k = z % 2 ^ k
  | 0 => by simp [bitsTo, Nat.mod_one]
  | k + 1 => by
    rw [bitsTo, bitsTo_eq g x y z h k, ← h k, Nat.pow_succ, Nat.mod_mul, Nat.testBit_eq_decide_div_mod_eq]
    have h2 : z / 2 ^ k % 2 = 0 ∨ z / 2 ^ k % 2 = 1 := by omega
    rcases h2 with e | e <;> simp [e]
theorem toNat_ofInt (x : Int) (h1 : -2147483648 ≤ x) (h2 : x ≤ 2147483647) : (BitVec.ofInt 32 x).toNat = (free x).toNat := by
  rw [BitVec.toNat_ofInt]
  unfold free
  split <;> omega
theorem free_lt (x : Int) (h1 : -2147483648 ≤ x) (h2 : x ≤ 2147483647) : (free x).toNat < 2 ^ 32 := by have := free_bd x h1 h2; omega
theorem bits_and (a b : Int) (h1 : -2147483648 ≤ a) (h2 : a ≤ 2147483647) (h3 : -2147483648 ≤ b) (h4 : b ≤ 2147483647) :
    wrap32 (bitsTo (fun p q => p && q) (free a).toNat (free b).toNat 32 : Nat) = bits .and .i32 a b := by
  rw [bitsTo_eq _ _ _ ((free a).toNat &&& (free b).toNat) (fun k => by simp [Nat.testBit_and])]
  rw [Nat.mod_eq_of_lt (Nat.lt_of_le_of_lt Nat.and_le_left (free_lt a h1 h2))]
  show _ = IntKind.i32.wrap ((BitVec.ofInt 32 a &&& BitVec.ofInt 32 b).toNat : Int)
  rw [BitVec.toNat_and, toNat_ofInt a h1 h2, toNat_ofInt b h3 h4, wrap32_eq, IntKind.wrap_i32]
  try omega
theorem bits_or (a b : Int) (h1 : -2147483648 ≤ a) (h2 : a ≤ 2147483647) (h3 : -2147483648 ≤ b) (h4 : b ≤ 2147483647) :
    wrap32 (bitsTo (fun p q => p || q) (free a).toNat (free b).toNat 32 : Nat) = bits .or .i32 a b := by
  rw [bitsTo_eq _ _ _ ((free a).toNat ||| (free b).toNat) (fun k => by simp [Nat.testBit_or])]
  rw [Nat.mod_eq_of_lt (Nat.or_lt_two_pow (free_lt a h1 h2) (free_lt b h3 h4))]
  show _ = IntKind.i32.wrap ((BitVec.ofInt 32 a ||| BitVec.ofInt 32 b).toNat : Int)
  rw [BitVec.toNat_or, toNat_ofInt a h1 h2, toNat_ofInt b h3 h4, wrap32_eq, IntKind.wrap_i32]
  try omega
theorem bits_xor (a b : Int) (h1 : -2147483648 ≤ a) (h2 : a ≤ 2147483647) (h3 : -2147483648 ≤ b) (h4 : b ≤ 2147483647) :
    wrap32 (bitsTo (fun p q => p != q) (free a).toNat (free b).toNat 32 : Nat) = bits .xor .i32 a b := by
  rw [bitsTo_eq _ _ _ ((free a).toNat ^^^ (free b).toNat) (fun k => by simp [Nat.testBit_xor])]
  rw [Nat.mod_eq_of_lt (Nat.xor_lt_two_pow (free_lt a h1 h2) (free_lt b h3 h4))]
  show _ = IntKind.i32.wrap ((BitVec.ofInt 32 a ^^^ BitVec.ofInt 32 b).toNat : Int)
  rw [BitVec.toNat_xor, toNat_ofInt a h1 h2, toNat_ofInt b h3 h4, wrap32_eq, IntKind.wrap_i32]
  try omega

theorem tdiv_bd (a b : Int) (h1 : -2147483648 ≤ a) (h2 : a ≤ 2147483647) : -2147483648 ≤ a.tdiv b ∧ a.tdiv b ≤ 2147483648 := by
  have h := Int.natAbs_tdiv_le_natAbs a b
  omega
theorem tmod_bd (a b : Int) (h1 : -2147483648 ≤ a) (h2 : a ≤ 2147483647) : -2147483648 ≤ a.tmod b ∧ a.tmod b ≤ 2147483647 := by
  have e : a.tmod b = a - b * a.tdiv b := Int.tmod_def a b
  rcases Int.le_total 0 a with h | h
  · have h3 := Int.tmod_nonneg b h
    have h4 : (a.tmod b).natAbs ≤ a.natAbs := by
      rw [Int.natAbs_tmod]
      exact Nat.mod_le _ _
    omega
  · have h4 : (a.tmod b).natAbs ≤ a.natAbs := by
      rw [Int.natAbs_tmod]
      exact Nat.mod_le _ _
    have h3 : a.tmod b ≤ 0 := by
      have := Int.tmod_nonneg b (show 0 ≤ -a by omega)
      rw [Int.neg_tmod] at this
      omega
    omega
theorem wrap32_in (n : Int) (h1 : -2147483648 ≤ n) (h2 : n ≤ 2147483647) : wrap32 n = n := by rw [wrap32_eq]; omega
theorem free_mod (a : Int) : free a % 4294967296 = a % 4294967296 := by unfold free; split <;> omega
theorem mul_mod (a b : Int) : wrap32 (free a * free b % 4294967296) = wrap32 (a * b) := by
  rw [Int.mul_emod, free_mod, free_mod, ← Int.mul_emod, wrap32_mod]

end Go.Proofs.Ythnehhidlaggeaa.Wd
