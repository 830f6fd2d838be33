/- Plain facts: the bits of an instruction. No program in sight. -/
import Derived.Test.YthnehhidlaggeaaDecPlain
import Derived.Laws.BitsLemmas
namespace Go.Proofs.Ythnehhidlaggeaa.Cp
set_option linter.unusedVariables false
set_option linter.unusedSimpArgs false

theorem ok_bounds (op a b c i : Int) (h : mayE op a b c i = 0) :
    1 ≤ op ∧ op ≤ 25 ∧ 0 ≤ a ∧ a ≤ 15 ∧ 0 ≤ b ∧ b ≤ 15 ∧ 0 ≤ c ∧ c ≤ 15 ∧ -32768 ≤ i ∧ i ≤ 65535 ∧ (c = 0 ∨ i = 0) := by
  rcases op_cases op with e | e | e | e | e | e | e | e | e | e | e | e | e | e | e | e | e | e | e | e | e | e | e | e | e | e
  case inr.inr.inr.inr.inr.inr.inr.inr.inr.inr.inr.inr.inr.inr.inr.inr.inr.inr.inr.inr.inr.inr.inr.inr.inr =>
    unfold mayE at h
    rw [find_none op e] at h
    simp at h
  all_goals
    subst e
    simp [mayE, find, okAll, okV, loOf, hiOf] at h
    omega

/-- an instruction's bits, of one that may be -/
def encN (op a b c i : Int) : Int := op * 16777216 + a * 1048576 + b * 65536 + (c + i) % 65536
theorem or64_left (i : Int) (h1 : -32768 ≤ i) (h2 : i ≤ 65535) : bits .or .i64 0 i = i := by
  show IntKind.i64.wrap ((BitVec.ofInt 64 0 ||| BitVec.ofInt 64 i).toNat : Int) = i
  rw [show BitVec.ofInt 64 0 = 0#64 from rfl, BitVec.zero_or, BitVec.toNat_ofInt, IntKind.wrap_i64]
  omega
theorem or64_right (c : Int) (h1 : -32768 ≤ c) (h2 : c ≤ 65535) : bits .or .i64 c 0 = c := by
  show IntKind.i64.wrap ((BitVec.ofInt 64 c ||| BitVec.ofInt 64 0).toNat : Int) = c
  rw [show BitVec.ofInt 64 0 = 0#64 from rfl, BitVec.or_zero, BitVec.toNat_ofInt, IntKind.wrap_i64]
  omega
theorem or64 (c i : Int) (c0 : 0 ≤ c) (c1 : c ≤ 15) (h1 : -32768 ≤ i) (h2 : i ≤ 65535) (h : c = 0 ∨ i = 0) : bits .or .i64 c i = c + i := by
  rcases h with h | h
  · subst h; rw [or64_left i h1 h2]; omega
  · subst h; rw [or64_right c (by omega) (by omega)]; omega
theorem or32_add (n k : Nat) (x y : Int) (x0 : 0 ≤ x) (x1 : x < 4294967296) (y0 : 0 ≤ y) (hx : x = 2 ^ k * n) (hy : y < 2 ^ k) (hk : (2 : Int) ^ k ≤ 4294967296) : bits .or .u32 x y = x + y := by
  have e : ∀ a b : Int, 0 ≤ a → a < 4294967296 → 0 ≤ b → b < 4294967296 → bits .or .u32 a b = ((a.toNat ||| b.toNat : Nat) : Int) := fun a b h1 h2 h3 h4 => u32_or a b h1 h2 h3 h4
  rw [e x y x0 x1 y0 (by omega)]
  have hxn : x.toNat = 2 ^ k * n := by
    subst hx
    have : ((2 : Int) ^ k * (n : Int)) = ((2 ^ k * n : Nat) : Int) := by simp
    rw [this, Int.toNat_natCast]
  have hyn : y.toNat < 2 ^ k := by
    have : ((2 : Int) ^ k) = ((2 ^ k : Nat) : Int) := by simp
    rw [this] at hy
    omega
  rw [hxn, ← Nat.two_pow_add_eq_or_of_lt hyn, ← hxn]
  omega
theorem enc_eq (op a b c i : Int) (h1 : 1 ≤ op) (h2 : op ≤ 25) (a1 : 0 ≤ a) (a2 : a ≤ 15) (b1 : 0 ≤ b) (b2 : b ≤ 15) (c1 : 0 ≤ c) (c2 : c ≤ 15) (i1 : -32768 ≤ i) (i2 : i ≤ 65535) (h : c = 0 ∨ i = 0) :
    bits .or .u32 (bits .or .u32 (bits .or .u32 (op * 16777216) (a * 1048576)) (b * 65536)) (IntKind.u16.wrap (bits .or .i64 c i) % 4294967296) = encN op a b c i := by
  rw [or64 c i c1 c2 i1 i2 h]
  rw [or32_add op.toNat 24 (op * 16777216) (a * 1048576) (by omega) (by omega) (by omega) (by omega) (by omega) (by omega)]
  rw [or32_add (op * 16 + a).toNat 20 (op * 16777216 + a * 1048576) (b * 65536) (by omega) (by omega) (by omega) (by omega) (by omega) (by omega)]
  have hw : IntKind.u16.wrap (c + i) % 4294967296 = (c + i) % 65536 := by rw [IntKind.wrap_u16]; omega
  rw [hw]
  rw [or32_add ((op * 16 + a) * 16 + b).toNat 16 (op * 16777216 + a * 1048576 + b * 65536) ((c + i) % 65536) (by omega) (by omega) (by omega) (by omega) (by omega) (by omega)]
  rfl

/-- the upper half set beside the lower one -/
theorem or_movh (l i : Int) (i0 : 0 ≤ i) (i1 : i ≤ 65535) (l0 : 0 ≤ l) (l1 : l < 65536) : bits .or .u32 l (i * 65536) = i * 65536 + l := by
  have e : bits .or .u32 l (i * 65536) = bits .or .u32 (i * 65536) l := by
    rw [u32_or l (i * 65536) l0 (by omega) (by omega) (by omega), u32_or (i * 65536) l (by omega) (by omega) l0 (by omega), Nat.or_comm]
  rw [e, or32_add i.toNat 16 (i * 65536) l (by omega) (by omega) (by omega) (by omega) (by omega) (by omega)]

/-- bits are read as the instruction whose bits they are -/
theorem dec_enc (n : Int) (h0 : 0 ≤ n) (h1 : n ≤ 4294967295) (op a b c i : Int) (h : dec n = some (op, a, b, c, i)) : mayE op a b c i = 0 ∧ encN op a b c i = n := by
  unfold dec at h
  rcases hf : find (n / 16777216) with _ | ⟨nm, f, s⟩
  · rw [hf] at h; simp at h
  · rw [hf] at h
    simp only at h
    split at h
    case isFalse => simp at h
    case isTrue hm =>
      simp only [Option.some.injEq, Prod.mk.injEq] at h
      obtain ⟨rfl, rfl, rfl, rfl, rfl⟩ := h
      refine ⟨hm, ?_⟩
      unfold encN decC decI
      cases f.contains 73 with
      | false => simp; omega
      | true => cases s <;> simp <;> (try split) <;> omega

end Go.Proofs.Ythnehhidlaggeaa.Cp
