/- Plain facts: the instruction of 32 bits. No program in sight. -/
import Derived.Test.YthnehhidlaggeaaMayPlain
import Derived.Laws.BitsAllLaws
namespace Go.Proofs.Ythnehhidlaggeaa.Cp
set_option linter.unusedVariables false
set_option linter.unusedSimpArgs false

theorem mask15 (m : Int) (h0 : 0 ≤ m) (h1 : m ≤ 4294967295) : bits .and .u32 m 15 = m % 16 := by
  rw [u32_and m 15 h0 (by omega) (by omega) (by omega)]
  rw [show (15 : Int).toNat = 15 from rfl, nat_mask4]
  omega
theorem mask16 (m : Int) (h0 : 0 ≤ m) (h1 : m ≤ 4294967295) : bits .and .u32 m 65535 = m % 65536 := by
  rw [u32_and m 65535 h0 (by omega) (by omega) (by omega)]
  rw [show (65535 : Int).toNat = 65535 from rfl, Nat.and_two_pow_sub_one_eq_mod m.toNat 16]
  omega
theorem wrap16_low (m : Int) (h0 : 0 ≤ m) (h1 : m < 32768) : IntKind.i16.wrap m = m := by
  simp [IntKind.wrap, IntKind.bits, IntKind.signed]; omega
theorem wrap16_high (m : Int) (h0 : 32768 ≤ m) (h1 : m < 65536) : IntKind.i16.wrap m = m - 65536 := by
  simp [IntKind.wrap, IntKind.bits, IntKind.signed]; omega

def decC (f : List UInt8) (n : Int) : Int := if f.contains 73 then 0 else n % 65536
def decI (f : List UInt8) (s : Bool) (n : Int) : Int :=
  if f.contains 73 then (if s then (if 32768 ≤ n % 65536 then n % 65536 - 65536 else n % 65536) else n % 65536) else 0

/-- the instruction of 32 bits: op, A, B, C, Imm -/
def dec (n : Int) : Option (Int × Int × Int × Int × Int) :=
  match find (n / 16777216) with
  | none => none
  | some (_, f, s) =>
    if mayE (n / 16777216) (n / 1048576 % 16) (n / 65536 % 16) (decC f n) (decI f s n) = 0 then
      some (n / 16777216, n / 1048576 % 16, n / 65536 % 16, decC f n, decI f s n)
    else none

def instrOf (op a b c i : Int) : Value := .agg #[.int .i64 op, .int .i64 a, .int .i64 b, .int .i64 c, .int .i64 i]
def decV (d : Option (Int × Int × Int × Int × Int)) : Value :=
  match d with
  | none => instrOf 0 0 0 0 0
  | some (op, a, b, c, i) => instrOf op a b c i

end Go.Proofs.Ythnehhidlaggeaa.Cp
