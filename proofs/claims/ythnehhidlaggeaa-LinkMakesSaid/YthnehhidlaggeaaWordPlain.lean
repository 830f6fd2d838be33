/- Plain facts on words: what an operation gives. No program in sight. -/
import Derived.RowKit
import Derived.IntWalk
import Derived.Laws.BitsAllLaws
namespace Go.Proofs.Ythnehhidlaggeaa.Wd
set_option linter.unusedVariables false
set_option linter.unusedSimpArgs false
open Go.RowKit

/-- a word without its sign -/
def free (x : Int) : Int := if x < 0 then x + 4294967296 else x
theorem free_bd (x : Int) (h1 : -2147483648 ≤ x) (h2 : x ≤ 2147483647) : 0 ≤ free x ∧ free x ≤ 4294967295 := by unfold free; split <;> omega
theorem wrap_u32 (x : Int) (h1 : -2147483648 ≤ x) (h2 : x ≤ 2147483647) : IntKind.u32.wrap x = free x := by
  unfold free
  rw [IntKind.wrap_u32]
  split <;> omega
theorem free_mul (a b : Int) (a1 : -2147483648 ≤ a) (a2 : a ≤ 2147483647) (b1 : -2147483648 ≤ b) (b2 : b ≤ 2147483647) : 0 ≤ free a * free b ∧ free a * free b ≤ 18446744065119617025 := by
  have ha := free_bd a a1 a2
  have hb := free_bd b b1 b2
  refine ⟨Int.mul_nonneg ha.1 hb.1, ?_⟩
  have h1 : free a * free b ≤ 4294967295 * free b := Int.mul_le_mul_of_nonneg_right ha.2 hb.1
  omega

/-- 1 of what is so, else 0 -/
def one (t : Bool) : Int := if t then 1 else 0

/-- an operation on two words; none: there is no such operation, or a division by nought -/
def op (o a b : Int) : Option Int :=
  if o = 1 then some (wrap32 (a + b))
  else if o = 2 then some (wrap32 (a - b))
  else if o = 3 then some (wrap32 (a * b))
  else if o = 4 then some (wrap32 (free a * free b / 4294967296))
  else if o = 5 then (if b = 0 then none else some (wrap32 (a.tdiv b)))
  else if o = 6 then (if b = 0 then none else some (a.tmod b))
  else if o = 7 then some (bits .and .i32 a b)
  else if o = 8 then some (bits .or .i32 a b)
  else if o = 9 then some (bits .xor .i32 a b)
  else if o = 10 then some (one (decide (a < b)))
  else if o = 11 then some (one (decide (free a < free b)))
  else if o = 12 then some (one (a == b))
  else none
/-- what the call tells -/
def opV (o a b : Int) : Value := .tuple #[.int .i32 ((op o a b).getD 0), .bool (op o a b).isSome]

theorem op_cases (o : Int) : o = 1 ∨ o = 2 ∨ o = 3 ∨ o = 4 ∨ o = 5 ∨ o = 6 ∨ o = 7 ∨ o = 8 ∨ o = 9 ∨ o = 10 ∨ o = 11 ∨ o = 12 ∨ (o ≤ 0 ∨ 13 ≤ o) := by omega
theorem op_far (o a b : Int) (h : o ≤ 0 ∨ 13 ≤ o) : op o a b = none := by
  unfold op
  repeat (rw [if_neg (by omega)])

theorem wrap32_bd (n : Int) : -2147483648 ≤ wrap32 n ∧ wrap32 n ≤ 2147483647 := by
  have e : wrap32 n = (n + 2147483648) % 4294967296 - 2147483648 := by unfold wrap32; omega
  omega

end Go.Proofs.Ythnehhidlaggeaa.Wd
