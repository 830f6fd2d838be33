/- Plain facts: what is wrong with an instruction. No program in sight. -/
import Derived.Test.YthnehhidlaggeaaCodePlain
namespace Go.Proofs.Ythnehhidlaggeaa.Cp
set_option linter.unusedVariables false
set_option linter.unusedSimpArgs false

/-- may a field be so, by the form's least and most? -/
def okV (F : List UInt8) (lo hi x n : Int) : Bool :=
  if F.contains x.toNat.toUInt8 then
    if x = 73 then decide (lo ≤ n ∧ n ≤ hi) else decide (0 ≤ n ∧ n ≤ 15)
  else decide (n = 0)

/-- the four names, the place of each, and what stands there -/
def nameAt (k : Nat) : Int := if k = 0 then 65 else if k = 1 then 66 else if k = 2 then 67 else 73
def fieldAt (a b c i : Int) (k : Nat) : Int := if k = 0 then a else if k = 1 then b else if k = 2 then c else i
/-- all of the first k fields may be so -/
def okTo (F : List UInt8) (lo hi a b c i : Int) (k : Nat) : Prop := ∀ j, j < k → okV F lo hi (nameAt j) (fieldAt a b c i j) = true
def okAll (F : List UInt8) (lo hi a b c i : Int) : Bool := okV F lo hi 65 a && okV F lo hi 66 b && okV F lo hi 67 c && okV F lo hi 73 i

def loOf (s : Bool) : Int := if s then -32768 else 0
def hiOf (s : Bool) : Int := if s then 32767 else 65535
/-- what is wrong with an instruction: 0, 2 (no such op), 6 (a field) -/
def mayE (op a b c i : Int) : Int :=
  match find op with
  | none => 2
  | some (_, f, s) => if okAll f (loOf s) (hiOf s) a b c i then 0 else 6

theorem okTo_zero (F : List UInt8) (lo hi a b c i : Int) : okTo F lo hi a b c i 0 := fun _ h => absurd h (by omega)
theorem okTo_succ {F : List UInt8} {lo hi a b c i : Int} {k : Nat} (h : okTo F lo hi a b c i k) (h' : okV F lo hi (nameAt k) (fieldAt a b c i k) = true) : okTo F lo hi a b c i (k + 1) := fun j hj => by
  by_cases e : j = k
  · subst e; exact h'
  · exact h j (by omega)
theorem okTo_four {F : List UInt8} {lo hi a b c i : Int} (h : okTo F lo hi a b c i 4) : okAll F lo hi a b c i = true := by
  have h0 := h 0 (by omega)
  have h1 := h 1 (by omega)
  have h2 := h 2 (by omega)
  have h3 := h 3 (by omega)
  simp [nameAt, fieldAt] at h0 h1 h2 h3
  simp [okAll, h0, h1, h2, h3]
theorem okAll_false {F : List UInt8} {lo hi a b c i : Int} {k : Nat} (hk : k < 4) (h : okV F lo hi (nameAt k) (fieldAt a b c i k) = false) : okAll F lo hi a b c i = false := by
  have : k = 0 ∨ k = 1 ∨ k = 2 ∨ k = 3 := by omega
  rcases this with rfl | rfl | rfl | rfl <;> simp [nameAt, fieldAt] at h <;> simp [okAll, h]

end Go.Proofs.Ythnehhidlaggeaa.Cp
