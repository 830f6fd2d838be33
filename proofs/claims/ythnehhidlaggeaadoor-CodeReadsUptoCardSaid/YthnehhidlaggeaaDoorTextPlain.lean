/- Plain facts: an instruction's text: no program in sight. -/
import Derived.Test.YthnehhidlaggeaaDoorCodePlain
import Derived.Lib.ItoaNum
import Derived.Lib.Join
namespace Go.Proofs.YthnehhidlaggeaaDoor.Cp
set_option linter.unusedVariables false
set_option linter.unusedSimpArgs false

/-- which of an instruction's numbers a field is -/
def fieldOf (a b c i : Int) (x : UInt8) : Int := if x = 65 then a else if x = 66 then b else if x = 67 then c else i
/-- a field's text -/
def fieldT (a b c i : Int) (x : UInt8) : List UInt8 := if x = 73 then Lib.itoa i else 114 :: Lib.itoa (fieldOf a b c i x)
/-- a name and fields, blanks between -/
def lineT (nm F : List UInt8) (a b c i : Int) : List UInt8 := nm ++ F.flatMap (fun x => 32 :: fieldT a b c i x)
/-- an instruction's text; of one that may not be: none -/
def textT (op a b c i : Int) : List UInt8 := if mayE op a b c i = 0 then lineT (rowOf op).1 (rowOf op).2.1 a b c i else []

theorem join_line (nm F : List UInt8) (a b c i : Int) : Lib.join (nm :: F.map (fieldT a b c i)) [32] = lineT nm F a b c i := by
  rw [Lib.join_cons]
  unfold Lib.joinTail lineT
  rw [List.map_map, List.flatMap_def]
  rfl
/-- the fields' letters -/
def letter (x : UInt8) : Prop := x = 65 ∨ x = 66 ∨ x = 67 ∨ x = 73
theorem row_letters (op : Int) : (∀ x ∈ (rowOf op).2.1, letter x) ∧ (rowOf op).2.1.length ≤ 3 ∧ (rowOf op).1.length ≤ 5 := by
  rcases op_cases op with e | e | e | e | e | e | e | e | e | e | e | e | e | e | e | e | e | e | e | e | e | e | e | e | e | e
  case inr.inr.inr.inr.inr.inr.inr.inr.inr.inr.inr.inr.inr.inr.inr.inr.inr.inr.inr.inr.inr.inr.inr.inr.inr => unfold rowOf; rw [find_none op e]; exact ⟨(fun x h => (by simp at h)), by decide, by decide⟩
  all_goals
    subst e
    refine ⟨fun x h => ?_, by decide, by decide⟩
    unfold letter
    revert x
    decide
theorem find_of_may {op a b c i : Int} (h : mayE op a b c i = 0) : find op = some (rowOf op) := by
  unfold mayE at h
  unfold rowOf
  split at h
  · cases h
  · rename_i n f s e
    rw [e]
    rfl
/-- a field's bounds -/
theorem fieldOf_bd {op a b c i : Int} (h : mayE op a b c i = 0) (x : UInt8) : -32768 ≤ fieldOf a b c i x ∧ fieldOf a b c i x ≤ 65535 := by
  obtain ⟨_, _, a1, a2, b1, b2, c1, c2, i1, i2, _⟩ := ok_bounds op a b c i h
  unfold fieldOf
  split
  · omega
  · split
    · omega
    · split <;> omega
theorem nDigits_le (k u : Nat) (h : u < 10 ^ (k + 1)) : Lib.nDigits u ≤ k + 1 := by
  induction k generalizing u with
  | zero => rw [Lib.nDigits_small (by simpa using h)]; exact Nat.le_refl _
  | succ k ih =>
    by_cases h0 : u < 10
    · rw [Lib.nDigits_small h0]; omega
    · rw [Lib.nDigits_big h0]
      have := ih (u / 10) (by rw [Nat.pow_succ] at h; omega)
      omega
theorem itoa_len (n : Int) (h0 : -32768 ≤ n) (h1 : n ≤ 65535) : (Lib.itoa n).length ≤ 6 := by
  unfold Lib.itoa
  split
  · rw [List.length_cons, Lib.decDigits_length]
    have := nDigits_le 4 n.natAbs (by omega)
    omega
  · rw [Lib.decDigits_length]
    have := nDigits_le 4 n.toNat (by omega)
    omega
theorem fieldT_len {op a b c i : Int} (h : mayE op a b c i = 0) (x : UInt8) : (fieldT a b c i x).length ≤ 7 := by
  obtain ⟨_, _, a1, a2, b1, b2, c1, c2, i1, i2, _⟩ := ok_bounds op a b c i h
  unfold fieldT
  split
  · have := itoa_len i (by omega) (by omega); omega
  · have := fieldOf_bd h x
    rw [List.length_cons]
    have := itoa_len (fieldOf a b c i x) (by omega) (by omega); omega
theorem flatMap_le {f : UInt8 → List UInt8} {m : Nat} (l : List UInt8) (h : ∀ x, (f x).length ≤ m) : (l.flatMap f).length ≤ l.length * m := by
  induction l with
  | nil => simp
  | cons x r ih =>
    rw [List.flatMap_cons, List.length_append, List.length_cons, Nat.succ_mul]
    have := h x
    omega
theorem lineT_len {op a b c i : Int} (h : mayE op a b c i = 0) : (lineT (rowOf op).1 (rowOf op).2.1 a b c i).length ≤ 29 := by
  have hl := row_letters op
  have hf := flatMap_le (f := fun x => 32 :: fieldT a b c i x) (m := 8) (rowOf op).2.1 (fun x => by have := fieldT_len h x; rw [List.length_cons]; omega)
  unfold lineT
  rw [List.length_append]
  omega
theorem fields_step (F : List UInt8) (a b c i : Int) (k : Nat) (hk : k < F.length) : (F.take (k + 1)).map (fieldT a b c i) = (F.take k).map (fieldT a b c i) ++ [fieldT a b c i F[k]] := by
  rw [List.take_succ_eq_append_getElem hk, List.map_append]
  rfl
theorem line_step (nm F : List UInt8) (a b c i : Int) (k : Nat) (hk : k < F.length) : lineT nm (F.take (k + 1)) a b c i = lineT nm (F.take k) a b c i ++ (32 :: fieldT a b c i F[k]) := by
  unfold lineT
  rw [List.take_succ_eq_append_getElem hk, List.flatMap_append, List.append_assoc]
  simp
theorem line_full (nm F : List UInt8) (a b c i : Int) (k : Nat) (hk : F.length ≤ k) : lineT nm (F.take k) a b c i = lineT nm F a b c i := by rw [List.take_of_length_le hk]
theorem lineT_take (nm F : List UInt8) (a b c i : Int) (k : Nat) : (lineT nm (F.take k) a b c i).length ≤ (lineT nm F a b c i).length := by
  have h : F = F.take k ++ F.drop k := (List.take_append_drop k F).symm
  have h2 : (lineT nm F a b c i).length = (lineT nm (F.take k) a b c i).length + ((F.drop k).flatMap fun x => 32 :: fieldT a b c i x).length := by
    have : lineT nm F a b c i = lineT nm (F.take k) a b c i ++ (F.drop k).flatMap (fun x => 32 :: fieldT a b c i x) := by
      unfold lineT
      rw [List.append_assoc, ← List.flatMap_append, ← h]
    rw [this, List.length_append]
  omega
theorem itoa_nat (u : Nat) : Lib.itoa (u : Int) = Lib.decDigits u := by
  unfold Lib.itoa
  rw [if_neg (by omega)]
  simp
theorem itoa_neg (n : Int) (h : n < 0) : Lib.itoa n = 45 :: Lib.itoa (-n) := by
  unfold Lib.itoa
  rw [if_pos h, if_neg (by omega)]
  congr 2
  omega

end Go.Proofs.YthnehhidlaggeaaDoor.Cp
