/- Plain facts: reading an instruction's text: no program in sight. -/
import Derived.Test.YthnehhidlaggeaaDoorTextPlain
import Derived.Lib.AtoiAll
import Derived.Lib.SplitLaws
import Derived.Lib.IndexBytes
import Derived.Lib.Strings
namespace Go.Proofs.YthnehhidlaggeaaDoor.Cp
set_option linter.unusedVariables false
set_option linter.unusedSimpArgs false

/-- a text is an instruction's -/
def Tells (l : List UInt8) (op a b c i : Int) : Prop := mayE op a b c i = 0 ∧ textT op a b c i = l

/-! ## Digits -/
theorem digits_in (u : Nat) : ∀ x ∈ Lib.decDigits u, 48 ≤ x.toNat ∧ x.toNat ≤ 57 := by
  induction u using Nat.strongRecOn with
  | _ u ih =>
    intro x hx
    by_cases h : u < 10
    · rw [Lib.decDigits_one h] at hx
      simp only [List.mem_cons, List.not_mem_nil, or_false] at hx
      rw [hx, UInt8.toNat_ofNat']
      omega
    · rw [Lib.decDigits, dif_neg h, List.mem_append] at hx
      rcases hx with hx | hx
      · exact ih (u / 10) (by omega) x hx
      · simp only [List.mem_cons, List.not_mem_nil, or_false] at hx
        rw [hx, UInt8.toNat_ofNat']
        omega
theorem digits_ne (u : Nat) : Lib.decDigits u ≠ [] := by
  intro h
  have := Lib.decDigits_length u
  have hp := Lib.nDigits_pos u
  rw [h] at this
  simp at this
  omega
theorem pu_app : ∀ (a b : List UInt8) (acc v : Nat), Lib.parseUint10 acc a = .ok v → Lib.parseUint10 acc (a ++ b) = Lib.parseUint10 v b
  | [], b, acc, v, h => by
    simp only [Lib.parseUint10] at h
    injection h with h
    rw [h]
    rfl
  | c :: r, b, acc, v, h => by
    simp only [Lib.parseUint10, List.cons_append] at h ⊢
    split at h
    · rename_i h1
      rw [if_pos h1]
      split at h
      · cases h
      · rename_i h2
        rw [if_neg h2]
        split at h
        · cases h
        · rename_i h3
          rw [if_neg h3]
          exact pu_app r b _ v h
    · cases h
theorem pu_digits (u : Nat) (hu : u ≤ 1000000) : Lib.parseUint10 0 (Lib.decDigits u) = .ok u := by
  induction u using Nat.strongRecOn with
  | _ u ih =>
    by_cases h : u < 10
    · rw [Lib.decDigits_one h]
      simp only [Lib.parseUint10, UInt8.toNat_ofNat']
      rw [if_pos (by omega), if_neg (by omega), if_neg (by omega)]
      congr 1
      omega
    · rw [Lib.decDigits, dif_neg h, pu_app _ _ 0 (u / 10) (ih (u / 10) (by omega) (by omega))]
      simp only [Lib.parseUint10, UInt8.toNat_ofNat']
      rw [if_pos (by omega), if_neg (by omega), if_neg (by omega)]
      congr 1
      omega
theorem itoa_head (n : Int) : ∃ x r, Lib.itoa n = x :: r ∧ ((0 ≤ n ∧ 48 ≤ x.toNat ∧ x.toNat ≤ 57) ∨ (n < 0 ∧ x = 45 ∧ r = Lib.decDigits n.natAbs)) := by
  unfold Lib.itoa
  split
  · rename_i h
    exact ⟨45, _, rfl, .inr ⟨h, rfl, rfl⟩⟩
  · rename_i h
    cases e : Lib.decDigits n.toNat with
    | nil => exact absurd e (digits_ne _)
    | cons x r =>
      have := digits_in n.toNat x (by rw [e]; exact List.mem_cons_self)
      exact ⟨x, r, rfl, .inl ⟨by omega, this⟩⟩
theorem atoi_itoa (n : Int) (h0 : -1000000 ≤ n) (h1 : n ≤ 1000000) : Lib.atoiAll (Lib.itoa n) = .ok n := by
  obtain ⟨x, r, e, h⟩ := itoa_head n
  rw [e]
  unfold Lib.atoiAll
  simp only
  rcases h with ⟨hn, ha, hb⟩ | ⟨hn, rfl, rfl⟩
  · have e2 : x :: r = Lib.decDigits n.toNat := by
      rw [← e]
      unfold Lib.itoa
      rw [if_neg (by omega)]
    rw [if_neg (by omega), e2]
    have hp : Lib.parseMag (Lib.decDigits n.toNat) = .ok n.toNat := by
      unfold Lib.parseMag
      rw [if_neg (digits_ne _), pu_digits _ (by omega)]
    rw [hp]
    simp only
    rw [if_neg (by omega), if_neg (by omega), if_neg (by omega)]
    congr 1
    omega
  · have hp : Lib.parseMag (Lib.decDigits n.natAbs) = .ok n.natAbs := by
      unfold Lib.parseMag
      rw [if_neg (digits_ne _), pu_digits _ (by omega)]
    have h45 : (45 : UInt8).toNat = 45 := rfl
    rw [if_pos (.inr h45), hp]
    simp only
    rw [if_neg (by omega), if_neg (by omega), if_pos h45]
    congr 1
    omega
theorem itoa_chars (n : Int) : ∀ x ∈ Lib.itoa n, x = 45 ∨ (48 ≤ x.toNat ∧ x.toNat ≤ 57) := by
  intro x hx
  unfold Lib.itoa at hx
  split at hx
  · rcases List.mem_cons.1 hx with h | h
    · exact .inl h
    · exact .inr (digits_in _ x h)
  · exact .inr (digits_in _ x hx)

/-! ## Words -/
theorem index_hit (x r : List UInt8) (h : ∀ y ∈ x, y ≠ 32) : Lib.index (x ++ 32 :: r) [32] = x.length := by
  rw [Lib.index_one]
  induction x with
  | nil => rfl
  | cons a x ih =>
    rw [List.cons_append, Lib.indexByte, if_neg (by simpa using h a List.mem_cons_self), ih (fun y hy => h y (List.mem_cons_of_mem _ hy))]
    rw [if_neg (by simp <;> omega), List.length_cons]
    rfl
theorem split_words (x : List UInt8) (xs : List (List UInt8)) (h : ∀ y ∈ x :: xs, ∀ z ∈ y, z ≠ 32) : Lib.splitK [32] 0 xs.length (x ++ xs.flatMap (fun y => 32 :: y)) = x :: xs := by
  induction xs generalizing x with
  | nil => simp [Lib.splitK]
  | cons y ys ih =>
    have hi := index_hit x (y ++ ys.flatMap (fun y => 32 :: y)) (h x List.mem_cons_self)
    rw [List.flatMap_cons, List.cons_append, List.length_cons, Lib.splitK, hi, if_neg (by simp <;> omega)]
    have e1 : ((x.length : Int).toNat + 0) = x.length := by omega
    have e2 : ((x.length : Int).toNat + [(32 : UInt8)].length) = x.length + 1 := by simp
    rw [e1, e2, List.take_left, List.drop_append, List.drop_of_length_le (by omega), show x.length + 1 - x.length = 1 by omega]
    simp only [List.drop_succ_cons, List.drop_zero, List.nil_append]
    rw [ih y (fun z hz => h z (List.mem_cons_of_mem _ hz))]
theorem count_words (x : List UInt8) (xs : List (List UInt8)) (h : ∀ y ∈ x :: xs, ∀ z ∈ y, z ≠ 32) : (x ++ xs.flatMap (fun y => 32 :: y)).count 32 = xs.length := by
  have h0 : ∀ y : List UInt8, (∀ z ∈ y, z ≠ (32 : UInt8)) → y.count 32 = 0 := fun y hy => List.count_eq_zero.2 (fun hm => hy 32 hm rfl)
  induction xs generalizing x with
  | nil => simpa using h0 x (h x List.mem_cons_self)
  | cons y ys ih =>
    rw [List.flatMap_cons, List.cons_append, List.count_append, h0 x (h x List.mem_cons_self), List.count_cons_self, ih y (fun z hz => h z (List.mem_cons_of_mem _ hz)), List.length_cons]
    omega
theorem split_line (x : List UInt8) (xs : List (List UInt8)) (h : ∀ y ∈ x :: xs, ∀ z ∈ y, z ≠ 32) : Lib.split (x ++ xs.flatMap (fun y => 32 :: y)) [32] = x :: xs := by
  unfold Lib.split
  rw [Lib.count_one, count_words x xs h, split_words x xs h]
theorem field_chars (a b c i : Int) (x : UInt8) : ∀ z ∈ fieldT a b c i x, z ≠ 32 := by
  intro z hz e
  subst e
  unfold fieldT at hz
  split at hz
  · rcases itoa_chars _ _ hz with h | h
    · cases h
    · exact absurd h.1 (by decide)
  · rcases List.mem_cons.1 hz with h | h
    · cases h
    · rcases itoa_chars _ _ h with h | h
      · cases h
      · exact absurd h.1 (by decide)
theorem name_chars (op : Int) : ∀ z ∈ (rowOf op).1, z ≠ 32 := by
  rcases op_cases op with e | e | e | e | e | e | e | e | e | e | e | e | e | e | e | e | e | e | e | e | e | e | e | e | e | e
  case inr.inr.inr.inr.inr.inr.inr.inr.inr.inr.inr.inr.inr.inr.inr.inr.inr.inr.inr.inr.inr.inr.inr.inr.inr => unfold rowOf; rw [find_none op e]; intro z hz; simp at hz
  all_goals
    subst e
    decide
theorem line_words (nm F : List UInt8) (a b c i : Int) : lineT nm F a b c i = nm ++ (F.map (fieldT a b c i)).flatMap (fun y => 32 :: y) := by
  unfold lineT
  rw [List.flatMap_map]
theorem words_of {l : List UInt8} {op a b c i : Int} (h : Tells l op a b c i) : Lib.split l [32] = (rowOf op).1 :: (rowOf op).2.1.map (fieldT a b c i) := by
  obtain ⟨h1, h2⟩ := h
  unfold textT at h2
  rw [if_pos h1] at h2
  rw [← h2, line_words]
  refine split_line _ _ (fun y hy => ?_)
  rcases List.mem_cons.1 hy with rfl | hy
  · exact name_chars op
  · obtain ⟨x, _, rfl⟩ := List.mem_map.1 hy
    exact field_chars a b c i x
theorem trim_field (a b c i : Int) (x : UInt8) : Lib.trimPrefix (fieldT a b c i x) [114] = Lib.itoa (if x = 73 then i else fieldOf a b c i x) := by
  unfold fieldT
  by_cases h : x = 73
  · rw [if_pos h, if_pos h]
    unfold Lib.trimPrefix Lib.hasPrefix
    obtain ⟨y, r, e, hy⟩ := itoa_head i
    rw [e]
    have : ([114] : List UInt8).isPrefixOf (y :: r) = false := by
      have hne : y ≠ 114 := by
        intro e
        subst e
        rcases hy with ⟨_, _, h⟩ | ⟨_, h, _⟩
        · exact absurd h (by decide)
        · cases h
      simp [List.isPrefixOf, Ne.symm hne]
    rw [this]
    rfl
  · rw [if_neg h, if_neg h]
    simp [Lib.trimPrefix, Lib.hasPrefix, List.isPrefixOf]

/-! ## What the program reads -/
def val : Lib.NumEnd Int → Int
  | .ok v => v
  | _ => 0
/-- the number that a word tells -/
def wordN (ws : List (List UInt8)) (k : Nat) : Lib.NumEnd Int := Lib.atoiAll (Lib.trimPrefix (ws.getD (1 + k) []) [114])
/-- a field is laid -/
def setF (t : Int × Int × Int × Int) (x : UInt8) (n : Int) : Int × Int × Int × Int :=
  if x = 65 then (n, t.2.1, t.2.2.1, t.2.2.2) else if x = 66 then (t.1, n, t.2.2.1, t.2.2.2) else if x = 67 then (t.1, t.2.1, n, t.2.2.2) else (t.1, t.2.1, t.2.2.1, n)
def stAt (F : List UInt8) (v : Nat → Int) : Nat → Int × Int × Int × Int
  | 0 => (0, 0, 0, 0)
  | k + 1 => setF (stAt F v k) (F.getD k 0) (v k)
theorem row_shapes {op : Int} (h : (find op).isSome) : (rowOf op).2.1 = [65, 66] ∨ (rowOf op).2.1 = [65, 73] ∨ (rowOf op).2.1 = [65, 66, 67] ∨ (rowOf op).2.1 = [65, 66, 73] ∨ (rowOf op).2.1 = [73] ∨ (rowOf op).2.1 = [65] := by
  rcases op_cases op with e | e | e | e | e | e | e | e | e | e | e | e | e | e | e | e | e | e | e | e | e | e | e | e | e | e
  case inr.inr.inr.inr.inr.inr.inr.inr.inr.inr.inr.inr.inr.inr.inr.inr.inr.inr.inr.inr.inr.inr.inr.inr.inr => rw [find_none op e] at h; cases h
  all_goals
    subst e
    decide
/-- fields that a form lacks are 0 -/
theorem lacks {op a b c i : Int} (h : mayE op a b c i = 0) : ((rowOf op).2.1.contains 65 = false → a = 0) ∧ ((rowOf op).2.1.contains 66 = false → b = 0) ∧ ((rowOf op).2.1.contains 67 = false → c = 0) ∧ ((rowOf op).2.1.contains 73 = false → i = 0) := by
  unfold mayE at h
  rw [find_of_may h] at h
  simp only at h
  split at h
  · rename_i hall
    unfold okAll at hall
    simp only [Bool.and_eq_true] at hall
    obtain ⟨⟨⟨h1, h2⟩, h3⟩, h4⟩ := hall
    unfold okV at h1 h2 h3 h4
    refine ⟨fun e => ?_, fun e => ?_, fun e => ?_, fun e => ?_⟩
    · rw [show (65 : Int).toNat.toUInt8 = 65 by decide, e] at h1; simpa using h1
    · rw [show (66 : Int).toNat.toUInt8 = 66 by decide, e] at h2; simpa using h2
    · rw [show (67 : Int).toNat.toUInt8 = 67 by decide, e] at h3; simpa using h3
    · rw [show (73 : Int).toNat.toUInt8 = 73 by decide, e] at h4; simpa using h4
  · cases h
def fieldV (a b c i : Int) (x : UInt8) : Int := if x = 73 then i else fieldOf a b c i x
theorem st_full {op a b c i : Int} (h : mayE op a b c i = 0) (v : Nat → Int) (hv : ∀ k, k < (rowOf op).2.1.length → v k = fieldV a b c i ((rowOf op).2.1.getD k 0)) : stAt (rowOf op).2.1 v (rowOf op).2.1.length = (a, b, c, i) := by
  obtain ⟨l1, l2, l3, l4⟩ := lacks h
  have hs := row_shapes (op := op) (by rw [find_of_may h]; rfl)
  generalize (rowOf op).2.1 = F at *
  rcases hs with rfl | rfl | rfl | rfl | rfl | rfl
  · have h0 := hv 0 (by decide)
    have h1 := hv 1 (by decide)
    simp only [stAt, List.length_cons, List.length_nil, h0, h1, l3 (by decide), l4 (by decide)]
    rfl
  · have h0 := hv 0 (by decide)
    have h1 := hv 1 (by decide)
    simp only [stAt, List.length_cons, List.length_nil, h0, h1, l3 (by decide), l2 (by decide)]
    rfl
  · have h0 := hv 0 (by decide)
    have h1 := hv 1 (by decide)
    have h2 := hv 2 (by decide)
    simp only [stAt, List.length_cons, List.length_nil, h0, h1, h2, l4 (by decide)]
    rfl
  · have h0 := hv 0 (by decide)
    have h1 := hv 1 (by decide)
    have h2 := hv 2 (by decide)
    simp only [stAt, List.length_cons, List.length_nil, h0, h1, h2, l3 (by decide)]
    rfl
  · have h0 := hv 0 (by decide)
    simp only [stAt, List.length_cons, List.length_nil, h0, l1 (by decide), l2 (by decide), l3 (by decide)]
    rfl
  · have h0 := hv 0 (by decide)
    simp only [stAt, List.length_cons, List.length_nil, h0, l2 (by decide), l3 (by decide), l4 (by decide)]
    rfl
theorem names_apart : ∀ j : Fin 25, ∀ k : Fin 25, (rowOf (opAt j.val)).1 = (rowOf (opAt k.val)).1 → opAt j.val = opAt k.val := by decide +kernel
theorem opAt_of {op : Int} (h : (find op).isSome) : ∃ j, j < 25 ∧ opAt j = op := by
  apply Decidable.byContradiction
  intro hn
  have := find_none_of op (fun j hj e => hn ⟨j, hj, e⟩)
  rw [this] at h
  cases h
theorem name_inj {op op' : Int} (h : (find op).isSome) (h' : (find op').isSome) (e : (rowOf op).1 = (rowOf op').1) : op = op' := by
  obtain ⟨j, hj, rfl⟩ := opAt_of h
  obtain ⟨k, hk, rfl⟩ := opAt_of h'
  exact names_apart ⟨j, hj⟩ ⟨k, hk⟩ e
/-- what the program finds in an instruction's text -/
theorem found {l : List UInt8} {op a b c i : Int} (h : Tells l op a b c i) : (find op).isSome ∧ (Lib.split l [32]).getD 0 [] = (rowOf op).1 ∧ (Lib.split l [32]).length = 1 + (rowOf op).2.1.length ∧
    (∀ k, k < (rowOf op).2.1.length → wordN (Lib.split l [32]) k = .ok (fieldV a b c i ((rowOf op).2.1.getD k 0))) := by
  have hw := words_of h
  have hb := ok_bounds op a b c i h.1
  refine ⟨by rw [find_of_may h.1]; rfl, by rw [hw]; rfl, by rw [hw]; simp; omega, fun k hk => ?_⟩
  unfold wordN
  have e : (Lib.split l [32]).getD (1 + k) [] = fieldT a b c i ((rowOf op).2.1.getD k 0) := by
    rw [hw, Nat.add_comm 1 k, List.getD_cons_succ, List.getD_eq_getElem?_getD, List.getElem?_map, List.getElem?_eq_getElem hk, List.getD_eq_getElem?_getD, List.getElem?_eq_getElem hk]
    rfl
  rw [e, trim_field]
  have hfb := fieldOf_bd h.1 ((rowOf op).2.1.getD k 0)
  have hv : -32768 ≤ fieldV a b c i ((rowOf op).2.1.getD k 0) ∧ fieldV a b c i ((rowOf op).2.1.getD k 0) ≤ 65535 := by
    unfold fieldV
    split <;> omega
  exact atoi_itoa (fieldV a b c i ((rowOf op).2.1.getD k 0)) (by omega) (by omega)
theorem found_st {l : List UInt8} {op a b c i : Int} (h : Tells l op a b c i) : stAt (rowOf op).2.1 (fun k => val (wordN (Lib.split l [32]) k)) (rowOf op).2.1.length = (a, b, c, i) :=
  st_full h.1 _ (fun k hk => by rw [(found h).2.2.2 k hk]; rfl)
theorem splitK_le (k : Nat) (l : List UInt8) : ∀ y ∈ Lib.splitK [32] 0 k l, y.length ≤ l.length := by
  induction k generalizing l with
  | zero => intro y hy; simp only [Lib.splitK, List.mem_cons, List.not_mem_nil, or_false] at hy; rw [hy]; exact Nat.le_refl _
  | succ k ih =>
    intro y hy
    rw [Lib.splitK] at hy
    split at hy
    · simp only [List.mem_cons, List.not_mem_nil, or_false] at hy; rw [hy]; exact Nat.le_refl _
    · rcases List.mem_cons.1 hy with h | h
      · rw [h, List.length_take]; omega
      · have := ih _ y h
        rw [List.length_drop] at this
        omega
theorem split_le (l : List UInt8) (k : Nat) : ((Lib.split l [32]).getD k []).length ≤ l.length := by
  rw [List.getD_eq_getElem?_getD]
  cases e : (Lib.split l [32])[k]? with
  | none => exact Nat.zero_le _
  | some y => exact splitK_le _ l y (List.mem_of_getElem? e)
/-- one text, one instruction -/
theorem tells_one {l : List UInt8} {op a b c i op' a' b' c' i' : Int} (h : Tells l op a b c i) (h' : Tells l op' a' b' c' i') : op = op' ∧ a = a' ∧ b = b' ∧ c = c' ∧ i = i' := by
  obtain ⟨f1, f2, _, _⟩ := found h
  obtain ⟨g1, g2, _, _⟩ := found h'
  obtain rfl := name_inj f1 g1 (f2.symm.trans g2)
  have e := (found_st h).symm.trans (found_st h')
  simp only [Prod.mk.injEq] at e
  exact ⟨rfl, e⟩

end Go.Proofs.YthnehhidlaggeaaDoor.Cp
