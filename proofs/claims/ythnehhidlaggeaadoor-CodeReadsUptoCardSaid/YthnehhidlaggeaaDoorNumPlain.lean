/- Plain facts: the reference's reading of an instruction's text: no program in sight. -/
import Derived.Test.YthnehhidlaggeaaDoorReadPlain
namespace Go.Proofs.YthnehhidlaggeaaDoor.Cp
set_option linter.unusedVariables false
set_option linter.unusedSimpArgs false

def isD (c : UInt8) : Bool := decide (48 ≤ c.toNat) && decide (c.toNat ≤ 57)
/-- how many digits stand first, of so many -/
def dRun : Nat → List UInt8 → Nat
  | 0, _ => 0
  | _ + 1, [] => 0
  | f + 1, c :: r => if isD c then dRun f r + 1 else 0
/-- what they spell -/
def dVal (l : List UInt8) (k : Nat) : Nat := (l.take k).foldl (fun a c => 10 * a + (c.toNat - 48)) 0
theorem dRun_le : ∀ (f : Nat) (l : List UInt8), dRun f l ≤ f ∧ dRun f l ≤ l.length
  | 0, l => ⟨Nat.le_refl _, Nat.zero_le _⟩
  | f + 1, [] => ⟨Nat.zero_le _, Nat.le_refl _⟩
  | f + 1, c :: r => by
    rw [dRun]
    have := dRun_le f r
    split
    · rw [List.length_cons]; omega
    · omega
theorem dRun_in : ∀ (f : Nat) (l : List UInt8) (j : Nat), j < dRun f l → ∃ c, l[j]? = some c ∧ isD c = true
  | 0, l, j, h => absurd h (Nat.not_lt_zero _)
  | f + 1, [], j, h => absurd h (Nat.not_lt_zero _)
  | f + 1, c :: r, j, h => by
    rw [dRun] at h
    split at h
    · rename_i hc
      cases j with
      | zero => exact ⟨c, rfl, hc⟩
      | succ j => exact dRun_in f r j (by omega)
    · omega
theorem dRun_end : ∀ (f : Nat) (l : List UInt8), dRun f l = f ∨ dRun f l = l.length ∨ ∃ c, l[dRun f l]? = some c ∧ isD c = false
  | 0, l => .inl rfl
  | f + 1, [] => .inr (.inl rfl)
  | f + 1, c :: r => by
    rw [dRun]
    split
    · rcases dRun_end f r with h | h | ⟨d, h, hd⟩
      · exact .inl (by omega)
      · exact .inr (.inl (by rw [List.length_cons]; omega))
      · exact .inr (.inr ⟨d, by rw [List.getElem?_cons_succ]; exact h, hd⟩)
    · rename_i hc
      exact .inr (.inr ⟨c, rfl, by simpa using hc⟩)
theorem dVal_succ (l : List UInt8) (k : Nat) (c : UInt8) (h : l[k]? = some c) : dVal l (k + 1) = 10 * dVal l k + (c.toNat - 48) := by
  unfold dVal
  rw [List.take_add_one, h, List.foldl_append]
  rfl
theorem dVal_lt (l : List UInt8) (k : Nat) (h : ∀ j, j < k → ∃ c, l[j]? = some c ∧ isD c = true) : dVal l k < 10 ^ k := by
  induction k with
  | zero => exact Nat.one_pos
  | succ k ih =>
    obtain ⟨c, hc, hd⟩ := h k (by omega)
    rw [dVal_succ l k c hc, Nat.pow_succ]
    have := ih (fun j hj => h j (by omega))
    unfold isD at hd
    simp only [Bool.and_eq_true, decide_eq_true_eq] at hd
    omega
theorem isD_digit (d : Nat) (h : d < 10) : isD (UInt8.ofNat (48 + d)) = true := by
  unfold isD
  rw [UInt8.toNat_ofNat']
  simp only [Bool.and_eq_true, decide_eq_true_eq]
  omega
theorem dRun_app (a r : List UInt8) (f : Nat) (ha : ∀ c ∈ a, isD c = true) (hf : a.length ≤ f) (hr : r = [] ∨ ∃ c t, r = c :: t ∧ isD c = false) : dRun f (a ++ r) = a.length := by
  induction a generalizing f with
  | nil =>
    rw [List.nil_append]
    rcases hr with rfl | ⟨c, t, rfl, hc⟩
    · cases f <;> rfl
    · cases f with
      | zero => rfl
      | succ f => rw [dRun, hc]; rfl
  | cons c a ih =>
    cases f with
    | zero => simp at hf
    | succ f =>
      rw [List.cons_append, dRun, ha c List.mem_cons_self, if_pos rfl, ih f (fun d hd => ha d (List.mem_cons_of_mem _ hd)) (by rw [List.length_cons] at hf; omega), List.length_cons]
theorem digits_isD (u : Nat) : ∀ c ∈ Lib.decDigits u, isD c = true := by
  intro c hc
  have := digits_in u c hc
  unfold isD
  simp only [Bool.and_eq_true, decide_eq_true_eq]
  exact this
theorem dVal_digits (u : Nat) (r : List UInt8) : dVal (Lib.decDigits u ++ r) (Lib.decDigits u).length = u := by
  unfold dVal
  rw [List.take_left]
  induction u using Nat.strongRecOn with
  | _ u ih =>
    by_cases h : u < 10
    · rw [Lib.decDigits_one h]
      simp only [List.foldl_cons, List.foldl_nil, UInt8.toNat_ofNat']
      omega
    · rw [Lib.decDigits, dif_neg h, List.foldl_append, ih (u / 10) (by omega)]
      simp only [List.foldl_cons, List.foldl_nil, UInt8.toNat_ofNat']
      omega

/-! ## The reference's steps -/
/-- where the digits begin -/
def rAt (l : List UInt8) (at' : Nat) (x : UInt8) : Nat := if x = 73 then (if l[at' + 1]? = some 45 then at' + 2 else at' + 1) else at' + 2
def rSg (l : List UInt8) (at' : Nat) (x : UInt8) : Int := if x = 73 then (if l[at' + 1]? = some 45 then -1 else 1) else 1
def rFrom (l : List UInt8) (at' : Nat) (x : UInt8) : Nat := min (rAt l at' x) l.length
def rK (l : List UInt8) (at' : Nat) (x : UInt8) : Nat := dRun 6 (l.drop (rFrom l at' x))
def rN (l : List UInt8) (at' : Nat) (x : UInt8) : Nat := dVal (l.drop (rFrom l at' x)) (rK l at' x)
structure RSt where
  pos : Nat
  ok : Bool
  t : Int × Int × Int × Int
/-- the state behind so many fields -/
def rst (l nm F : List UInt8) : Nat → RSt
  | 0 => ⟨nm.length, true, (0, 0, 0, 0)⟩
  | k + 1 => ⟨rFrom l (rst l nm F k).pos (F.getD k 0) + rK l (rst l nm F k).pos (F.getD k 0), decide (0 < rK l (rst l nm F k).pos (F.getD k 0)),
      setF (rst l nm F k).t (F.getD k 0) (if F.getD k 0 = 73 then rSg l (rst l nm F k).pos (F.getD k 0) * rN l (rst l nm F k).pos (F.getD k 0) else rN l (rst l nm F k).pos (F.getD k 0))⟩
theorem rst_pos (l nm F : List UInt8) (h : nm.length ≤ l.length) : ∀ k, (rst l nm F k).pos ≤ l.length
  | 0 => h
  | k + 1 => by
    simp only [rst]
    have h1 := (dRun_le 6 (l.drop (rFrom l (rst l nm F k).pos (F.getD k 0)))).2
    rw [List.length_drop] at h1
    have h2 : rFrom l (rst l nm F k).pos (F.getD k 0) ≤ l.length := Nat.min_le_right _ _
    unfold rK
    omega
theorem rst_step {l nm F : List UInt8} {k p : Nat} {o : Bool} {t : Int × Int × Int × Int} {x : UInt8} (h : rst l nm F k = ⟨p, o, t⟩) (hx : F.getD k 0 = x) :
    rst l nm F (k + 1) = ⟨rFrom l p x + rK l p x, decide (0 < rK l p x), setF t x (if x = 73 then rSg l p x * rN l p x else rN l p x)⟩ := by
  rw [rst, h, hx]
theorem rN_le (l : List UInt8) (p : Nat) (x : UInt8) : rN l p x ≤ 999999 := by
  have h := dVal_lt (l.drop (rFrom l p x)) (rK l p x) (fun j hj => dRun_in 6 _ j hj)
  have h6 := (dRun_le 6 (l.drop (rFrom l p x))).1
  have hp : (10 : Nat) ^ (rK l p x) ≤ 10 ^ 6 := Nat.pow_le_pow_right (by decide) h6
  unfold rN
  omega
/-- one field of a text -/
theorem r_field (pre rest : List UInt8) (a b c i : Int) (x : UInt8) (hx : letter x) (hreg : x ≠ 73 → 0 ≤ fieldOf a b c i x ∧ fieldOf a b c i x ≤ 15) (hi : -32768 ≤ i ∧ i ≤ 65535) (hr : rest = [] ∨ ∃ t, rest = 32 :: t) :
    rFrom (pre ++ 32 :: fieldT a b c i x ++ rest) pre.length x + rK (pre ++ 32 :: fieldT a b c i x ++ rest) pre.length x = (pre ++ 32 :: fieldT a b c i x).length ∧ 0 < rK (pre ++ 32 :: fieldT a b c i x ++ rest) pre.length x ∧
    (if x = 73 then rSg (pre ++ 32 :: fieldT a b c i x ++ rest) pre.length x * rN (pre ++ 32 :: fieldT a b c i x ++ rest) pre.length x else (rN (pre ++ 32 :: fieldT a b c i x ++ rest) pre.length x : Int)) = fieldV a b c i x := by
  have hr' : rest = [] ∨ ∃ c t, rest = c :: t ∧ isD c = false := hr.imp id (fun ⟨t, e⟩ => ⟨32, t, e, by decide⟩)
  have core : ∀ (h : List UInt8) (u : Nat), u ≤ 999999 → ∀ L, L = pre ++ 32 :: (h ++ Lib.decDigits u) ++ rest → ∀ p, p = pre.length + 1 + h.length →
      min p L.length = p ∧ dRun 6 (L.drop p) = (Lib.decDigits u).length ∧ dVal (L.drop p) (Lib.decDigits u).length = u := by
    intro h u hu L hL p hp
    have e : L = (pre ++ 32 :: h) ++ (Lib.decDigits u ++ rest) := by rw [hL]; simp
    have el : (pre ++ 32 :: h).length = p := by rw [List.length_append, List.length_cons]; omega
    have ed : L.drop p = Lib.decDigits u ++ rest := by rw [e, ← el, List.drop_left]
    have hl : (Lib.decDigits u).length ≤ 6 := by rw [Lib.decDigits_length]; exact nDigits_le 5 u (by omega)
    refine ⟨?_, ?_, ?_⟩
    · apply Nat.min_eq_left
      rw [e, List.length_append, el]
      omega
    · rw [ed]
      exact dRun_app _ _ 6 (digits_isD u) hl hr'
    · rw [ed]
      exact dVal_digits u rest
  have hpos : ∀ u, 0 < (Lib.decDigits u).length := fun u => by rw [Lib.decDigits_length]; exact Lib.nDigits_pos u
  by_cases h73 : x = 73
  · subst h73
    have hfT : fieldT a b c i 73 = Lib.itoa i := rfl
    have hfV : fieldV a b c i 73 = i := rfl
    rw [hfT, hfV]
    by_cases hneg : i < 0
    · have e1 : Lib.itoa i = [45] ++ Lib.decDigits i.natAbs := by unfold Lib.itoa; rw [if_pos hneg]; rfl
      obtain ⟨L, hL⟩ : ∃ L, L = pre ++ 32 :: Lib.itoa i ++ rest := ⟨_, rfl⟩
      rw [← hL]
      obtain ⟨c1, c2, c3⟩ := core [45] i.natAbs (by omega) L (by rw [hL, e1]) (pre.length + 2) rfl
      have h45 : L[pre.length + 1]? = some 45 := by rw [hL, e1]; simp
      have ea : rAt L pre.length 73 = pre.length + 2 := by unfold rAt; rw [if_pos rfl, if_pos h45]
      have es : rSg L pre.length 73 = -1 := by unfold rSg; rw [if_pos rfl, if_pos h45]
      have ef : rFrom L pre.length 73 = pre.length + 2 := by unfold rFrom; rw [ea, c1]
      have ek : rK L pre.length 73 = (Lib.decDigits i.natAbs).length := by unfold rK; rw [ef, c2]
      have en : rN L pre.length 73 = i.natAbs := by unfold rN; rw [ek, ef, c3]
      rw [ef, ek, es, en, if_pos rfl]
      refine ⟨?_, hpos _, by omega⟩
      rw [e1]
      simp
      omega
    · have e1 : Lib.itoa i = [] ++ Lib.decDigits i.toNat := by unfold Lib.itoa; rw [if_neg hneg]; rfl
      obtain ⟨L, hL⟩ : ∃ L, L = pre ++ 32 :: Lib.itoa i ++ rest := ⟨_, rfl⟩
      rw [← hL]
      obtain ⟨c1, c2, c3⟩ := core [] i.toNat (by omega) L (by rw [hL, e1]) (pre.length + 1) rfl
      have h45 : ¬ L[pre.length + 1]? = some 45 := by
        obtain ⟨y, r, e2, hy⟩ := itoa_head i
        rw [hL, e2]
        rcases hy with ⟨_, hy, _⟩ | ⟨hy, _⟩
        · intro e
          simp at e
          subst e
          exact absurd hy (by decide)
        · omega
      have ea : rAt L pre.length 73 = pre.length + 1 := by unfold rAt; rw [if_pos rfl, if_neg h45]
      have es : rSg L pre.length 73 = 1 := by unfold rSg; rw [if_pos rfl, if_neg h45]
      have ef : rFrom L pre.length 73 = pre.length + 1 := by unfold rFrom; rw [ea, c1]
      have ek : rK L pre.length 73 = (Lib.decDigits i.toNat).length := by unfold rK; rw [ef, c2]
      have en : rN L pre.length 73 = i.toNat := by unfold rN; rw [ek, ef, c3]
      rw [ef, ek, es, en, if_pos rfl]
      refine ⟨?_, hpos _, by omega⟩
      rw [e1]
      simp
      omega
  · have hb := hreg h73
    obtain ⟨f, hf⟩ : ∃ f, f = fieldOf a b c i x := ⟨_, rfl⟩
    rw [← hf] at hb
    have hfT : fieldT a b c i x = [114] ++ Lib.decDigits f.toNat := by
      unfold fieldT
      rw [if_neg h73, ← hf]
      unfold Lib.itoa
      rw [if_neg (by omega)]
      rfl
    have hfV : fieldV a b c i x = f := by unfold fieldV; rw [if_neg h73, hf]
    rw [hfT, hfV]
    obtain ⟨L, hL⟩ : ∃ L, L = pre ++ 32 :: ([114] ++ Lib.decDigits f.toNat) ++ rest := ⟨_, rfl⟩
    rw [← hL]
    obtain ⟨c1, c2, c3⟩ := core [114] f.toNat (by omega) L hL (pre.length + 2) rfl
    have ea : rAt L pre.length x = pre.length + 2 := by unfold rAt; rw [if_neg h73]
    have ef : rFrom L pre.length x = pre.length + 2 := by unfold rFrom; rw [ea, c1]
    have ek : rK L pre.length x = (Lib.decDigits f.toNat).length := by unfold rK; rw [ef, c2]
    have en : rN L pre.length x = f.toNat := by unfold rN; rw [ek, ef, c3]
    rw [ef, ek, en, if_neg h73]
    refine ⟨?_, hpos _, by omega⟩
    simp
    omega
/-- the reference finds what a text tells -/
theorem rst_found {l : List UInt8} {op a b c i : Int} (h : Tells l op a b c i) : ∀ k, k ≤ (rowOf op).2.1.length →
    rst l (rowOf op).1 (rowOf op).2.1 k = ⟨(lineT (rowOf op).1 ((rowOf op).2.1.take k) a b c i).length, true, stAt (rowOf op).2.1 (fun j => fieldV a b c i ((rowOf op).2.1.getD j 0)) k⟩ := by
  obtain ⟨hm, ht⟩ := h
  unfold textT at ht
  rw [if_pos hm] at ht
  obtain ⟨o1, o2, a1, a2, b1, b2, c1, c2, i1, i2, _⟩ := ok_bounds op a b c i hm
  have hlet := (row_letters op).1
  generalize (rowOf op).1 = nm at *
  generalize (rowOf op).2.1 = F at *
  intro k
  induction k with
  | zero =>
    intro _
    simp [rst, lineT, stAt]
  | succ k ih =>
    intro hk
    have hk' : k < F.length := hk
    have hx : F.getD k 0 = F[k] := by rw [List.getD_eq_getElem?_getD, List.getElem?_eq_getElem hk', Option.getD_some]
    have hle := hlet F[k] (List.getElem_mem hk')
    have hrest : l = lineT nm (F.take k) a b c i ++ 32 :: fieldT a b c i F[k] ++ (F.drop (k + 1)).flatMap (fun x => 32 :: fieldT a b c i x) := by
      rw [← ht, ← line_step nm F a b c i k hk']
      unfold lineT
      rw [List.append_assoc, ← List.flatMap_append, List.take_append_drop]
    have hr : (F.drop (k + 1)).flatMap (fun x => 32 :: fieldT a b c i x) = [] ∨ ∃ t, (F.drop (k + 1)).flatMap (fun x => 32 :: fieldT a b c i x) = 32 :: t := by
      cases F.drop (k + 1) with
      | nil => exact .inl rfl
      | cons y r => exact .inr ⟨_, rfl⟩
    obtain ⟨g1, g2, g3⟩ := r_field (lineT nm (F.take k) a b c i) _ a b c i F[k] hle (fun hne => by
      unfold fieldOf
      rcases hle with e | e | e | e <;> rw [e]
      · rw [if_pos rfl]; omega
      · rw [if_neg (by decide), if_pos rfl]; omega
      · rw [if_neg (by decide), if_neg (by decide), if_pos rfl]; omega
      · exact absurd e hne) ⟨i1, i2⟩ hr
    rw [← hrest] at g1 g2 g3
    rw [rst, ih (by omega)]
    simp only [hx]
    rw [g1, g3, decide_eq_true g2, stAt, hx, line_step nm F a b c i k hk']
theorem rst_full {l : List UInt8} {op a b c i : Int} (h : Tells l op a b c i) : (rst l (rowOf op).1 (rowOf op).2.1 (rowOf op).2.1.length).t = (a, b, c, i) := by
  rw [rst_found h _ (Nat.le_refl _)]
  exact st_full h.1 _ (fun _ _ => rfl)
theorem rst_ok {l : List UInt8} {op a b c i : Int} (h : Tells l op a b c i) (k : Nat) (hk : k ≤ (rowOf op).2.1.length) : (rst l (rowOf op).1 (rowOf op).2.1 k).ok = true := by
  rw [rst_found h k hk]
theorem tells_name {l : List UInt8} {op a b c i : Int} (h : Tells l op a b c i) : (rowOf op).1.length ≤ l.length ∧ l.take (rowOf op).1.length = (rowOf op).1 := by
  obtain ⟨hm, ht⟩ := h
  unfold textT at ht
  rw [if_pos hm] at ht
  rw [← ht]
  unfold lineT
  rw [List.length_append, List.take_left]
  exact ⟨by omega, rfl⟩

end Go.Proofs.YthnehhidlaggeaaDoor.Cp
