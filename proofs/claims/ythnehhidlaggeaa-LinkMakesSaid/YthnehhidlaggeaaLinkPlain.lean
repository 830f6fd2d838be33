/- Plain facts about the joining of objects: no program in sight. -/
import Derived.Test.YthnehhidlaggeaaObjPlain
import Derived.Test.YthnehhidlaggeaaObjBytes
import Derived.Maps.Views
import Derived.Maps.Own
namespace Go.Proofs.Ythnehhidlaggeaa.Ob
set_option linter.unusedVariables false
set_option linter.unusedSimpArgs false

/-! ## The first of a row of which something is so -/
def firstFrom {α β : Type} (g : Nat → β → Option α) : Nat → List β → Option α
  | _, [] => none
  | k, x :: r => match g k x with
    | some a => some a
    | none => firstFrom g (k + 1) r
theorem firstFrom_none {α β : Type} (g : Nat → β → Option α) (l : List β) (k : Nat) (h : ∀ j (hj : j < l.length), g (k + j) l[j] = none) : firstFrom g k l = none := by
  induction l generalizing k with
  | nil => rfl
  | cons x r ih =>
    have h0 := h 0 (by simp)
    simp only [Nat.add_zero, List.getElem_cons_zero] at h0
    rw [firstFrom, h0]
    exact ih (k + 1) (fun j hj => by
      have := h (j + 1) (by simp; omega)
      rw [List.getElem_cons_succ] at this
      rw [← this]
      congr 1
      omega)
theorem firstFrom_some {α β : Type} (g : Nat → β → Option α) (l : List β) (k j : Nat) (hj : j < l.length) (a : α) (hb : ∀ i (hi : i < l.length), i < j → g (k + i) l[i] = none) (h : g (k + j) l[j] = some a) : firstFrom g k l = some a := by
  induction l generalizing k j with
  | nil => simp at hj
  | cons x r ih =>
    cases j with
    | zero =>
      simp only [Nat.add_zero, List.getElem_cons_zero] at h
      rw [firstFrom, h]
    | succ j =>
      have h0 := hb 0 (by simp) (by omega)
      simp only [Nat.add_zero, List.getElem_cons_zero] at h0
      rw [firstFrom, h0]
      refine ih (k + 1) j (by simpa using hj) (fun i hi hij => ?_) ?_
      · have := hb (i + 1) (by simp; omega) (by omega)
        rw [List.getElem_cons_succ] at this
        rw [← this]
        congr 1
        omega
      · rw [List.getElem_cons_succ] at h
        rw [← h]
        congr 1
        omega
theorem firstFrom_found {α β : Type} (g : Nat → β → Option α) (l : List β) (k : Nat) (a : α) (h : firstFrom g k l = some a) : ∃ j, ∃ hj : j < l.length, g (k + j) l[j] = some a ∧ ∀ i (hi : i < l.length), i < j → g (k + i) l[i] = none := by
  induction l generalizing k with
  | nil => cases h
  | cons x r ih =>
    rw [firstFrom] at h
    cases e : g k x with
    | some b =>
      rw [e] at h
      exact ⟨0, by simp, by simpa [e] using h, fun i _ hi => by omega⟩
    | none =>
      rw [e] at h
      obtain ⟨j, hj, h1, h2⟩ := ih (k + 1) h
      refine ⟨j + 1, by simp; omega, ?_, fun i hi hij => ?_⟩
      · rw [List.getElem_cons_succ, ← h1]
        congr 1
        omega
      · cases i with
        | zero => simpa using e
        | succ i =>
          have := h2 i (by simpa using hi) (by omega)
          rw [List.getElem_cons_succ, ← this]
          congr 1
          omega
theorem firstFrom_never {α β : Type} (g : Nat → β → Option α) (l : List β) (k : Nat) (h : firstFrom g k l = none) (j : Nat) (hj : j < l.length) : g (k + j) l[j] = none := by
  induction l generalizing k j with
  | nil => simp at hj
  | cons x r ih =>
    rw [firstFrom] at h
    cases e : g k x with
    | some b => rw [e] at h; cases h
    | none =>
      rw [e] at h
      cases j with
      | zero => simpa using e
      | succ j =>
        have := ih (k + 1) h j (by simpa using hj)
        rw [List.getElem_cons_succ, ← this]
        congr 1
        omega
/-- the first symbol of all objects' of which something is so -/
def scan {α : Type} (f : Nat → Nat → Sym → Option α) (os : List Obj) : Option α := firstFrom (fun u o => firstFrom (f u) 0 o.syms) 0 os

/-! ## Symbols -/
def ownK (s : Sym) : Bool := s.kind == 1 || s.kind == 2
def outK (s : Sym) : Bool := s.kind == 3 || s.kind == 4
def nameOf (s : Sym) : List UInt8 := s.name.data.toList
def signOf (s : Sym) : List UInt8 := s.sign.data.toList
def homeF (nm : List UInt8) (u i : Nat) (s : Sym) : Option (Nat × Nat) := if (ownK s && !s.static) && (nameOf s == nm) then some (u, i) else none
/-- the first object that has a name openly, and the symbol's number -/
def home (os : List Obj) (nm : List UInt8) : Option (Nat × Nat) := scan (homeF nm) os
def symAt (os : List Obj) (u i : Nat) : Option Sym := (os[u]?).bind fun o => o.syms[i]?
theorem home_sym {os : List Obj} {nm : List UInt8} {u i : Nat} (h : home os nm = some (u, i)) : ∃ o, ∃ hu : u < os.length, os[u] = o ∧ ∃ hi : i < o.syms.length, ownK o.syms[i] = true ∧ o.syms[i].static = false ∧ nameOf o.syms[i] = nm := by
  obtain ⟨v, hv, h1, _⟩ := firstFrom_found _ _ _ _ h
  obtain ⟨k, hk, h2, _⟩ := firstFrom_found _ _ _ _ h1
  unfold homeF at h2
  split at h2
  · rename_i hc
    simp only [Bool.and_eq_true, Bool.not_eq_true', beq_iff_eq] at hc
    injection h2 with h2
    simp only [Nat.zero_add, Prod.mk.injEq] at h2
    obtain ⟨rfl, rfl⟩ := h2
    exact ⟨_, hv, rfl, hk, hc.1.1, hc.1.2, hc.2⟩
  · cases h2
theorem home_le {os : List Obj} {u i : Nat} (hu : u < os.length) (hi : i < os[u].syms.length) (ho : ownK os[u].syms[i] = true) (hs : os[u].syms[i].static = false) : ∃ v k, home os (nameOf os[u].syms[i]) = some (v, k) ∧ v ≤ u ∧ (v = u → k ≤ i) := by
  have hself : homeF (nameOf os[u].syms[i]) u i os[u].syms[i] = some (u, i) := by
    unfold homeF
    rw [ho, hs]
    simp
  cases h : home os (nameOf os[u].syms[i]) with
  | none =>
    have h1 := firstFrom_never _ _ _ h u hu
    have h2 := firstFrom_never _ _ _ h1 i hi
    simp only [Nat.zero_add] at h2
    rw [hself] at h2
    cases h2
  | some x =>
    obtain ⟨v, k⟩ := x
    refine ⟨v, k, rfl, ?_⟩
    obtain ⟨v', hv', h1, h2⟩ := firstFrom_found _ _ _ _ h
    obtain ⟨k', hk', h3, h4⟩ := firstFrom_found _ _ _ _ h1
    have e : v = v' ∧ k = k' := by
      unfold homeF at h3
      split at h3
      · injection h3 with h3
        simp only [Nat.zero_add, Prod.mk.injEq] at h3
        exact ⟨h3.1.symm, h3.2.symm⟩
      · cases h3
    obtain ⟨rfl, rfl⟩ := e
    have hle : v ≤ u := by
      apply Decidable.byContradiction
      intro hn
      have h5 := h2 u hu (by omega)
      have h6 := firstFrom_never _ _ _ h5 i hi
      simp only [Nat.zero_add] at h6
      rw [hself] at h6
      cases h6
    refine ⟨hle, fun hvu => ?_⟩
    subst hvu
    apply Decidable.byContradiction
    intro hn
    have h5 := h4 i hi (by omega)
    simp only [Nat.zero_add] at h5
    rw [hself] at h5
    cases h5

/-! ## What is wrong first: unit, code, at -/
abbrev Trb := Int × Int × Int
def noTrb : Trb := (0, 0, 0)
def twiceF (os : List Obj) (u i : Nat) (s : Sym) : Option Trb :=
  if ownK s && !s.static then match home os (nameOf s) with
    | some (v, _) => if v < u then some (u, 5, i) else none
    | none => some (u, 5, i)
  else none
def kindBad (s h : Sym) : Bool := ((s.kind == 3 && !(h.kind == 1)) || (s.kind == 4 && !(h.kind == 2))) || !(signOf h == signOf s)
def meetF (os : List Obj) (u i : Nat) (s : Sym) : Option Trb :=
  if ownK s then none else match home os (nameOf s) with
    | none => some (u, 4, i)
    | some (v, k) => match symAt os v k with
      | none => none
      | some h => if kindBad s h then some (u, 3, i) else none
def mainName : List UInt8 := [109, 97, 105, 110]
def mainSign : List UInt8 := [102, 110, 40, 41, 105, 110, 116]
def mainE (os : List Obj) : Trb := match home os mainName with
  | none => (0, 4, 0)
  | some (v, k) => match symAt os v k with
    | none => (0, 4, 0)
    | some h => if h.kind = 1 then (if signOf h = mainSign then noTrb else (0, 3, 0)) else (0, 4, 0)
def formF (u : Nat) (o : Obj) : Option Trb := if mayB o then none else some (u, 2, 0)
/-- what is wrong first, of so many objects as may be -/
def checkT (os : List Obj) : Trb := match firstFrom formF 0 os with
  | some t => t
  | none => match scan (twiceF os) os with
    | some t => t
    | none => match scan (meetF os) os with
      | some t => t
      | none => mainE os

/-! ## Where all lies -/
def codeB (os : List Obj) (u : Nat) : Nat := ((os.take u).map fun o => o.code.length).sum
def dataB (os : List Obj) (u : Nat) : Nat := ((os.take u).map fun o => o.data.length).sum
theorem codeB_succ (os : List Obj) (u : Nat) (h : u < os.length) : codeB os (u + 1) = codeB os u + os[u].code.length := by
  unfold codeB
  rw [List.take_succ_eq_append_getElem h, List.map_append, List.sum_append]
  simp
theorem dataB_succ (os : List Obj) (u : Nat) (h : u < os.length) : dataB os (u + 1) = dataB os u + os[u].data.length := by
  unfold dataB
  rw [List.take_succ_eq_append_getElem h, List.map_append, List.sum_append]
  simp
theorem codeB_le (os : List Obj) (hf : ∀ o ∈ os, few o) : ∀ u, u ≤ os.length → codeB os u ≤ 6000 * u
  | 0, _ => by simp [codeB]
  | u + 1, h => by
    rw [codeB_succ os u h]
    have h1 := codeB_le os hf u (by omega)
    have h2 := (hf os[u] (List.getElem_mem h)).1
    omega
theorem dataB_le (os : List Obj) (hf : ∀ o ∈ os, few o) : ∀ u, u ≤ os.length → dataB os u ≤ 16000 * u
  | 0, _ => by simp [dataB]
  | u + 1, h => by
    rw [dataB_succ os u h]
    have h1 := dataB_le os hf u (by omega)
    have h2 := (hf os[u] (List.getElem_mem h)).2.1
    omega
/-- where a symbol that stands here lies -/
def addrOwn (os : List Obj) (u : Nat) (s : Sym) : Int := if s.kind = 1 then 2 + codeB os u + s.pos else 2 + codeB os os.length + dataB os u + s.pos
/-- .. or elsewhere -/
def addrOf (os : List Obj) (u : Nat) (s : Sym) : Int :=
  if ownK s then addrOwn os u s else match home os (nameOf s) with
    | none => 0
    | some (v, k) => match symAt os v k with
      | none => 0
      | some h => addrOwn os v h

end Go.Proofs.Ythnehhidlaggeaa.Ob

/-! Plain facts about the joining of objects: the image, the ranges: no program in sight. -/
namespace Go.Proofs.Ythnehhidlaggeaa.Ob
set_option linter.unusedVariables false
set_option linter.unusedSimpArgs false

/-! ## All code, all data -/
def codeTo (os : List Obj) (u : Nat) : List Int := (os.take u).flatMap fun o => o.code
def dataTo (os : List Obj) (u : Nat) : List Int := (os.take u).flatMap fun o => o.data
theorem codeTo_succ (os : List Obj) (u : Nat) (h : u < os.length) : codeTo os (u + 1) = codeTo os u ++ os[u].code := by
  unfold codeTo
  rw [List.take_succ_eq_append_getElem h, List.flatMap_append]
  simp
theorem dataTo_succ (os : List Obj) (u : Nat) (h : u < os.length) : dataTo os (u + 1) = dataTo os u ++ os[u].data := by
  unfold dataTo
  rw [List.take_succ_eq_append_getElem h, List.flatMap_append]
  simp
theorem codeTo_len (os : List Obj) : ∀ u, u ≤ os.length → (codeTo os u).length = codeB os u
  | 0, _ => by simp [codeTo, codeB]
  | u + 1, h => by rw [codeTo_succ os u h, codeB_succ os u h, List.length_append, codeTo_len os u (by omega)]
theorem dataTo_len (os : List Obj) : ∀ u, u ≤ os.length → (dataTo os u).length = dataB os u
  | 0, _ => by simp [dataTo, dataB]
  | u + 1, h => by rw [dataTo_succ os u h, dataB_succ os u h, List.length_append, dataTo_len os u (by omega)]
theorem codeB_mono (os : List Obj) (u v : Nat) (h : u ≤ v) (hv : v ≤ os.length) : codeB os u ≤ codeB os v := by
  induction v with
  | zero =>
    obtain rfl : u = 0 := (by omega)
    exact Nat.le_refl _
  | succ v ih =>
    by_cases e : u = v + 1
    · subst e; exact Nat.le_refl _
    · rw [codeB_succ os v hv]
      have := ih (by omega) (by omega)
      omega

/-! ## The ranges -/
structure Rng where
  name : ByteArray
  unit : Int
  lo : Int
  hi : Int
  frame : Int
def symRng (os : List Obj) (u : Nat) (s : Sym) : List Rng := if s.kind = 1 then [⟨s.name, u, addrOwn os u s, addrOwn os u s + s.size, s.frame⟩] else []
def rngIn (os : List Obj) (u : Nat) (l : List Sym) : List Rng := l.flatMap (symRng os u)
def rngTo (os : List Obj) : Nat → List Rng
  | 0 => []
  | u + 1 => rngTo os u ++ rngIn os u ((os[u]?).elim [] fun o => o.syms)
theorem rngIn_succ (os : List Obj) (u : Nat) (l : List Sym) (i : Nat) (h : i < l.length) : rngIn os u (l.take (i + 1)) = rngIn os u (l.take i) ++ symRng os u l[i] := by
  unfold rngIn
  rw [List.take_succ_eq_append_getElem h, List.flatMap_append]
  simp
theorem rngIn_len (os : List Obj) (u : Nat) (l : List Sym) : (rngIn os u l).length ≤ l.length := by
  induction l with
  | nil => simp [rngIn]
  | cons s r ih =>
    unfold rngIn at ih ⊢
    rw [List.flatMap_cons, List.length_append, List.length_cons]
    have : (symRng os u s).length ≤ 1 := by unfold symRng; split <;> simp
    omega
theorem rngTo_len (os : List Obj) (hf : ∀ o ∈ os, few o) : ∀ u, u ≤ os.length → (rngTo os u).length ≤ 400 * u
  | 0, _ => by simp [rngTo]
  | u + 1, h => by
    rw [rngTo, List.length_append, List.getElem?_eq_getElem h]
    have h1 := rngTo_len os hf u (by omega)
    have h2 := rngIn_len os u os[u].syms
    have h3 := (hf os[u] (List.getElem_mem h)).2.2.1
    simp only [Option.elim_some]
    omega
def rngCells (x : Rng) : List Value := [.string x.name, .int .i64 x.unit, .int .i64 x.lo, .int .i64 x.hi, .int .i64 x.frame]

/-! ## The relocations -/
instance : Inhabited Rel := ⟨⟨0, 0, 0⟩⟩
def relsOf (os : List Obj) (u : Nat) : List Rel := (os[u]?).elim [] fun o => o.rels
def codeOf (os : List Obj) (u : Nat) : List Int := (os[u]?).elim [] fun o => o.code
/-- the word that a relocation makes; none: it has no room -/
def relWord (os : List Obj) (u : Nat) (r : Rel) (n : Int) : Option Int := match Cp.dec n with
  | none => none
  | some (op, a, b, c, _) => match symAt os u r.sym.toNat with
    | none => none
    | some s => if Cp.mayE op a b c (addrOf os u s + r.add) = 0 then some (Cp.encN op a b c (addrOf os u s + r.add)) else none
def relStep (os : List Obj) (u k : Nat) (r : Rel) (L : List Int) : Except Trb (List Int) := match relWord os u r ((codeOf os u).getD r.pos.toNat 0) with
  | none => .error (u, 6, k)
  | some n => .ok (L.set (2 + codeB os u + r.pos.toNat) n)
def relK (os : List Obj) (u : Nat) (L : List Int) : Nat → Except Trb (List Int)
  | 0 => .ok L
  | k + 1 => match relK os u L k with
    | .error e => .error e
    | .ok L' => relStep os u k ((relsOf os u).getD k default) L'
def relU (os : List Obj) (L : List Int) : Nat → Except Trb (List Int)
  | 0 => .ok L
  | u + 1 => match relU os L u with
    | .error e => .error e
    | .ok L' => relK os u L' (relsOf os u).length
theorem relK_error {os : List Obj} {u : Nat} {L : List Int} {k j : Nat} {e : Trb} (h : relK os u L k = .error e) (hj : k ≤ j) : relK os u L j = .error e := by
  induction j with
  | zero =>
    obtain rfl : k = 0 := (by omega)
    exact h
  | succ j ih =>
    by_cases hk : k = j + 1
    · subst hk; exact h
    · rw [relK, ih (by omega)]
theorem relU_error {os : List Obj} {L : List Int} {u v : Nat} {e : Trb} (h : relU os L u = .error e) (hv : u ≤ v) : relU os L v = .error e := by
  induction v with
  | zero =>
    obtain rfl : u = 0 := (by omega)
    exact h
  | succ v ih =>
    by_cases hk : u = v + 1
    · subst hk; exact h
    · rw [relU, ih (by omega)]
/-- an error of one relocation is the whole's -/
theorem rel_error {os : List Obj} {L L' L2 : List Int} {u k : Nat} {e : Trb} (hu : relU os L u = .ok L') (hk : relK os u L' k = .ok L2) (hl : k < (relsOf os u).length) (he : relStep os u k ((relsOf os u).getD k default) L2 = .error e) {n : Nat} (hn : u < n) : relU os L n = .error e := by
  have h1 : relK os u L' (k + 1) = .error e := by rw [relK, hk]; exact he
  have h2 : relU os L (u + 1) = .error e := by rw [relU, hu]; exact relK_error h1 hl
  exact relU_error h2 hn
theorem relStep_len {os : List Obj} {u k : Nat} {r : Rel} {L L' : List Int} (h : relStep os u k r L = .ok L') : L'.length = L.length := by
  unfold relStep at h
  split at h
  · cases h
  · injection h with h
    rw [← h, List.length_set]
theorem relK_len {os : List Obj} {u : Nat} {L : List Int} : ∀ {k : Nat} {L' : List Int}, relK os u L k = .ok L' → L'.length = L.length
  | 0, L', h => by injection h with h; rw [h]
  | k + 1, L', h => by
    rw [relK] at h
    split at h
    · cases h
    · rename_i L2 h2
      rw [relStep_len h, relK_len h2]
theorem relU_len {os : List Obj} {L : List Int} : ∀ {u : Nat} {L' : List Int}, relU os L u = .ok L' → L'.length = L.length
  | 0, L', h => by injection h with h; rw [h]
  | u + 1, L', h => by
    rw [relU] at h
    split at h
    · cases h
    · rename_i L2 h2
      rw [relK_len h, relU_len h2]

/-! ## What a relocation that may be finds -/
theorem relsGo_at {code : List Int} {ns : Nat} {last : Int} {l : List Rel} (h : relsGo code ns last l = true) : ∀ k (hk : k < l.length), (∃ p, relOk code ns p l[k] = true ∧ last ≤ p) := by
  induction l generalizing last with
  | nil => intro k hk; simp at hk
  | cons x r ih =>
    rw [relsGo, Bool.and_eq_true] at h
    intro k hk
    cases k with
    | zero => exact ⟨last, h.1, Int.le_refl _⟩
    | succ k =>
      obtain ⟨p, h1, h2⟩ := ih h.2 k (by simpa using hk)
      refine ⟨p, h1, ?_⟩
      have h3 := h.1
      unfold relOk at h3
      simp only [Bool.and_eq_true, decide_eq_true_eq] at h3
      omega
theorem mayB_rels {o : Obj} (h : mayB o = true) : relsGo o.code o.syms.length (-1) o.rels = true := by
  unfold mayB at h
  rw [Bool.and_eq_true] at h
  obtain ⟨_, h⟩ := h
  split at h
  · cases h
  · rw [Bool.and_eq_true] at h
    exact h.2
structure RelHas (o : Obj) (r : Rel) : Prop where
  pos : 0 ≤ r.pos ∧ r.pos < o.code.length
  sym : 0 ≤ r.sym ∧ r.sym < o.syms.length
  add : 0 ≤ r.add ∧ r.add ≤ 6000
  dec : ∃ op a b c, Cp.dec (o.code.getD r.pos.toNat 0) = some (op, a, b, c, 0)
theorem rel_has {o : Obj} (h : mayB o = true) {k : Nat} (hk : k < o.rels.length) : RelHas o o.rels[k] := by
  obtain ⟨p, h1, h2⟩ := relsGo_at (mayB_rels h) k hk
  unfold relOk at h1
  simp only [Bool.and_eq_true, decide_eq_true_eq] at h1
  obtain ⟨⟨⟨⟨⟨⟨a1, a2⟩, a3⟩, a4⟩, a5⟩, a6⟩, a7⟩ := h1
  refine ⟨⟨by omega, a2⟩, ⟨a4, a5⟩, ⟨a6, a7⟩, ?_⟩
  unfold speaksB at a3
  split at a3
  · cases a3
  · rename_i op a b c i e
    rw [Bool.and_eq_true, beq_iff_eq] at a3
    obtain ⟨_, rfl⟩ := a3
    exact ⟨op, a, b, c, e⟩

/-! ## What Link tells -/
def addrMain (os : List Obj) : Int := match home os mainName with
  | none => 0
  | some (v, k) => match symAt os v k with
    | none => 0
    | some h => addrOwn os v h
def code0 (os : List Obj) : List Int := [Cp.encN 21 0 0 0 (addrMain os % 65536), Cp.encN 25 0 0 0 0] ++ codeTo os os.length
def mayImg (n d : Nat) (mem : Int) : Bool := decide (1 ≤ n ∧ n ≤ 6000 ∧ 32 ≤ mem ∧ mem ≤ 16000 ∧ d ≤ mem ∧ (n : Int) + d ≤ mem - 16)
def linkR (os : List Obj) (mem : Int) : Except Trb (List Int × List Int × List Rng) :=
  if checkT os = noTrb then
    (if mayImg (2 + codeB os os.length) (dataB os os.length) mem then match relU os (code0 os) os.length with
      | .error e => .error e
      | .ok L => .ok (L, dataTo os os.length, rngTo os os.length)
    else .error (0, 1, 1))
  else .error (checkT os)

end Go.Proofs.Ythnehhidlaggeaa.Ob

/-! Plain facts about the joining of objects: what is known when nothing is wrong: no program in sight. -/
namespace Go.Proofs.Ythnehhidlaggeaa.Ob
set_option linter.unusedVariables false
set_option linter.unusedSimpArgs false

theorem formF_code {u : Nat} {o : Obj} {t : Trb} (h : formF u o = some t) : t.2.1 ≠ 0 := by
  unfold formF at h
  split at h
  · cases h
  · injection h with h; rw [← h]; simp
theorem twiceF_code {os : List Obj} {u i : Nat} {s : Sym} {t : Trb} (h : twiceF os u i s = some t) : t.2.1 ≠ 0 := by
  unfold twiceF at h
  split at h
  · split at h
    · split at h
      · injection h with h; rw [← h]; simp
      · cases h
    · injection h with h; rw [← h]; simp
  · cases h
theorem meetF_code {os : List Obj} {u i : Nat} {s : Sym} {t : Trb} (h : meetF os u i s = some t) : t.2.1 ≠ 0 := by
  unfold meetF at h
  split at h
  · cases h
  · split at h
    · injection h with h; rw [← h]; simp
    · split at h
      · cases h
      · split at h
        · injection h with h; rw [← h]; simp
        · cases h
theorem scan_code {f : Nat → Nat → Sym → Option Trb} (hf : ∀ u i s t, f u i s = some t → t.2.1 ≠ 0) {os : List Obj} {t : Trb} (h : scan f os = some t) : t.2.1 ≠ 0 := by
  obtain ⟨u, hu, h1, _⟩ := firstFrom_found _ _ _ _ h
  obtain ⟨i, hi, h2, _⟩ := firstFrom_found _ _ _ _ h1
  exact hf _ _ _ _ h2
theorem scan_never {f : Nat → Nat → Sym → Option Trb} {os : List Obj} (h : scan f os = none) (u : Nat) (hu : u < os.length) (i : Nat) (hi : i < os[u].syms.length) : f u i os[u].syms[i] = none := by
  have h1 := firstFrom_never _ _ _ h u hu
  have h2 := firstFrom_never _ _ _ h1 i hi
  simpa using h2
structure LinkOk (os : List Obj) : Prop where
  may : ∀ o ∈ os, mayB o = true
  twice : ∀ (u : Nat) (hu : u < os.length) (i : Nat) (hi : i < os[u].syms.length), twiceF os u i os[u].syms[i] = none
  meet : ∀ (u : Nat) (hu : u < os.length) (i : Nat) (hi : i < os[u].syms.length), meetF os u i os[u].syms[i] = none
  main : ∃ v k h, home os mainName = some (v, k) ∧ symAt os v k = some h ∧ h.kind = 1 ∧ signOf h = mainSign
  eq : checkT os = noTrb
theorem link_ok {os : List Obj} (h : (checkT os).2.1 = 0) : LinkOk os := by
  have h0 := h
  unfold checkT at h
  cases h1 : firstFrom formF 0 os with
  | some t =>
    rw [h1] at h
    obtain ⟨u, hu, h2, _⟩ := firstFrom_found _ _ _ _ h1
    exact absurd h (formF_code h2)
  | none =>
    rw [h1] at h
    simp only at h
    cases h2 : scan (twiceF os) os with
    | some t => rw [h2] at h; exact absurd h (scan_code (fun _ _ _ _ => twiceF_code) h2)
    | none =>
      rw [h2] at h
      simp only at h
      cases h3 : scan (meetF os) os with
      | some t => rw [h3] at h; exact absurd h (scan_code (fun _ _ _ _ => meetF_code) h3)
      | none =>
        rw [h3] at h
        simp only at h
        have hm : ∀ o ∈ os, mayB o = true := fun o ho => by
          obtain ⟨j, hj, rfl⟩ := List.getElem_of_mem ho
          have := firstFrom_never _ _ _ h1 j hj
          unfold formF at this
          split at this
          · assumption
          · cases this
        have hmain : (∃ v k h, home os mainName = some (v, k) ∧ symAt os v k = some h ∧ h.kind = 1 ∧ signOf h = mainSign) ∧ mainE os = noTrb := by
          unfold mainE at h ⊢
          split at h
          · exact absurd h (by decide)
          · rename_i v k hh
            split at h
            · exact absurd h (by decide)
            · rename_i s hs
              split at h
              · rename_i hk
                split at h
                · rename_i hg
                  refine ⟨⟨v, k, s, hh, hs, hk, hg⟩, ?_⟩
                  rw [if_pos hk, if_pos hg]
                · exact absurd h (by decide)
              · exact absurd h (by decide)
        refine ⟨hm, scan_never h2, scan_never h3, hmain.1, ?_⟩
        unfold checkT
        rw [h1, h2, h3]
        exact hmain.2
theorem checkT_code (os : List Obj) (h : (checkT os).2.1 = 0) : checkT os = noTrb := (link_ok h).eq
theorem sym_mem {os : List Obj} {u i : Nat} {s : Sym} (h : symAt os u i = some s) : ∃ hu : u < os.length, ∃ hi : i < os[u].syms.length, os[u].syms[i] = s := by
  obtain ⟨o, h1, h2⟩ := Option.bind_eq_some_iff.1 h
  obtain ⟨hu, rfl⟩ := List.getElem?_eq_some_iff.1 h1
  obtain ⟨hi, e⟩ := List.getElem?_eq_some_iff.1 h2
  exact ⟨hu, hi, e⟩
theorem sym_of {os : List Obj} {u i : Nat} (hu : u < os.length) (hi : i < os[u].syms.length) : symAt os u i = some os[u].syms[i] := by
  unfold symAt
  rw [List.getElem?_eq_getElem hu, Option.bind_some, List.getElem?_eq_getElem hi]
/-- a symbol that stands elsewhere has a home -/
theorem LinkOk.homed {os : List Obj} (h : LinkOk os) {u i : Nat} {s : Sym} (hs : symAt os u i = some s) : ownK s = true ∨ ∃ x, home os (nameOf s) = some x := by
  obtain ⟨hu, hi, rfl⟩ := sym_mem hs
  have h1 := h.meet u hu i hi
  unfold meetF at h1
  split at h1
  · rename_i ho; exact .inl ho
  · split at h1
    · cases h1
    · rename_i v k hh; exact .inr ⟨_, hh⟩

/-! ## Bounds -/
theorem mayE_call (x : Int) (h0 : 0 ≤ x) (h1 : x ≤ 65535) : Cp.mayE 21 0 0 0 x = 0 := by
  simp [Cp.mayE, Cp.find, Cp.okAll, Cp.okV, Cp.loOf, Cp.hiOf]
  omega
theorem mayE_exit : Cp.mayE 25 0 0 0 0 = 0 := by decide
theorem enc_word {op a b c i : Int} (h : Cp.mayE op a b c i = 0) : 0 ≤ Cp.encN op a b c i ∧ Cp.encN op a b c i ≤ 4294967295 := by
  have := Cp.ok_bounds op a b c i h
  unfold Cp.encN
  omega
theorem LinkOk.few {os : List Obj} (h : LinkOk os) : ∀ o ∈ os, Ob.few o := fun o ho => (mayB_fine (h.may o ho)).few
theorem LinkOk.own_bd {os : List Obj} (h : LinkOk os) (hn : os.length ≤ 4) {u i : Nat} {s : Sym} (hs : symAt os u i = some s) : 2 ≤ addrOwn os u s ∧ addrOwn os u s ≤ 7000000 ∧ 0 ≤ s.size ∧ s.size ≤ 16000 ∧ 0 ≤ s.frame ∧ s.frame ≤ 16000 := by
  obtain ⟨hu, hi, rfl⟩ := sym_mem hs
  have hf := (mayB_fine (h.may _ (List.getElem_mem hu))).syms _ (List.getElem_mem hi)
  have h1 := codeB_le os h.few u (by omega)
  have h2 := codeB_le os h.few os.length (Nat.le_refl _)
  have h3 := dataB_le os h.few u (by omega)
  have h4 := hf.pos
  have h5 := hf.size
  have h6 := hf.frame
  refine ⟨?_, ?_, h5.1, h5.2, h6.1, h6.2⟩ <;> (unfold addrOwn; split <;> omega)
theorem LinkOk.of_bd {os : List Obj} (h : LinkOk os) (hn : os.length ≤ 4) {u i : Nat} {s : Sym} (hs : symAt os u i = some s) : 0 ≤ addrOf os u s ∧ addrOf os u s ≤ 7000000 := by
  unfold addrOf
  split
  · have := h.own_bd hn hs; omega
  · split
    · omega
    · split
      · omega
      · rename_i hh
        have := h.own_bd hn hh; omega
theorem LinkOk.main_own {os : List Obj} (h : LinkOk os) : ∃ v k s, home os mainName = some (v, k) ∧ symAt os v k = some s ∧ ownK s = true ∧ addrOf os v s = addrMain os := by
  obtain ⟨v, k, s, h1, h2, h3, h4⟩ := h.main
  have ho : ownK s = true := by unfold ownK; rw [h3]; rfl
  refine ⟨v, k, s, h1, h2, ho, ?_⟩
  unfold addrOf addrMain
  rw [if_pos ho, h1]
  simp only [h2]
theorem code0_len (os : List Obj) : (code0 os).length = 2 + codeB os os.length := by
  unfold code0
  rw [List.length_append, codeTo_len os _ (Nat.le_refl _)]
  rfl

end Go.Proofs.Ythnehhidlaggeaa.Ob

/-! Plain facts about the joining of objects: the open symbols, in order: no program in sight. -/
namespace Go.Proofs.Ythnehhidlaggeaa.Ob
set_option linter.unusedVariables false
set_option linter.unusedSimpArgs false

def openS (s : Sym) : Bool := !(s.static || outK s)
def homeV (u : Nat) (s : Sym) : Value := .agg #[.int .i64 u, .string s.name, .int .i64 s.kind, .bool s.static, .int .i64 s.pos, .int .i64 s.size, .string s.sign, .int .i64 s.frame]
def symsOf (os : List Obj) (u : Nat) : List Sym := (os[u]?).elim [] fun o => o.syms
def openOne (u : Nat) (s : Sym) : List (List UInt8 × Value) := if openS s then [(nameOf s, homeV u s)] else []
def openIn (u : Nat) (l : List Sym) : List (List UInt8 × Value) := l.flatMap (openOne u)
def opens (os : List Obj) : Nat → List (List UInt8 × Value)
  | 0 => []
  | u + 1 => opens os u ++ openIn u (symsOf os u)
/-- .. ahead of a symbol -/
def opensAt (os : List Obj) (u i : Nat) : List (List UInt8 × Value) := opens os u ++ openIn u ((symsOf os u).take i)
theorem openIn_succ (u : Nat) (l : List Sym) (i : Nat) (h : i < l.length) : openIn u (l.take (i + 1)) = openIn u (l.take i) ++ openOne u l[i] := by
  unfold openIn
  rw [List.take_succ_eq_append_getElem h, List.flatMap_append]
  simp
theorem opensAt_zero (os : List Obj) (u : Nat) : opensAt os u 0 = opens os u := by simp [opensAt, openIn]
theorem opensAt_all (os : List Obj) (u : Nat) : opensAt os u (symsOf os u).length = opens os (u + 1) := by
  unfold opensAt
  rw [List.take_length]
  rfl
theorem symsOf_at {os : List Obj} {u : Nat} (h : u < os.length) : symsOf os u = os[u].syms := by
  unfold symsOf
  rw [List.getElem?_eq_getElem h]
  rfl
theorem opensAt_succ {os : List Obj} {u i : Nat} {s : Sym} (hs : symAt os u i = some s) : opensAt os u (i + 1) = opensAt os u i ++ openOne u s := by
  obtain ⟨hu, hi, rfl⟩ := sym_mem hs
  unfold opensAt
  rw [symsOf_at hu, openIn_succ u _ i hi, List.append_assoc]
theorem mem_openIn {u : Nat} {l : List Sym} {x : List UInt8 × Value} : x ∈ openIn u l ↔ ∃ k, ∃ hk : k < l.length, openS l[k] = true ∧ x = (nameOf l[k], homeV u l[k]) := by
  unfold openIn
  rw [List.mem_flatMap]
  constructor
  · rintro ⟨s, hs, hx⟩
    obtain ⟨k, hk, rfl⟩ := List.getElem_of_mem hs
    unfold openOne at hx
    split at hx
    · exact ⟨k, hk, by assumption, by simpa using hx⟩
    · cases hx
  · rintro ⟨k, hk, h1, rfl⟩
    refine ⟨_, List.getElem_mem hk, ?_⟩
    unfold openOne
    rw [if_pos h1]
    simp
theorem mem_opens {os : List Obj} {u : Nat} {x : List UInt8 × Value} : x ∈ opens os u ↔ ∃ v k s, v < u ∧ symAt os v k = some s ∧ openS s = true ∧ x = (nameOf s, homeV v s) := by
  induction u with
  | zero => simp [opens]
  | succ u ih =>
    rw [opens, List.mem_append, ih, mem_openIn]
    constructor
    · rintro (⟨v, k, s, h1, h2⟩ | ⟨k, hk, h1, h2⟩)
      · exact ⟨v, k, s, by omega, h2⟩
      · by_cases hu : u < os.length
        · have e := symsOf_at hu
          refine ⟨u, k, (symsOf os u)[k], by omega, ?_, h1, h2⟩
          have := sym_of hu (i := k) (by rw [← e]; exact hk)
          rw [this]
          simp [e]
        · unfold symsOf at hk
          rw [List.getElem?_eq_none (by omega)] at hk
          simp at hk
    · rintro ⟨v, k, s, h1, h2, h3, h4⟩
      by_cases e : v = u
      · subst e
        obtain ⟨hu, hi, rfl⟩ := sym_mem h2
        have e := symsOf_at hu
        exact .inr ⟨k, by rw [e]; exact hi, by simpa [e] using h3, by simpa [e] using h4⟩
      · exact .inl ⟨v, k, s, by omega, h2, h3, h4⟩
theorem mem_opensAt {os : List Obj} {u i : Nat} {x : List UInt8 × Value} (hu : u < os.length) : x ∈ opensAt os u i ↔ ∃ v k s, (v < u ∨ (v = u ∧ k < i)) ∧ symAt os v k = some s ∧ openS s = true ∧ x = (nameOf s, homeV v s) := by
  unfold opensAt
  rw [List.mem_append, mem_opens, mem_openIn]
  have e := symsOf_at hu
  constructor
  · rintro (⟨v, k, s, h1, h2⟩ | ⟨k, hk, h1, h2⟩)
    · exact ⟨v, k, s, .inl h1, h2⟩
    · have hk' : k < i ∧ k < os[u].syms.length := by
        rw [List.length_take, e] at hk
        omega
      refine ⟨u, k, os[u].syms[k]'hk'.2, .inr ⟨rfl, hk'.1⟩, sym_of hu hk'.2, ?_, ?_⟩
      · simpa [e] using h1
      · simpa [e] using h2
  · rintro ⟨v, k, s, h1 | ⟨rfl, h1⟩, h2, h3, h4⟩
    · exact .inl ⟨v, k, s, h1, h2, h3, h4⟩
    · obtain ⟨hu, hi, rfl⟩ := sym_mem h2
      exact .inr ⟨k, by rw [List.length_take, e]; omega, by simpa [e] using h3, by simpa [e] using h4⟩

/-! ## Kinds; names that differ -/
theorem symsGo_each {seen : List (List UInt8)} {c d : Int} {l : List Sym} (h : (symsGo seen c d l).isSome) : (∀ s ∈ l, outK s = !ownK s) ∧ (∀ s ∈ l, nameOf s ∉ seen) ∧ (names l).Nodup := by
  induction l generalizing seen c d with
  | nil => simp [names]
  | cons s r ih =>
    rw [symsGo] at h
    cases e : symOk seen c d s with
    | none => rw [e] at h; cases h
    | some x =>
      rw [e] at h
      obtain ⟨h1, h2, h3⟩ := ih h
      have ht := symOk_take e
      have hk : outK s = !ownK s := by
        unfold take at ht
        unfold outK ownK
        by_cases k1 : s.kind = 3
        · simp [k1]
        · by_cases k2 : s.kind = 4
          · simp [k2]
          · rw [if_neg (by omega)] at ht
            split at ht
            · cases ht
            · split at ht
              · rename_i k3; simp [k3]
              · split at ht
                · rename_i k4; simp [k4]
                · cases ht
      have hn : nameOf s ∉ seen := by
        unfold symOk at e
        split at e
        · rename_i hc
          simp only [Bool.and_eq_true, Bool.not_eq_true'] at hc
          intro hm
          have := hc.1.2
          rw [List.contains_eq_mem, decide_eq_false_iff_not] at this
          exact this hm
        · cases e
      refine ⟨?_, ?_, ?_⟩
      · intro x hx
        rcases List.mem_cons.1 hx with rfl | hx
        · exact hk
        · exact h1 x hx
      · intro x hx
        rcases List.mem_cons.1 hx with rfl | hx
        · exact hn
        · exact fun hm => h2 x hx (List.mem_append_left _ hm)
      · unfold names
        rw [List.map_cons, List.nodup_cons]
        refine ⟨?_, h3⟩
        intro hm
        obtain ⟨y, hy, e⟩ := List.mem_map.1 hm
        refine h2 y hy ?_
        rw [List.mem_append]
        exact .inr (List.mem_singleton.2 e)
theorem mayB_each {o : Obj} (h : mayB o = true) : (∀ s ∈ o.syms, outK s = !ownK s) ∧ (names o.syms).Nodup := by
  unfold mayB at h
  rw [Bool.and_eq_true] at h
  have hs : (symsGo [] 0 0 o.syms).isSome := by
    cases e : symsGo [] 0 0 o.syms with
    | none => rw [e] at h; simp at h
    | some x => rfl
  have := symsGo_each hs
  exact ⟨this.1, this.2.2⟩
theorem openS_own {s : Sym} (h : outK s = !ownK s) : openS s = (ownK s && !s.static) := by
  unfold openS
  rw [h]
  cases ownK s <;> cases s.static <;> rfl
structure AllMay (os : List Obj) : Prop where
  may : ∀ o ∈ os, mayB o = true
theorem AllMay.kind {os : List Obj} (h : AllMay os) {u i : Nat} {s : Sym} (hs : symAt os u i = some s) : outK s = !ownK s := by
  obtain ⟨hu, hi, rfl⟩ := sym_mem hs
  exact (mayB_each (h.may _ (List.getElem_mem hu))).1 _ (List.getElem_mem hi)
theorem AllMay.differ {os : List Obj} (h : AllMay os) {u i j : Nat} {s t : Sym} (hs : symAt os u i = some s) (ht : symAt os u j = some t) (e : nameOf s = nameOf t) : i = j := by
  obtain ⟨hu, hi, rfl⟩ := sym_mem hs
  obtain ⟨_, hj, rfl⟩ := sym_mem ht
  have hn := (mayB_each (h.may _ (List.getElem_mem hu))).2
  have hi' : i < (names os[u].syms).length := by unfold names; rw [List.length_map]; exact hi
  have hj' : j < (names os[u].syms).length := by unfold names; rw [List.length_map]; exact hj
  have ee : (names os[u].syms)[i] = (names os[u].syms)[j] := by
    simp only [names, List.getElem_map]
    exact e
  have hp := List.pairwise_iff_getElem.1 hn
  rcases Nat.lt_trichotomy i j with h1 | h1 | h1
  · exact absurd ee (hp i j hi' hj' h1)
  · exact h1
  · exact absurd ee.symm (hp j i hj' hi' h1)

/-! ## Twice? -/
theorem twice_dup {os : List Obj} (h : AllMay os) {u i : Nat} {s : Sym} (hs : symAt os u i = some s) (ho : openS s = true) (hm : nameOf s ∈ (opensAt os u i).map Prod.fst) : twiceF os u i s = some ((u : Int), 5, (i : Int)) := by
  have hk := h.kind hs
  obtain ⟨hu, hi, he⟩ := sym_mem hs
  obtain ⟨x, hx, hxn⟩ := List.mem_map.1 hm
  obtain ⟨v, k, t, hb, ht, hot, rfl⟩ := (mem_opensAt hu).1 hx
  have hvu : v < u := by
    rcases hb with hb | ⟨rfl, hb⟩
    · exact hb
    · have := h.differ ht hs hxn
      omega
  have hkt := h.kind ht
  rw [openS_own hkt, Bool.and_eq_true, Bool.not_eq_true'] at hot
  obtain ⟨hv, hk2, rfl⟩ := sym_mem ht
  obtain ⟨v', k', h1, h2, _⟩ := home_le hv hk2 hot.1 hot.2
  unfold twiceF
  rw [if_pos (by rw [← openS_own hk]; exact ho)]
  simp only at hxn
  rw [← hxn, h1]
  simp only
  rw [if_pos (by omega)]
theorem twice_fresh {os : List Obj} (h : AllMay os) {u i : Nat} {s : Sym} (hs : symAt os u i = some s) (ho : openS s = true) (hm : nameOf s ∉ (opensAt os u i).map Prod.fst) : twiceF os u i s = none := by
  have hk := h.kind hs
  obtain ⟨hu, hi, he⟩ := sym_mem hs
  have hos := ho
  rw [openS_own hk, Bool.and_eq_true, Bool.not_eq_true'] at hos
  rw [← he] at hos
  obtain ⟨v, k, h1, h2, _⟩ := home_le hu hi hos.1 hos.2
  rw [he] at h1
  unfold twiceF
  rw [if_pos (by rw [← openS_own hk]; exact ho), h1]
  simp only
  rw [if_neg]
  intro hlt
  obtain ⟨o, hv, rfl, hk2, a1, a2, a3⟩ := home_sym h1
  have hsv := sym_of hv hk2
  refine hm (List.mem_map.2 ⟨_, (mem_opensAt hu).2 ⟨v, k, _, .inl hlt, hsv, ?_, rfl⟩, a3⟩)
  rw [openS_own (h.kind hsv), a1, a2]
  rfl
theorem twice_shut {os : List Obj} (h : AllMay os) {u i : Nat} {s : Sym} (hs : symAt os u i = some s) (ho : openS s = false) : twiceF os u i s = none := by
  have hk := h.kind hs
  unfold twiceF
  rw [if_neg (by rw [← openS_own hk, ho]; simp)]

/-! ## The homes, as a map -/
def putAll (L : List (List UInt8 × Value)) : DataW Value := L.foldl (fun D x => D.put (.string x.1) (.held x.2)) (.map [])
theorem putAll_snoc (L : List (List UInt8 × Value)) (n : List UInt8) (v : Value) : putAll (L ++ [(n, v)]) = (putAll L).put (.string n) (.held v) := by
  unfold putAll
  rw [List.foldl_append]
  rfl
theorem putAll_from (L : List (List UInt8 × Value)) (hn : (L.map Prod.fst).Nodup) (D : DataW Value) (hD : Maps.IsMap D) (k : List UInt8) (z : DataW Value) :
    (L.foldl (fun D x => D.put (.string x.1) (.held x.2)) D).atKey (.string k) z = match L.lookup k with | some x => .held x | none => D.atKey (.string k) z := by
  induction L generalizing D with
  | nil => rfl
  | cons x l ih =>
    obtain ⟨n, v⟩ := x
    rw [List.map_cons, List.nodup_cons] at hn
    rw [List.foldl_cons, ih hn.2 _ (hD.put _ _)]
    by_cases e : k = n
    · subst e
      have hl : l.lookup k = none := by
        rw [List.lookup_eq_none_iff]
        intro p hp
        rw [bne_iff_ne]
        intro e
        exact hn.1 (List.mem_map.2 ⟨p, hp, e.symm⟩)
      rw [hl, List.lookup_cons_self]
      simp only
      exact Maps.atKey_put_same hD (k := .string k) (by trivial) (.held v) z
    · have hl : ((n, v) :: l).lookup k = l.lookup k := by
        rw [List.lookup_cons, beq_eq_false_iff_ne.2 e]
      rw [hl]
      cases l.lookup k with
      | some y => rfl
      | none => exact Maps.atKey_put_other (k := .string n) (k' := .string k) (by intro h; injection h with h; exact e h) (.held v) z
theorem putAll_at (L : List (List UInt8 × Value)) (hn : (L.map Prod.fst).Nodup) (k : List UInt8) (z : DataW Value) : (putAll L).atKey (.string k) z = match L.lookup k with | some x => .held x | none => z := by
  unfold putAll
  rw [putAll_from L hn _ Maps.isMap_empty k z]
  rfl
theorem lookup_mem {L : List (List UInt8 × Value)} (hn : (L.map Prod.fst).Nodup) {k : List UInt8} {v : Value} (h : (k, v) ∈ L) : L.lookup k = some v := by
  induction L with
  | nil => cases h
  | cons x l ih =>
    obtain ⟨n, y⟩ := x
    rw [List.map_cons, List.nodup_cons] at hn
    rcases List.mem_cons.1 h with e | h
    · injection e with e1 e2
      subst e1 e2
      exact List.lookup_cons_self
    · have hne : k ≠ n := fun e => hn.1 (e ▸ List.mem_map.2 ⟨_, h, rfl⟩)
      rw [List.lookup_cons, beq_eq_false_iff_ne.2 hne]
      exact ih hn.2 h
theorem lookup_none {L : List (List UInt8 × Value)} {k : List UInt8} (h : k ∉ L.map Prod.fst) : L.lookup k = none := by
  rw [List.lookup_eq_none_iff]
  intro p hp
  rw [bne_iff_ne]
  intro e
  exact h (List.mem_map.2 ⟨p, hp, e.symm⟩)
/-- what the homes tell of a name, when all are in -/
theorem homes_some {os : List Obj} (h : AllMay os) (hn : ((opens os os.length).map Prod.fst).Nodup) {nm : List UInt8} {v k : Nat} {s : Sym} (hh : home os nm = some (v, k)) (hs : symAt os v k = some s) : (opens os os.length).lookup nm = some (homeV v s) := by
  obtain ⟨o, hv, rfl, hk2, a1, a2, a3⟩ := home_sym hh
  obtain ⟨_, _, rfl⟩ := sym_mem hs
  refine lookup_mem hn (mem_opens.2 ⟨v, k, _, hv, hs, ?_, ?_⟩)
  · rw [openS_own (h.kind hs), a1, a2]; rfl
  · rw [a3]
theorem homes_none {os : List Obj} (h : AllMay os) {nm : List UInt8} (hh : home os nm = none) : (opens os os.length).lookup nm = none := by
  refine lookup_none (fun hm => ?_)
  obtain ⟨x, hx, e⟩ := List.mem_map.1 hm
  obtain ⟨v, k, s, hv, hs, ho, rfl⟩ := mem_opens.1 hx
  rw [openS_own (h.kind hs), Bool.and_eq_true, Bool.not_eq_true'] at ho
  obtain ⟨_, hi, rfl⟩ := sym_mem hs
  obtain ⟨v', k', h1, _⟩ := home_le hv hi ho.1 ho.2
  simp only at e
  rw [e, hh] at h1
  cases h1

end Go.Proofs.Ythnehhidlaggeaa.Ob

/-! Plain facts about the joining of objects: the code in its making, word by word: no program in sight. -/
namespace Go.Proofs.Ythnehhidlaggeaa.Ob
set_option linter.unusedVariables false
set_option linter.unusedSimpArgs false

/-! ## Where functions lie in their object -/
theorem symsGo_fun {seen : List (List UInt8)} {c d c' d' : Int} {l : List Sym} (h : symsGo seen c d l = some (c', d')) : c ≤ c' ∧ ∀ s ∈ l, s.kind = 1 → s.pos ≤ c' := by
  induction l generalizing seen c d with
  | nil =>
    simp only [symsGo, Option.some.injEq, Prod.mk.injEq] at h
    exact ⟨by omega, fun s hs => by cases hs⟩
  | cons x r ih =>
    rw [symsGo] at h
    cases e : symOk seen c d x with
    | none => rw [e] at h; cases h
    | some y =>
      obtain ⟨c1, d1⟩ := y
      rw [e] at h
      obtain ⟨h1, h2⟩ := ih h
      have ht := symOk_take e
      have hl := take_le ht
      refine ⟨by omega, fun s hs hk => ?_⟩
      rcases List.mem_cons.1 hs with rfl | hs
      · have hp : s.pos = c := by
          unfold take at ht
          rw [if_neg (by omega)] at ht
          repeat' split at ht
          all_goals first
            | (rename_i hh; exact hh.1)
            | cases ht
            | omega
        omega
      · exact h2 s hs hk
theorem mayB_fun {o : Obj} (h : mayB o = true) : ∀ s ∈ o.syms, s.kind = 1 → s.pos ≤ o.code.length := by
  unfold mayB at h
  rw [Bool.and_eq_true] at h
  obtain ⟨_, h⟩ := h
  cases e : symsGo [] 0 0 o.syms with
  | none => rw [e] at h; cases h
  | some x =>
    obtain ⟨c, d⟩ := x
    rw [e] at h
    simp only [Bool.and_eq_true, beq_iff_eq] at h
    intro s hs hk
    have := (symsGo_fun e).2 s hs hk
    omega
theorem LinkOk.main_le {os : List Obj} (h : LinkOk os) : 0 ≤ addrMain os ∧ addrMain os ≤ 2 + codeB os os.length := by
  obtain ⟨v, k, s, h1, h2, h3, h4⟩ := h.main
  obtain ⟨hu, hi, rfl⟩ := sym_mem h2
  have hp := (mayB_fine (h.may _ (List.getElem_mem hu))).syms _ (List.getElem_mem hi)
  have hf := mayB_fun (h.may _ (List.getElem_mem hu)) _ (List.getElem_mem hi) h3
  have e : addrMain os = 2 + codeB os v + os[v].syms[k].pos := by
    unfold addrMain
    rw [h1]
    simp only [h2]
    unfold addrOwn
    rw [if_pos h3]
  have hs := codeB_succ os v hu
  have hm := codeB_mono os (v + 1) os.length hu (Nat.le_refl _)
  have := hp.pos
  omega

/-! ## The code before a word is turned -/
def baseC (os : List Obj) (n : Nat) : List Int := [Cp.encN 21 0 0 0 0, Cp.encN 25 0 0 0 0] ++ codeTo os n
theorem codeTo_at (os : List Obj) (u p : Nat) (hu : u < os.length) (hp : p < os[u].code.length) : ∀ n, u < n → n ≤ os.length → (codeTo os n).getD (codeB os u + p) 0 = os[u].code.getD p 0
  | 0, h, _ => by omega
  | n + 1, h, hn => by
    rw [codeTo_succ os n (by omega)]
    by_cases e : u = n
    · subst e
      rw [List.getD_eq_getElem?_getD, List.getElem?_append_right (by rw [codeTo_len os u (by omega)]; omega), codeTo_len os u (by omega), Nat.add_sub_cancel_left, List.getD_eq_getElem?_getD]
    · have hlt : codeB os u + p < (codeTo os n).length := by
        rw [codeTo_len os n (by omega)]
        have h1 := codeB_succ os u hu
        have h2 := codeB_mono os (u + 1) n (by omega) (by omega)
        omega
      rw [List.getD_eq_getElem?_getD, List.getElem?_append_left hlt, ← List.getD_eq_getElem?_getD]
      exact codeTo_at os u p hu hp n (by omega) (by omega)
theorem baseC_at (os : List Obj) (u p : Nat) (hu : u < os.length) (hp : p < os[u].code.length) : (baseC os os.length).getD (2 + codeB os u + p) 0 = os[u].code.getD p 0 := by
  unfold baseC
  rw [List.getD_eq_getElem?_getD, List.getElem?_append_right (by simp; omega), show 2 + codeB os u + p - [Cp.encN 21 0 0 0 0, Cp.encN 25 0 0 0 0].length = codeB os u + p by simp; omega, ← List.getD_eq_getElem?_getD]
  exact codeTo_at os u p hu hp _ hu (Nat.le_refl _)
theorem baseC_len (os : List Obj) : (baseC os os.length).length = 2 + codeB os os.length := by
  unfold baseC
  rw [List.length_append, codeTo_len os _ (Nat.le_refl _)]
  rfl
theorem getD_set_ne {l : List Int} {i j : Nat} (h : i ≠ j) (x : Int) : (l.set i x).getD j 0 = l.getD j 0 := by
  rw [List.getD_eq_getElem?_getD, List.getElem?_set_ne h, ← List.getD_eq_getElem?_getD]
theorem relsGo_last {code : List Int} {ns : Nat} {l : List Rel} (h : relsGo code ns (-1) l = true) {k : Nat} (hk : k < l.length) : lastOf (l.take k) < l[k].pos ∧ l[k].pos < code.length ∧ 0 ≤ l[k].pos := by
  have e : l = l.take k ++ l.drop k := (List.take_append_drop k l).symm
  have hd : l.drop k = l[k] :: l.drop (k + 1) := List.drop_eq_getElem_cons hk
  rw [e, relsGo_append, Bool.and_eq_true] at h
  have h2 := h.2
  rw [hd, relsGo, Bool.and_eq_true] at h2
  have h3 := h2.1
  unfold relOk at h3
  simp only [Bool.and_eq_true, decide_eq_true_eq] at h3
  obtain ⟨p, h4, h5⟩ := relsGo_at (by rw [e]; rw [relsGo_append, Bool.and_eq_true]; exact h) k hk
  unfold relOk at h4
  simp only [Bool.and_eq_true, decide_eq_true_eq] at h4
  refine ⟨?_, h3.1.1.1.1.1.2, by omega⟩
  unfold lastOf
  exact h3.1.1.1.1.1.1
theorem lastOf_succ {l : List Rel} {k : Nat} (hk : k < l.length) : lastOf (l.take (k + 1)) = l[k].pos := by
  unfold lastOf
  rw [List.take_succ_eq_append_getElem hk, List.getLast?_append]
  simp
theorem relStep_set {os : List Obj} {u k : Nat} {r : Rel} {L L' : List Int} (h : relStep os u k r L = .ok L') : ∃ x, L' = L.set (2 + codeB os u + r.pos.toNat) x := by
  unfold relStep at h
  split at h
  · cases h
  · injection h with h
    exact ⟨_, h.symm⟩
theorem relsOf_at {os : List Obj} {u : Nat} (hu : u < os.length) : relsOf os u = os[u].rels := by
  unfold relsOf
  rw [List.getElem?_eq_getElem hu]
  rfl
theorem relK_keep {os : List Obj} (hm : ∀ o ∈ os, mayB o = true) {base L1 : List Int} {u : Nat} (hu : u < os.length) (h1 : (∀ j : Nat, 2 + codeB os u ≤ j → L1.getD j 0 = base.getD j 0) ∧ L1.getD 0 0 = base.getD 0 0) : ∀ {k : Nat} {L2 : List Int}, k ≤ (relsOf os u).length → relK os u L1 k = .ok L2 →
    (∀ j : Nat, (2 : Int) + codeB os u + lastOf ((relsOf os u).take k) < j → L2.getD j 0 = base.getD j 0) ∧ L2.getD 0 0 = base.getD 0 0
  | 0, L2, hk, h => by
    injection h with h
    subst h
    refine ⟨fun j hj => h1.1 j ?_, h1.2⟩
    simp only [List.take_zero, lastOf, List.getLast?_nil] at hj
    omega
  | k + 1, L2, hk, h => by
    rw [relK] at h
    split at h
    · cases h
    · rename_i L3 h3
      obtain ⟨a1, a2⟩ := relK_keep hm hu h1 (by omega) h3
      have hk' : k < (relsOf os u).length := hk
      rw [List.getD_eq_getElem?_getD, List.getElem?_eq_getElem hk', Option.getD_some] at h
      obtain ⟨x, rfl⟩ := relStep_set h
      have hg := relsGo_last (mayB_rels (hm _ (List.getElem_mem hu))) (k := k) (by rw [← relsOf_at hu]; exact hk')
      have he := relsOf_at hu
      rw [lastOf_succ hk']
      have e2 : (relsOf os u)[k] = os[u].rels[k]'(by rw [← he]; exact hk') := by simp only [he]
      rw [e2]
      refine ⟨fun j hj => ?_, ?_⟩
      · rw [getD_set_ne (by omega)]
        refine a1 j ?_
        rw [he]
        omega
      · rw [getD_set_ne (by omega)]
        exact a2
theorem relU_keep {os : List Obj} (hm : ∀ o ∈ os, mayB o = true) {base : List Int} : ∀ {u : Nat} {L : List Int}, u ≤ os.length → relU os base u = .ok L → (∀ j : Nat, 2 + codeB os u ≤ j → L.getD j 0 = base.getD j 0) ∧ L.getD 0 0 = base.getD 0 0
  | 0, L, _, h => by
    injection h with h
    subst h
    exact ⟨fun _ _ => rfl, rfl⟩
  | u + 1, L, hu, h => by
    rw [relU] at h
    split at h
    · cases h
    · rename_i L1 h1
      obtain ⟨a1, a2⟩ := relK_keep hm hu (relU_keep hm (by omega) h1) (Nat.le_refl _) h
      refine ⟨fun j hj => a1 j ?_, a2⟩
      rw [codeB_succ os u hu] at hj
      rw [List.take_length]
      have he := relsOf_at hu
      rw [he]
      have hlast : lastOf os[u].rels < os[u].code.length := by
        by_cases h0 : os[u].rels.length = 0
        · rw [List.eq_nil_of_length_eq_zero h0]
          simp only [lastOf, List.getLast?_nil]
          omega
        · have hk : os[u].rels.length - 1 < os[u].rels.length := by omega
          have := (relsGo_last (mayB_rels (hm _ (List.getElem_mem hu))) hk).2.1
          have e := lastOf_succ hk
          rw [show os[u].rels.length - 1 + 1 = os[u].rels.length by omega, List.take_length] at e
          rw [e]
          exact this
      omega
/-- the word that a relocation turns is still as its object has it -/
theorem rel_word {os : List Obj} (hm : ∀ o ∈ os, mayB o = true) {u k : Nat} {L1 L2 : List Int} (hu : u < os.length) (hk : k < os[u].rels.length) (h1 : relU os (baseC os os.length) u = .ok L1) (h2 : relK os u L1 k = .ok L2) :
    L2.getD (2 + codeB os u + os[u].rels[k].pos.toNat) 0 = os[u].code.getD os[u].rels[k].pos.toNat 0 := by
  have hg := relsGo_last (mayB_rels (hm _ (List.getElem_mem hu))) hk
  have he := relsOf_at hu
  rw [(relK_keep hm hu (relU_keep hm (by omega) h1) (by rw [he]; omega) h2).1 _ (by rw [he]; omega)]
  exact baseC_at os u _ hu (by omega)

/-! ## The first word -/
def setE (y : Int) : Except Trb (List Int) → Except Trb (List Int)
  | .error e => .error e
  | .ok L => .ok (L.set 0 y)
theorem relStep_set0 (os : List Obj) (u k : Nat) (r : Rel) (L : List Int) (y : Int) : relStep os u k r (L.set 0 y) = setE y (relStep os u k r L) := by
  unfold relStep
  split
  · rfl
  · simp only [setE]
    rw [List.set_comm _ _ (by omega)]
theorem relK_set0 (os : List Obj) (u : Nat) (L : List Int) (y : Int) : ∀ k, relK os u (L.set 0 y) k = setE y (relK os u L k)
  | 0 => rfl
  | k + 1 => by
    rw [relK, relK, relK_set0 os u L y k]
    cases relK os u L k with
    | error e => rfl
    | ok L' => exact relStep_set0 os u k _ L' y
theorem relU_set0 (os : List Obj) (L : List Int) (y : Int) : ∀ u, relU os (L.set 0 y) u = setE y (relU os L u)
  | 0 => rfl
  | u + 1 => by
    rw [relU, relU, relU_set0 os L y u]
    cases relU os L u with
    | error e => rfl
    | ok L' => exact relK_set0 os u L' y _
theorem code0_base (os : List Obj) : code0 os = (baseC os os.length).set 0 (Cp.encN 21 0 0 0 (addrMain os % 65536)) := rfl
theorem relU_code0 (os : List Obj) (u : Nat) : relU os (code0 os) u = setE (Cp.encN 21 0 0 0 (addrMain os % 65536)) (relU os (baseC os os.length) u) := by
  rw [code0_base, relU_set0]
theorem relStep_code {os : List Obj} {u k : Nat} {r : Rel} {L : List Int} {t : Trb} (h : relStep os u k r L = .error t) : t.2.1 ≠ 0 := by
  unfold relStep at h
  split at h
  · injection h with h
    rw [← h]
    simp
  · cases h
theorem relK_code {os : List Obj} {u : Nat} {L : List Int} {t : Trb} : ∀ {k : Nat}, relK os u L k = .error t → t.2.1 ≠ 0
  | 0, h => by cases h
  | k + 1, h => by
    rw [relK] at h
    split at h
    · rename_i e he
      injection h with h
      subst h
      exact relK_code he
    · exact relStep_code h
theorem relU_code {os : List Obj} {L : List Int} {t : Trb} : ∀ {u : Nat}, relU os L u = .error t → t.2.1 ≠ 0
  | 0, h => by cases h
  | u + 1, h => by
    rw [relU] at h
    split at h
    · rename_i e he
      injection h with h
      subst h
      exact relU_code he
    · exact relK_code h
theorem link_code {os : List Obj} {mem : Int} {t : Trb} (h : linkR os mem = .error t) : t.2.1 ≠ 0 := by
  unfold linkR at h
  split at h
  · split at h
    · split at h
      · rename_i e he
        injection h with h
        subst h
        exact relU_code he
      · cases h
    · injection h with h
      rw [← h]
      decide
  · rename_i hc
    injection h with h
    rw [← h]
    intro h0
    exact hc (checkT_code os h0)
theorem link_oks {os : List Obj} {mem : Int} {xc xd : List Int} {xr : List Rng} (h : linkR os mem = .ok (xc, xd, xr)) : LinkOk os ∧ xr = rngTo os os.length := by
  unfold linkR at h
  split at h
  · rename_i hc
    split at h
    · split at h
      · cases h
      · injection h with h
        injection h with h1 h2
        injection h2 with h2 h3
        exact ⟨link_ok (by rw [hc]; rfl), h3.symm⟩
    · cases h
  · cases h
theorem link_sizes {os : List Obj} {mem : Int} {xc xd : List Int} {xr : List Rng} (h : linkR os mem = .ok (xc, xd, xr)) (hn : os.length ≤ 4) : xc.length ≤ 10000000 ∧ xd.length ≤ 10000000 ∧ xr.length ≤ 10000000 := by
  obtain ⟨hok, hr⟩ := link_oks h
  unfold linkR at h
  split at h
  · split at h
    · split at h
      · cases h
      · rename_i L hL
        injection h with h
        injection h with h1 h2
        injection h2 with h2 h3
        have h4 := relU_len hL
        rw [code0_len] at h4
        have h5 := codeB_le os hok.few os.length (Nat.le_refl _)
        have h6 := dataB_le os hok.few os.length (Nat.le_refl _)
        have h7 := dataTo_len os os.length (Nat.le_refl _)
        have h8 := rngTo_len os hok.few os.length (Nat.le_refl _)
        subst h1 h2 h3
        omega
    · cases h
  · cases h
theorem dec_call0 : Cp.dec (Cp.encN 21 0 0 0 0) = some (21, 0, 0, 0, 0) := by decide
theorem enc_call0 : 0 ≤ Cp.encN 21 0 0 0 0 ∧ Cp.encN 21 0 0 0 0 ≤ 4294967295 := by decide

end Go.Proofs.Ythnehhidlaggeaa.Ob
