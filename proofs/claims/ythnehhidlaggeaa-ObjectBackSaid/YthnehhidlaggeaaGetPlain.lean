/- Plain facts: reading an object's bytes: no program in sight. -/
import Derived.Test.YthnehhidlaggeaaObjBytes
import Derived.RowKit
namespace Go.Proofs.Ythnehhidlaggeaa.Ob
open Go.RowKit (wrap32)
set_option linter.unusedVariables false
set_option linter.unusedSimpArgs false

def be32 (l : List UInt8) : Int := (((l.getD 0 0).toNat * 256 + (l.getD 1 0).toNat) * 256 + (l.getD 2 0).toNat) * 256 + (l.getD 3 0).toNat
/-- the next number -/
def num (l : List UInt8) : Option (Int × List UInt8) := if l.length < 4 then none else some (be32 l, l.drop 4)
/-- some parts, one behind the other -/
def many {α : Type} (f : List UInt8 → Option (α × List UInt8)) : Nat → List UInt8 → Option (List α × List UInt8)
  | 0, l => some ([], l)
  | k + 1, l => match many f k l with
    | none => none
    | some (xs, r) => match f r with
      | none => none
      | some (x, r') => some (xs ++ [x], r')
/-- how many parts there are, each of so many bytes at least -/
def cnt (least : Nat) (l : List UInt8) : Option (Nat × List UInt8) := match num l with
  | none => none
  | some (n, r) => if r.length / least < n.toNat then none else some (n.toNat, r)
def txt (l : List UInt8) : Option (List UInt8 × List UInt8) := match num l with
  | none => none
  | some (n, r) => if r.length < n.toNat then none else some (r.take n.toNat, r.drop n.toNat)
def bstr (l : List UInt8) : ByteArray := ⟨l.toArray⟩
/-- a symbol's parts, as they stand in bytes -/
structure Raw where
  name : List UInt8
  kind : Int
  static : Int
  pos : Int
  size : Int
  sign : List UInt8
  frame : Int
def Raw.sym (x : Raw) : Sym := ⟨bstr x.name, x.kind, x.static == 1, x.pos, x.size, bstr x.sign, x.frame⟩
def raw (l : List UInt8) : Option (Raw × List UInt8) := match txt l with
  | none => none
  | some (a, r1) => match num r1 with
    | none => none
    | some (b, r2) => match num r2 with
      | none => none
      | some (c, r3) => match num r3 with
        | none => none
        | some (d, r4) => match num r4 with
          | none => none
          | some (e, r5) => match txt r5 with
            | none => none
            | some (f, r6) => match num r6 with
              | none => none
              | some (g, r7) => some (⟨a, b, c, d, e, f, g⟩, r7)
/-- the program lets no other flags be -/
def raw1 (l : List UInt8) : Option (Raw × List UInt8) := match raw l with
  | none => none
  | some (x, r) => if 1 < x.static then none else some (x, r)
def rel (l : List UInt8) : Option (Rel × List UInt8) := match num l with
  | none => none
  | some (a, r1) => match num r1 with
    | none => none
    | some (b, r2) => match num r2 with
      | none => none
      | some (c, r3) => some (⟨a, b, c⟩, r3)
def objOf (c d : List Int) (s : List Raw) (r : List Rel) : Obj := ⟨c, d.map wrap32, s.map Raw.sym, r⟩
/-- the program's reading -/
def parse (l : List UInt8) : Option (Obj × List UInt8) := match cnt 4 l with
  | none => none
  | some (n, l1) => match many num n l1 with
    | none => none
    | some (c, l2) => match cnt 4 l2 with
      | none => none
      | some (d', l3) => match many num d' l3 with
        | none => none
        | some (d, l4) => match cnt 28 l4 with
          | none => none
          | some (m, l5) => match many raw1 m l5 with
            | none => none
            | some (s, l6) => match cnt 12 l6 with
              | none => none
              | some (k, l7) => match many rel k l7 with
                | none => none
                | some (r, l8) => some (objOf c d s r, l8)
/-- the reference's reading -/
def rparse (l : List UInt8) : Option (Obj × List UInt8) := match num l with
  | none => none
  | some (n, l1) => match many num n.toNat l1 with
    | none => none
    | some (c, l2) => match num l2 with
      | none => none
      | some (d', l3) => match many num d'.toNat l3 with
        | none => none
        | some (d, l4) => match num l4 with
          | none => none
          | some (m, l5) => match many raw m.toNat l5 with
            | none => none
            | some (s, l6) => match num l6 with
              | none => none
              | some (k, l7) => match many rel k.toNat l7 with
                | none => none
                | some (r, l8) => some (objOf c d s r, l8)

/-! ## Numbers -/
theorem be32_bd (l : List UInt8) : 0 ≤ be32 l ∧ be32 l ≤ 4294967295 := by
  have h0 := (l.getD 0 0).toNat_lt
  have h1 := (l.getD 1 0).toNat_lt
  have h2 := (l.getD 2 0).toNat_lt
  have h3 := (l.getD 3 0).toNat_lt
  unfold be32
  omega
theorem num_bd {l r : List UInt8} {x : Int} (h : num l = some (x, r)) : 0 ≤ x ∧ x ≤ 4294967295 := by
  unfold num at h
  split at h
  · cases h
  · injection h with h
    injection h with h _
    rw [← h]
    exact be32_bd l
theorem byt_ofNat (b : UInt8) (n : Int) (h : n % 256 = b.toNat) : byt n = b := by
  unfold byt
  rw [h, Int.toNat_natCast]
  simp
theorem be4_be32 (a b c d : UInt8) (r : List UInt8) : be4 (be32 (a :: b :: c :: d :: r)) = [a, b, c, d] := by
  have h0 := a.toNat_lt
  have h1 := b.toNat_lt
  have h2 := c.toNat_lt
  have h3 := d.toNat_lt
  unfold be4 be32
  simp only [List.getD_cons_zero, List.getD_cons_succ]
  rw [byt_ofNat a _ (by omega), byt_ofNat b _ (by omega), byt_ofNat c _ (by omega), byt_ofNat d _ (by omega)]
theorem num_bytes {l r : List UInt8} {x : Int} (h : num l = some (x, r)) : l = be4 x ++ r := by
  unfold num at h
  split at h
  · cases h
  · rename_i hl
    injection h with h
    injection h with h1 h2
    subst h1 h2
    match l, hl with
    | a :: b :: c :: d :: r, _ => rw [be4_be32]; rfl
    | [], hl => simp at hl
    | [_], hl => simp at hl
    | [_, _], hl => simp at hl
    | [_, _, _], hl => simp at hl
theorem be32_be4 (x : Int) (r : List UInt8) (h0 : 0 ≤ x) (h1 : x ≤ 4294967295) : be32 (be4 x ++ r) = x := by
  unfold be4 be32
  simp only [List.cons_append, List.getD_cons_zero, List.getD_cons_succ, byt_toNat]
  omega
theorem num_be4 (x : Int) (r : List UInt8) (h0 : 0 ≤ x) (h1 : x ≤ 4294967295) : num (be4 x ++ r) = some (x, r) := by
  unfold num
  rw [if_neg (by rw [List.length_append, be4_len]; omega), be32_be4 x r h0 h1]
  rfl
theorem wrap32_be4 (x : Int) (h0 : 0 ≤ x) (h1 : x ≤ 4294967295) : be4 (wrap32 x) = be4 x := by
  have hw : wrap32 x = x ∨ wrap32 x + 4294967296 = x := by
    unfold wrap32
    omega
  rcases hw with h | h
  · rw [h]
  · rw [← be4_free (wrap32 x), h]

/-! ## Many -/
theorem many_bytes {α : Type} {f : List UInt8 → Option (α × List UInt8)} (enc : α → List UInt8) (hf : ∀ l x r, f l = some (x, r) → l = enc x ++ r) (k : Nat) {l r : List UInt8} {xs : List α} (h : many f k l = some (xs, r)) : l = xs.flatMap enc ++ r ∧ xs.length = k := by
  induction k generalizing xs r with
  | zero =>
    simp only [many, Option.some.injEq, Prod.mk.injEq] at h
    obtain ⟨rfl, rfl⟩ := h
    exact ⟨rfl, rfl⟩
  | succ k ih =>
    rw [many] at h
    rcases e : many f k l with _ | ⟨ys, q⟩
    · rw [e] at h; cases h
    · rw [e] at h
      simp only at h
      rcases e2 : f q with _ | ⟨x, q'⟩
      · rw [e2] at h; cases h
      · rw [e2] at h
        simp only [Option.some.injEq, Prod.mk.injEq] at h
        obtain ⟨rfl, rfl⟩ := h
        obtain ⟨h1, h2⟩ := ih e
        refine ⟨?_, by simp [h2]⟩
        rw [h1, hf _ _ _ e2]
        simp
theorem many_all {α : Type} {f : List UInt8 → Option (α × List UInt8)} (P : α → Prop) (hf : ∀ l x r, f l = some (x, r) → P x) (k : Nat) {l r : List UInt8} {xs : List α} (h : many f k l = some (xs, r)) : ∀ x ∈ xs, P x := by
  induction k generalizing xs r with
  | zero =>
    simp only [many, Option.some.injEq, Prod.mk.injEq] at h
    obtain ⟨rfl, rfl⟩ := h
    intro x hx; cases hx
  | succ k ih =>
    rw [many] at h
    rcases e : many f k l with _ | ⟨ys, q⟩
    · rw [e] at h; cases h
    · rw [e] at h
      simp only at h
      rcases e2 : f q with _ | ⟨x, q'⟩
      · rw [e2] at h; cases h
      · rw [e2] at h
        simp only [Option.some.injEq, Prod.mk.injEq] at h
        obtain ⟨rfl, rfl⟩ := h
        intro y hy
        rcases List.mem_append.1 hy with hy | hy
        · exact ih e y hy
        · simp only [List.mem_singleton] at hy
          subst hy
          exact hf _ _ _ e2
theorem many_of {α : Type} {f : List UInt8 → Option (α × List UInt8)} (enc : α → List UInt8) (xs : List α) (hf : ∀ x ∈ xs, ∀ r, f (enc x ++ r) = some (x, r)) (r : List UInt8) : many f xs.length (xs.flatMap enc ++ r) = some (xs, r) := by
  have key : ∀ k, k ≤ xs.length → many f k (xs.flatMap enc ++ r) = some (xs.take k, (xs.drop k).flatMap enc ++ r) := by
    intro k
    induction k with
    | zero => intro _; rfl
    | succ k ih =>
      intro hk
      rw [many, ih (by omega)]
      simp only
      rw [List.drop_eq_getElem_cons (by omega), List.flatMap_cons, List.append_assoc, hf _ (List.getElem_mem _), List.take_succ_eq_append_getElem (by omega)]
  have := key xs.length (Nat.le_refl _)
  rwa [List.take_length, List.drop_length] at this
theorem many_mono {α : Type} {f g : List UInt8 → Option (α × List UInt8)} (hfg : ∀ l x, f l = some x → g l = some x) (k : Nat) {l : List UInt8} {x : List α × List UInt8} (h : many f k l = some x) : many g k l = some x := by
  induction k generalizing x with
  | zero => exact h
  | succ k ih =>
    rw [many] at h ⊢
    rcases e : many f k l with _ | ⟨ys, q⟩
    · rw [e] at h; cases h
    · rw [e] at h
      rw [ih e]
      simp only at h ⊢
      rcases e2 : f q with _ | ⟨y, q'⟩
      · rw [e2] at h; cases h
      · rw [e2] at h
        rw [hfg _ _ e2]
        exact h
theorem many_none {α : Type} {f : List UInt8 → Option (α × List UInt8)} {k n : Nat} (hkn : k ≤ n) {l : List UInt8} (h : many f k l = none) : many f n l = none := by
  obtain ⟨j, rfl⟩ := Nat.le.dest hkn
  clear hkn
  induction j with
  | zero => exact h
  | succ j ih =>
    rw [Nat.add_succ, many, ih]

/-! ## Texts, symbols, relocations -/
theorem cnt_num {least n : Nat} {l r : List UInt8} (h : cnt least l = some (n, r)) : ∃ x, num l = some (x, r) ∧ x.toNat = n ∧ n ≤ r.length / least := by
  unfold cnt at h
  rcases e : num l with _ | ⟨x, q⟩
  · rw [e] at h; cases h
  · rw [e] at h
    simp only at h
    split at h
    · cases h
    · rename_i hl
      simp only [Option.some.injEq, Prod.mk.injEq] at h
      obtain ⟨rfl, rfl⟩ := h
      exact ⟨x, rfl, rfl, by omega⟩
theorem cnt_be4 (least n : Nat) (r : List UInt8) (hl : 0 < least) (h1 : n ≤ 4294967295) (h : n * least ≤ r.length) : cnt least (be4 n ++ r) = some (n, r) := by
  unfold cnt
  rw [num_be4 _ _ (by omega) (by omega)]
  simp only [Int.toNat_natCast]
  rw [if_neg (by rw [Nat.not_lt, Nat.le_div_iff_mul_le hl]; exact h)]
theorem cnt_bytes {least n : Nat} {l r : List UInt8} (h : cnt least l = some (n, r)) : l = be4 n ++ r := by
  obtain ⟨x, hx, rfl, _⟩ := cnt_num h
  rw [num_bytes hx]
  have := num_bd hx
  rw [show ((x.toNat : Nat) : Int) = x by omega]
def encT (l : List UInt8) : List UInt8 := be4 l.length ++ l
theorem txt_bytes {l a r : List UInt8} (h : txt l = some (a, r)) : l = encT a ++ r ∧ a.length ≤ 4294967295 := by
  unfold txt at h
  rcases e : num l with _ | ⟨x, q⟩
  · rw [e] at h; cases h
  · rw [e] at h
    simp only at h
    split at h
    · cases h
    · rename_i hl
      simp only [Option.some.injEq, Prod.mk.injEq] at h
      obtain ⟨rfl, rfl⟩ := h
      have hb := num_bd e
      have hlen : (q.take x.toNat).length = x.toNat := by rw [List.length_take]; omega
      refine ⟨?_, by omega⟩
      unfold encT
      rw [num_bytes e, hlen, show ((x.toNat : Nat) : Int) = x by omega, List.append_assoc, List.take_append_drop]
theorem txt_enc (a r : List UInt8) (h : a.length ≤ 4294967295) : txt (encT a ++ r) = some (a, r) := by
  unfold txt encT
  rw [List.append_assoc, num_be4 _ _ (by omega) (by omega)]
  simp only [Int.toNat_natCast]
  rw [if_neg (by rw [List.length_append]; omega), List.take_left, List.drop_left]
def encR (x : Raw) : List UInt8 := encT x.name ++ be4 x.kind ++ be4 x.static ++ be4 x.pos ++ be4 x.size ++ encT x.sign ++ be4 x.frame
structure RawIn (x : Raw) : Prop where
  name : x.name.length ≤ 4294967295
  kind : 0 ≤ x.kind ∧ x.kind ≤ 4294967295
  static : 0 ≤ x.static ∧ x.static ≤ 4294967295
  pos : 0 ≤ x.pos ∧ x.pos ≤ 4294967295
  size : 0 ≤ x.size ∧ x.size ≤ 4294967295
  sign : x.sign.length ≤ 4294967295
  frame : 0 ≤ x.frame ∧ x.frame ≤ 4294967295
theorem raw_bytes {l r : List UInt8} {x : Raw} (h : raw l = some (x, r)) : l = encR x ++ r ∧ RawIn x := by
  unfold raw at h
  rcases e1 : txt l with _ | ⟨a, r1⟩
  · rw [e1] at h; cases h
  rw [e1] at h; simp only at h
  rcases e2 : num r1 with _ | ⟨b, r2⟩
  · rw [e2] at h; cases h
  rw [e2] at h; simp only at h
  rcases e3 : num r2 with _ | ⟨c, r3⟩
  · rw [e3] at h; cases h
  rw [e3] at h; simp only at h
  rcases e4 : num r3 with _ | ⟨d, r4⟩
  · rw [e4] at h; cases h
  rw [e4] at h; simp only at h
  rcases e5 : num r4 with _ | ⟨e, r5⟩
  · rw [e5] at h; cases h
  rw [e5] at h; simp only at h
  rcases e6 : txt r5 with _ | ⟨f, r6⟩
  · rw [e6] at h; cases h
  rw [e6] at h; simp only at h
  rcases e7 : num r6 with _ | ⟨g, r7⟩
  · rw [e7] at h; cases h
  rw [e7] at h
  simp only [Option.some.injEq, Prod.mk.injEq] at h
  obtain ⟨rfl, rfl⟩ := h
  obtain ⟨t1, q1⟩ := txt_bytes e1
  obtain ⟨t6, q6⟩ := txt_bytes e6
  refine ⟨?_, ⟨q1, num_bd e2, num_bd e3, num_bd e4, num_bd e5, q6, num_bd e7⟩⟩
  unfold encR
  rw [t1, num_bytes e2, num_bytes e3, num_bytes e4, num_bytes e5, t6, num_bytes e7]
  simp only [List.append_assoc]
theorem raw_enc (x : Raw) (r : List UInt8) (h : RawIn x) : raw (encR x ++ r) = some (x, r) := by
  unfold raw encR
  simp only [List.append_assoc]
  rw [txt_enc _ _ h.name]
  simp only
  rw [num_be4 _ _ h.kind.1 h.kind.2]
  simp only
  rw [num_be4 _ _ h.static.1 h.static.2]
  simp only
  rw [num_be4 _ _ h.pos.1 h.pos.2]
  simp only
  rw [num_be4 _ _ h.size.1 h.size.2]
  simp only
  rw [txt_enc _ _ h.sign]
  simp only
  rw [num_be4 _ _ h.frame.1 h.frame.2]
theorem raw1_raw {l : List UInt8} {x : Raw × List UInt8} (h : raw1 l = some x) : raw l = some x ∧ ¬ 1 < x.1.static := by
  unfold raw1 at h
  rcases e : raw l with _ | ⟨y, r⟩
  · rw [e] at h; cases h
  · rw [e] at h
    simp only at h
    split at h
    · cases h
    · injection h with h
      subst h
      exact ⟨rfl, by assumption⟩
def encL (x : Rel) : List UInt8 := be4 x.pos ++ be4 x.sym ++ be4 x.add
theorem rel_bytes {l r : List UInt8} {x : Rel} (h : rel l = some (x, r)) : l = relBytes x ++ r ∧ (0 ≤ x.pos ∧ x.pos ≤ 4294967295) ∧ (0 ≤ x.sym ∧ x.sym ≤ 4294967295) ∧ (0 ≤ x.add ∧ x.add ≤ 4294967295) := by
  unfold rel at h
  rcases e1 : num l with _ | ⟨a, r1⟩
  · rw [e1] at h; cases h
  rw [e1] at h; simp only at h
  rcases e2 : num r1 with _ | ⟨b, r2⟩
  · rw [e2] at h; cases h
  rw [e2] at h; simp only at h
  rcases e3 : num r2 with _ | ⟨c, r3⟩
  · rw [e3] at h; cases h
  rw [e3] at h
  simp only [Option.some.injEq, Prod.mk.injEq] at h
  obtain ⟨rfl, rfl⟩ := h
  refine ⟨?_, num_bd e1, num_bd e2, num_bd e3⟩
  unfold relBytes
  rw [num_bytes e1, num_bytes e2, num_bytes e3]
  simp only [List.append_assoc]
theorem rel_enc (x : Rel) (r : List UInt8) (h : (0 ≤ x.pos ∧ x.pos ≤ 4294967295) ∧ (0 ≤ x.sym ∧ x.sym ≤ 4294967295) ∧ (0 ≤ x.add ∧ x.add ≤ 4294967295)) : rel (relBytes x ++ r) = some (x, r) := by
  unfold rel relBytes
  simp only [List.append_assoc]
  rw [num_be4 _ _ h.1.1 h.1.2]
  simp only
  rw [num_be4 _ _ h.2.1.1 h.2.1.2]
  simp only
  rw [num_be4 _ _ h.2.2.1 h.2.2.2]

/-! ## Objects -/
theorem parse_rparse {l : List UInt8} {x : Obj × List UInt8} (h : parse l = some x) : rparse l = some x := by
  unfold parse at h
  unfold rparse
  rcases e1 : cnt 4 l with _ | ⟨n, l1⟩
  · rw [e1] at h; cases h
  rw [e1] at h; simp only at h
  obtain ⟨x1, g1, rfl, _⟩ := cnt_num e1
  rw [g1]; simp only
  rcases e2 : many num x1.toNat l1 with _ | ⟨c, l2⟩
  · rw [e2] at h; cases h
  rw [e2] at h; simp only at h ⊢
  rcases e3 : cnt 4 l2 with _ | ⟨n2, l3⟩
  · rw [e3] at h; cases h
  rw [e3] at h; simp only at h
  obtain ⟨x3, g3, rfl, _⟩ := cnt_num e3
  rw [g3]; simp only
  rcases e4 : many num x3.toNat l3 with _ | ⟨d, l4⟩
  · rw [e4] at h; cases h
  rw [e4] at h; simp only at h ⊢
  rcases e5 : cnt 28 l4 with _ | ⟨n3, l5⟩
  · rw [e5] at h; cases h
  rw [e5] at h; simp only at h
  obtain ⟨x5, g5, rfl, _⟩ := cnt_num e5
  rw [g5]; simp only
  rcases e6 : many raw1 x5.toNat l5 with _ | ⟨s, l6⟩
  · rw [e6] at h; cases h
  rw [e6] at h; simp only at h
  rw [many_mono (fun l x hx => (raw1_raw hx).1) _ e6]; simp only
  rcases e7 : cnt 12 l6 with _ | ⟨n4, l7⟩
  · rw [e7] at h; cases h
  rw [e7] at h; simp only at h
  obtain ⟨x7, g7, rfl, _⟩ := cnt_num e7
  rw [g7]; simp only
  exact h
theorem symBytes_raw {x : Raw} (h : RawIn x) (hs : ¬ 1 < x.static) : symBytes x.sym = encR x := by
  have hst : flagI (x.static == 1) = x.static := by
    unfold flagI
    have := h.static
    by_cases e : x.static = 1
    · rw [e]; rfl
    · rw [if_neg (by simpa using e)]; omega
  unfold symBytes encR Raw.sym encT
  simp only [hst, bstr, ByteArray.size, List.size_toArray, List.append_assoc]
structure ObjIn (o : Obj) : Prop where
  code : ∀ x ∈ o.code, 0 ≤ x ∧ x ≤ 4294967295
  data : ∀ x ∈ o.data, -2147483648 ≤ x ∧ x ≤ 2147483647
theorem parse_put {l r : List UInt8} {o : Obj} (h : parse l = some (o, r)) : l = putB o ++ r := by
  unfold parse at h
  rcases e1 : cnt 4 l with _ | ⟨n, l1⟩
  · rw [e1] at h; cases h
  rw [e1] at h; simp only at h
  rcases e2 : many num n l1 with _ | ⟨c, l2⟩
  · rw [e2] at h; cases h
  rw [e2] at h; simp only at h
  rcases e3 : cnt 4 l2 with _ | ⟨n2, l3⟩
  · rw [e3] at h; cases h
  rw [e3] at h; simp only at h
  rcases e4 : many num n2 l3 with _ | ⟨d, l4⟩
  · rw [e4] at h; cases h
  rw [e4] at h; simp only at h
  rcases e5 : cnt 28 l4 with _ | ⟨n3, l5⟩
  · rw [e5] at h; cases h
  rw [e5] at h; simp only at h
  rcases e6 : many raw1 n3 l5 with _ | ⟨s, l6⟩
  · rw [e6] at h; cases h
  rw [e6] at h; simp only at h
  rcases e7 : cnt 12 l6 with _ | ⟨n4, l7⟩
  · rw [e7] at h; cases h
  rw [e7] at h; simp only at h
  rcases e8 : many rel n4 l7 with _ | ⟨q, l8⟩
  · rw [e8] at h; cases h
  rw [e8] at h
  simp only [Option.some.injEq, Prod.mk.injEq] at h
  obtain ⟨rfl, rfl⟩ := h
  obtain ⟨t2, u2⟩ := many_bytes be4 (fun _ _ _ h => num_bytes h) _ e2
  obtain ⟨t4, u4⟩ := many_bytes be4 (fun _ _ _ h => num_bytes h) _ e4
  have v4 := many_all (fun x : Int => 0 ≤ x ∧ x ≤ 4294967295) (fun _ _ _ h => num_bd h) _ e4
  obtain ⟨t6, u6⟩ := many_bytes encR (fun _ _ _ h => (raw_bytes (raw1_raw h).1).1) _ e6
  have v6 := many_all (fun x : Raw => RawIn x ∧ ¬ 1 < x.static) (fun _ _ _ h => ⟨(raw_bytes (raw1_raw h).1).2, (raw1_raw h).2⟩) _ e6
  obtain ⟨t8, u8⟩ := many_bytes relBytes (fun _ _ _ h => (rel_bytes h).1) _ e8
  have w4 : (d.map wrap32).flatMap be4 = d.flatMap be4 := by
    rw [List.flatMap_map]
    have : ∀ (L : List Int), (∀ x ∈ L, 0 ≤ x ∧ x ≤ 4294967295) → L.flatMap (fun a => be4 (wrap32 a)) = L.flatMap be4 := by
      intro L hL
      induction L with
      | nil => rfl
      | cons a L ih =>
        rw [List.flatMap_cons, List.flatMap_cons, ih (fun x hx => hL x (List.mem_cons_of_mem _ hx)), wrap32_be4 a (hL a (List.mem_cons_self ..)).1 (hL a (List.mem_cons_self ..)).2]
    exact this d v4
  have w6 : (s.map Raw.sym).flatMap symBytes = s.flatMap encR := by
    rw [List.flatMap_map]
    have : ∀ (L : List Raw), (∀ x ∈ L, RawIn x ∧ ¬ 1 < x.static) → L.flatMap (fun a => symBytes a.sym) = L.flatMap encR := by
      intro L hL
      induction L with
      | nil => rfl
      | cons a L ih =>
        rw [List.flatMap_cons, List.flatMap_cons, ih (fun x hx => hL x (List.mem_cons_of_mem _ hx)), symBytes_raw (hL a (List.mem_cons_self ..)).1 (hL a (List.mem_cons_self ..)).2]
    exact this s v6
  unfold putB objOf
  simp only [List.length_map, w4, w6, u2, u4, u6, u8]
  rw [cnt_bytes e1, t2, cnt_bytes e3, t4, cnt_bytes e5, t6, cnt_bytes e7, t8]
  simp only [List.append_assoc]

/-! ## What is laid is read -/
def free (x : Int) : Int := if x < 0 then x + 4294967296 else x
theorem free_bd {x : Int} (h : -2147483648 ≤ x ∧ x ≤ 2147483647) : 0 ≤ free x ∧ free x ≤ 4294967295 := by unfold free; split <;> omega
theorem wrap32_free {x : Int} (h : -2147483648 ≤ x ∧ x ≤ 2147483647) : wrap32 (free x) = x := by unfold free wrap32; split <;> omega
theorem be4_of_free (x : Int) : be4 (free x) = be4 x := by
  unfold free
  split
  · exact be4_free x
  · rfl
def rawOf (s : Sym) : Raw := ⟨s.name.data.toList, s.kind, flagI s.static, s.pos, s.size, s.sign.data.toList, s.frame⟩
theorem rawOf_sym (s : Sym) : (rawOf s).sym = s := by
  obtain ⟨⟨⟨n⟩⟩, k, st, p, z, ⟨⟨g⟩⟩, f⟩ := s
  unfold rawOf Raw.sym bstr flagI
  cases st <;> rfl
theorem rawOf_in {s : Sym} (h : SymFine s) : RawIn (rawOf s) ∧ ¬ 1 < (rawOf s).static := by
  obtain ⟨h1, h2, h3, h4, h5, h6⟩ := h
  have hf : 0 ≤ flagI s.static ∧ flagI s.static ≤ 1 := by unfold flagI; split <;> omega
  unfold rawOf
  exact ⟨⟨by rw [size_data]; omega, by simp only; omega, by simp only; omega, by simp only; omega, by simp only; omega, by rw [size_data]; omega, by simp only; omega⟩, by simp only; omega⟩
theorem rawOf_enc {s : Sym} (h : SymFine s) : encR (rawOf s) = symBytes s := by
  rw [← symBytes_raw (rawOf_in h).1 (rawOf_in h).2, rawOf_sym]
theorem raw1_enc {x : Raw} (r : List UInt8) (h : RawIn x ∧ ¬ 1 < x.static) : raw1 (encR x ++ r) = some (x, r) := by
  unfold raw1
  rw [raw_enc x r h.1]
  simp only
  rw [if_neg h.2]
theorem flatMap_congr' {α : Type} {f g : α → List UInt8} (l : List α) (h : ∀ x ∈ l, f x = g x) : l.flatMap f = l.flatMap g := by
  induction l with
  | nil => rfl
  | cons a l ih => rw [List.flatMap_cons, List.flatMap_cons, h a (List.mem_cons_self ..), ih (fun x hx => h x (List.mem_cons_of_mem _ hx))]
theorem flatMap_ge {α : Type} (f : α → List UInt8) (l : List α) (m : Nat) (h : ∀ x ∈ l, m ≤ (f x).length) : l.length * m ≤ (l.flatMap f).length := by
  induction l with
  | nil => simp
  | cons x l ih =>
    rw [List.flatMap_cons, List.length_append, List.length_cons, Nat.succ_mul]
    have := h x (List.mem_cons_self ..)
    have := ih fun y hy => h y (List.mem_cons_of_mem _ hy)
    omega
theorem parse_of {o : Obj} (hf : Fine o) (hi : ObjIn o) : parse (putB o) = some (o, []) := by
  have hfew := hf.few
  unfold few at hfew
  obtain ⟨f1, f2, f3, f4⟩ := hfew
  have e4 : o.data.flatMap be4 = (o.data.map free).flatMap be4 := by
    rw [List.flatMap_map]
    exact flatMap_congr' _ fun x _ => (be4_of_free x).symm
  have e6 : o.syms.flatMap symBytes = (o.syms.map rawOf).flatMap encR := by
    rw [List.flatMap_map]
    exact flatMap_congr' _ fun x hx => (rawOf_enc (hf.syms x hx)).symm
  have g2 := flatMap_ge be4 o.code 4 (fun x _ => by rw [be4_len]; omega)
  have g4 := flatMap_ge be4 o.data 4 (fun x _ => by rw [be4_len]; omega)
  have g6 := flatMap_ge symBytes o.syms 28 (fun x _ => by unfold symBytes; simp only [List.length_append, be4_len]; omega)
  have g8 := flatMap_ge relBytes o.rels 12 (fun x _ => by rw [relBytes_len]; omega)
  unfold parse putB
  simp only [List.append_assoc]
  rw [cnt_be4 4 _ _ (by omega) (by omega) (by simp only [List.length_append]; omega)]
  simp only
  rw [many_of be4 o.code (fun x hx r => num_be4 x r (hi.code x hx).1 (hi.code x hx).2)]
  simp only
  rw [cnt_be4 4 _ _ (by omega) (by omega) (by simp only [List.length_append]; omega)]
  simp only
  rw [e4, ← List.length_map (f := free) (as := o.data), many_of be4 (o.data.map free) (fun x hx r => by
    obtain ⟨y, hy, rfl⟩ := List.mem_map.1 hx
    have := free_bd (hi.data y hy)
    exact num_be4 _ r this.1 this.2)]
  simp only
  rw [cnt_be4 28 _ _ (by omega) (by omega) (by simp only [List.length_append]; omega)]
  simp only
  rw [e6, ← List.length_map (f := rawOf) (as := o.syms), many_of encR (o.syms.map rawOf) (fun x hx r => by
    obtain ⟨y, hy, rfl⟩ := List.mem_map.1 hx
    exact raw1_enc r (rawOf_in (hf.syms y hy)))]
  simp only
  rw [cnt_be4 12 _ _ (by omega) (by omega) (by omega)]
  simp only
  have h8 := many_of relBytes o.rels (fun x hx r => rel_enc x r (by have := hf.rels x hx; exact ⟨by have := this.pos; omega, by have := this.sym; omega, by have := this.add; omega⟩)) []
  rw [List.append_nil] at h8
  rw [h8]
  simp only
  unfold objOf
  have w4 : (o.data.map free).map wrap32 = o.data := by
    rw [List.map_map]
    refine (List.map_congr_left (g := id) fun x hx => ?_).trans (List.map_id _)
    exact wrap32_free (hi.data x hx)
  have w6 : (o.syms.map rawOf).map Raw.sym = o.syms := by
    rw [List.map_map]
    refine (List.map_congr_left (g := id) fun x hx => ?_).trans (List.map_id _)
    exact rawOf_sym x
  rw [w4, w6]
theorem rparse_in {l r : List UInt8} {o : Obj} (h : rparse l = some (o, r)) : ObjIn o := by
  unfold rparse at h
  rcases e1 : num l with _ | ⟨n, l1⟩
  · rw [e1] at h; cases h
  rw [e1] at h; simp only at h
  rcases e2 : many num n.toNat l1 with _ | ⟨c, l2⟩
  · rw [e2] at h; cases h
  rw [e2] at h; simp only at h
  rcases e3 : num l2 with _ | ⟨n2, l3⟩
  · rw [e3] at h; cases h
  rw [e3] at h; simp only at h
  rcases e4 : many num n2.toNat l3 with _ | ⟨d, l4⟩
  · rw [e4] at h; cases h
  rw [e4] at h; simp only at h
  rcases e5 : num l4 with _ | ⟨n3, l5⟩
  · rw [e5] at h; cases h
  rw [e5] at h; simp only at h
  rcases e6 : many raw n3.toNat l5 with _ | ⟨s, l6⟩
  · rw [e6] at h; cases h
  rw [e6] at h; simp only at h
  rcases e7 : num l6 with _ | ⟨n4, l7⟩
  · rw [e7] at h; cases h
  rw [e7] at h; simp only at h
  rcases e8 : many rel n4.toNat l7 with _ | ⟨q, l8⟩
  · rw [e8] at h; cases h
  rw [e8] at h
  simp only [Option.some.injEq, Prod.mk.injEq] at h
  obtain ⟨rfl, rfl⟩ := h
  refine ⟨many_all (fun x : Int => 0 ≤ x ∧ x ≤ 4294967295) (fun _ _ _ h => num_bd h) _ e2, fun x hx => ?_⟩
  obtain ⟨y, _, rfl⟩ := List.mem_map.1 hx
  unfold wrap32
  omega
def nilObj : Obj := ⟨[], [], [], []⟩
/-- what the program tells of bytes -/
def getR (l : List UInt8) : Int × Obj := match parse l with
  | some (o, []) => if mayB o then (0, o) else (2, nilObj)
  | _ => (2, nilObj)
/-- what the reference tells of bytes -/
def rgetR (l : List UInt8) : Int × Obj := match rparse l with
  | some (o, _) => if mayB o && (putB o == l) then (0, o) else (2, nilObj)
  | none => (2, nilObj)
theorem get_same (l : List UInt8) : getR l = rgetR l := by
  by_cases h : ∃ o, parse l = some (o, []) ∧ mayB o = true
  · obtain ⟨o, hp, hm⟩ := h
    have hl := parse_put hp
    rw [List.append_nil] at hl
    unfold getR rgetR
    rw [hp, parse_rparse hp]
    simp only
    rw [if_pos hm, if_pos (by rw [hm, ← hl]; simp)]
  · have h1 : getR l = (2, nilObj) := by
      unfold getR
      rcases e : parse l with _ | ⟨o, r⟩
      · rfl
      · cases r with
        | nil =>
          simp only
          rw [if_neg (fun hm => h ⟨o, e, hm⟩)]
        | cons a r => rfl
    rw [h1]
    unfold rgetR
    rcases e : rparse l with _ | ⟨o, r⟩
    · rfl
    · simp only
      rw [if_neg]
      intro hh
      rw [Bool.and_eq_true, beq_iff_eq] at hh
      have := parse_of (mayB_fine hh.1) (rparse_in e)
      rw [hh.2] at this
      exact h ⟨o, this, hh.1⟩

end Go.Proofs.Ythnehhidlaggeaa.Ob
