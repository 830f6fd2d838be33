/- Plain facts: an object's bytes: no program in sight. -/
import Derived.Test.YthnehhidlaggeaaObjPlain
namespace Go.Proofs.Ythnehhidlaggeaa.Ob
set_option linter.unusedVariables false
set_option linter.unusedSimpArgs false

def byt (n : Int) : UInt8 := UInt8.ofNat (n % 256).toNat
/-- a number as four bytes -/
def be4 (n : Int) : List UInt8 := [byt (n / 16777216), byt (n / 65536), byt (n / 256), byt n]
theorem be4_len (n : Int) : (be4 n).length = 4 := rfl
theorem byt_toNat (n : Int) : ((byt n).toNat : Int) = n % 256 := by
  have h1 := Int.emod_nonneg n (show (256 : Int) ≠ 0 by decide)
  have h2 := Int.emod_lt_of_pos n (show (0 : Int) < 256 by decide)
  unfold byt
  rw [UInt8.toNat_ofNat']
  omega
theorem byt_congr {a b : Int} (h : a % 256 = b % 256) : byt a = byt b := by unfold byt; rw [h]
theorem byt_mod (a : Int) : byt (a % 256) = byt a := byt_congr (by omega)
/-- a word without its sign has the same bytes -/
theorem be4_free (n : Int) : be4 (n + 4294967296) = be4 n := by
  unfold be4
  rw [byt_congr (a := (n + 4294967296) / 16777216) (b := n / 16777216) (by omega), byt_congr (a := (n + 4294967296) / 65536) (b := n / 65536) (by omega), byt_congr (a := (n + 4294967296) / 256) (b := n / 256) (by omega), byt_congr (a := n + 4294967296) (b := n) (by omega)]

def flagI (b : Bool) : Int := if b then 1 else 0
def symBytes (s : Sym) : List UInt8 := be4 s.name.size ++ s.name.data.toList ++ be4 s.kind ++ be4 (flagI s.static) ++ be4 s.pos ++ be4 s.size ++ be4 s.sign.size ++ s.sign.data.toList ++ be4 s.frame
def relBytes (x : Rel) : List UInt8 := be4 x.pos ++ be4 x.sym ++ be4 x.add
def putB (o : Obj) : List UInt8 :=
  be4 o.code.length ++ o.code.flatMap be4 ++ be4 o.data.length ++ o.data.flatMap be4 ++ be4 o.syms.length ++ o.syms.flatMap symBytes ++ be4 o.rels.length ++ o.rels.flatMap relBytes

/-- what is known of a symbol that may be so -/
structure SymFine (s : Sym) : Prop where
  name : s.name.size ≤ 16
  sign : s.sign.size ≤ 2000
  kind : 1 ≤ s.kind ∧ s.kind ≤ 4
  pos : 0 ≤ s.pos ∧ s.pos ≤ 6400000
  size : 0 ≤ s.size ∧ s.size ≤ 16000
  frame : 0 ≤ s.frame ∧ s.frame ≤ 16000
structure RelFine (x : Rel) : Prop where
  pos : 0 ≤ x.pos ∧ x.pos ≤ 6000
  sym : 0 ≤ x.sym ∧ x.sym ≤ 400
  add : 0 ≤ x.add ∧ x.add ≤ 6000
theorem size_data (s : ByteArray) : s.data.toList.length = s.size := by rw [Array.length_toList]; rfl
theorem symOk_fine {seen : List (List UInt8)} {c d c' d' : Int} {s : Sym} {k : Nat} (hk : k ≤ 400) (hc : 0 ≤ c ∧ c ≤ 16000 * k ∧ 0 ≤ d ∧ d ≤ 16000 * k) (h : symOk seen c d s = some (c', d')) : SymFine s ∧ 0 ≤ c' ∧ c' ≤ 16000 * (k + 1 : Nat) ∧ 0 ≤ d' ∧ d' ≤ 16000 * (k + 1 : Nat) := by
  have ht := symOk_take h
  have hl := take_le ht
  refine ⟨?_, by omega⟩
  unfold symOk at h
  split at h
  · rename_i hh
    simp only [Bool.and_eq_true] at hh
    obtain ⟨⟨hn, _⟩, hs⟩ := hh
    have n1 : s.name.size ≤ 16 := by
      by_cases e : s.name.data.toList.length ≤ 16
      · rwa [size_data] at e
      · rw [nameB_len (.inr (by omega))] at hn; cases hn
    have n2 : s.sign.size ≤ 2000 := by
      by_cases e : s.sign.data.toList.length ≤ 2000
      · rwa [size_data] at e
      · rw [signB_len (.inr (by omega))] at hs; cases hs
    unfold take at h
    by_cases h1 : s.kind = 3 ∨ s.kind = 4
    · rw [if_pos h1] at h
      by_cases h2 : s.pos = 0 ∧ s.size = 0 ∧ s.frame = 0 ∧ s.static = false
      · obtain ⟨p1, p2, p3, _⟩ := h2
        exact ⟨n1, n2, by omega, by omega, by omega, by omega⟩
      · rw [if_neg h2] at h; cases h
    · rw [if_neg h1] at h
      by_cases h2 : s.size < 1 ∨ 16000 < s.size
      · rw [if_pos h2] at h; cases h
      · rw [if_neg h2] at h
        by_cases h3 : s.kind = 1
        · rw [if_pos h3] at h
          by_cases h4 : s.pos = c ∧ 0 ≤ s.frame ∧ s.frame ≤ 16000
          · obtain ⟨p1, p2, p3⟩ := h4
            exact ⟨n1, n2, by omega, by omega, by omega, by omega⟩
          · rw [if_neg h4] at h; cases h
        · rw [if_neg h3] at h
          by_cases h4 : s.kind = 2
          · rw [if_pos h4] at h
            by_cases h5 : s.pos = d ∧ s.frame = 0
            · obtain ⟨p1, p2⟩ := h5
              exact ⟨n1, n2, by omega, by omega, by omega, by omega⟩
            · rw [if_neg h5] at h; cases h
          · rw [if_neg h4] at h; cases h
  · cases h
theorem symsGo_fine {seen : List (List UInt8)} {c d c' d' : Int} {l : List Sym} {k : Nat} (hk : k + l.length ≤ 400) (hc : 0 ≤ c ∧ c ≤ 16000 * k ∧ 0 ≤ d ∧ d ≤ 16000 * k) (h : symsGo seen c d l = some (c', d')) : ∀ s ∈ l, SymFine s := by
  induction l generalizing seen c d k with
  | nil => intro s hs; cases hs
  | cons x l ih =>
    rw [symsGo] at h
    rw [List.length_cons] at hk
    rcases e : symOk seen c d x with _ | ⟨a, b⟩
    · rw [e] at h; cases h
    · rw [e] at h
      obtain ⟨hf, hs⟩ := symOk_fine (k := k) (by omega) hc e
      intro s hm
      rcases List.mem_cons.1 hm with rfl | hm
      · exact hf
      · exact ih (k := k + 1) (by omega) hs h s hm
theorem relsGo_fine {code : List Int} {ns : Nat} {last : Int} {l : List Rel} (hl : -1 ≤ last) (hc : code.length ≤ 6000) (hn : ns ≤ 400) (h : relsGo code ns last l = true) : ∀ x ∈ l, RelFine x := by
  induction l generalizing last with
  | nil => intro s hs; cases hs
  | cons x l ih =>
    rw [relsGo, Bool.and_eq_true] at h
    obtain ⟨h1, h2⟩ := h
    unfold relOk at h1
    simp only [Bool.and_eq_true, decide_eq_true_eq] at h1
    obtain ⟨⟨⟨⟨⟨⟨a1, a2⟩, _⟩, a4⟩, a5⟩, a6⟩, a7⟩ := h1
    intro y hm
    rcases List.mem_cons.1 hm with rfl | hm
    · exact ⟨by omega, by omega, by omega⟩
    · exact ih (by omega) h2 y hm
structure Fine (o : Obj) : Prop where
  few : few o
  syms : ∀ s ∈ o.syms, SymFine s
  rels : ∀ x ∈ o.rels, RelFine x
theorem mayB_fine {o : Obj} (h : mayB o = true) : Fine o := by
  unfold mayB at h
  rw [Bool.and_eq_true, decide_eq_true_eq] at h
  obtain ⟨hf, h⟩ := h
  rcases e : symsGo [] 0 0 o.syms with _ | ⟨c, d⟩
  · rw [e] at h; cases h
  · rw [e] at h
    simp only [Bool.and_eq_true] at h
    have hf' := hf
    unfold Ob.few at hf'
    exact ⟨hf, symsGo_fine (k := 0) (by omega) (by omega) e, relsGo_fine (by omega) (by omega) (by omega) h.2⟩

theorem flatMap_snoc {α : Type} (f : α → List UInt8) (l : List α) (k : Nat) (hk : k < l.length) : (l.take (k + 1)).flatMap f = (l.take k).flatMap f ++ f l[k] := by
  rw [List.take_succ_eq_append_getElem hk, List.flatMap_append, List.flatMap_singleton]
theorem flatMap_len {α : Type} (f : α → List UInt8) (l : List α) (m : Nat) (h : ∀ x ∈ l, (f x).length ≤ m) : (l.flatMap f).length ≤ l.length * m := by
  induction l with
  | nil => simp
  | cons x l ih =>
    rw [List.flatMap_cons, List.length_append, List.length_cons, Nat.succ_mul]
    have := h x (List.mem_cons_self ..)
    have := ih fun y hy => h y (List.mem_cons_of_mem _ hy)
    omega
theorem flat_len {α : Type} (f : α → List UInt8) (l : List α) (m k : Nat) (h : ∀ x ∈ l, (f x).length ≤ m) : ((l.take k).flatMap f).length ≤ k * m := by
  have h1 := flatMap_len f (l.take k) m fun x hx => h x (List.mem_of_mem_take hx)
  have h2 : (l.take k).length ≤ k := List.length_take_le _ _
  exact Nat.le_trans h1 (Nat.mul_le_mul_right _ h2)
theorem symBytes_len {s : Sym} (h : SymFine s) : (symBytes s).length ≤ 2048 := by
  have := h.name
  have := h.sign
  unfold symBytes
  simp only [List.length_append, be4_len, size_data]
  omega
theorem relBytes_len (x : Rel) : (relBytes x).length = 12 := rfl

end Go.Proofs.Ythnehhidlaggeaa.Ob
