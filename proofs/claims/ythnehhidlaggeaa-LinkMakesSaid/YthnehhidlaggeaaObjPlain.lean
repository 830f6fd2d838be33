/- Plain facts about objects: names, signs, symbols, relocations, bytes: no program in sight. -/
import Derived.Test.YthnehhidlaggeaaCodePlain
import Derived.Lib.IndexMore
namespace Go.Proofs.Ythnehhidlaggeaa.Ob
set_option linter.unusedVariables false
set_option linter.unusedSimpArgs false

/-! ## Names -/
def letterI (n : Int) : Bool := (decide (97 ≤ n) && decide (n ≤ 122)) || (decide (65 ≤ n) && decide (n ≤ 90))
def digitI (n : Int) : Bool := decide (48 ≤ n) && decide (n ≤ 57)
/-- may it stand in a name, behind its first place? -/
def restI (n : Int) : Bool := letterI n || (digitI n || n == 95)
/-- the words that are no names -/
def reserved : List (List UInt8) := [[98, 114, 101, 97, 107], [99, 111, 117, 110, 116], [101, 108, 115, 101], [101, 120, 116, 101, 114, 110], [101, 120, 116, 114, 97], [102, 110], [105, 102], [105, 110, 116], [108, 111, 110, 103], [112, 117, 116], [114, 101, 116, 117, 114, 110], [115, 116, 97, 116, 105, 99], [115, 116, 114, 117, 99, 116], [119, 104, 105, 108, 101]]
/-- may the place j be so in a name? -/
def nameAt (l : List UInt8) (j : Nat) : Bool := if j = 0 then letterI (l.getD 0 0).toNat else restI (l.getD j 0).toNat
def nameB (l : List UInt8) : Bool := decide (1 ≤ l.length) && decide (l.length ≤ 16) && (List.range l.length).all (nameAt l) && !reserved.contains l

theorem nameB_len {l : List UInt8} (h : l.length < 1 ∨ 16 < l.length) : nameB l = false := by
  unfold nameB
  rcases h with h | h
  · rw [show decide (1 ≤ l.length) = false by simpa using h]
    rfl
  · rw [show decide (l.length ≤ 16) = false by simpa using h]
    simp
theorem nameB_at {l : List UInt8} {j : Nat} (hj : j < l.length) (h : nameAt l j = false) : nameB l = false := by
  unfold nameB
  have : (List.range l.length).all (nameAt l) = false := by
    rw [List.all_eq_false]
    exact ⟨j, List.mem_range.2 hj, by simp [h]⟩
  rw [this]
  simp
theorem nameB_all {l : List UInt8} (h1 : 1 ≤ l.length) (h2 : l.length ≤ 16) (h : ∀ j, j < l.length → nameAt l j = true) : nameB l = !reserved.contains l := by
  unfold nameB
  have : (List.range l.length).all (nameAt l) = true := by
    rw [List.all_eq_true]
    exact fun j hj => h j (List.mem_range.1 hj)
  rw [this]
  simp [h1, h2]
theorem nameAt_ne {l : List UInt8} {j : Nat} (h : nameAt l j = true) : l.getD j 0 ≠ 32 := by
  unfold nameAt at h
  intro e
  split at h
  · rename_i h0
    subst h0
    rw [e] at h
    simp [letterI] at h
  · rw [e] at h
    simp [restI, letterI, digitI] at h

/-! ## The words, as one text -/
theorem contains_nil (c : UInt8) (t : List UInt8) : Lib.contains [] (c :: t) = false := by simp [Lib.contains, Lib.index]
theorem contains_cons (b : UInt8) (s : List UInt8) (c : UInt8) (t : List UInt8) : Lib.contains (b :: s) (c :: t) = ((c :: t).isPrefixOf (b :: s) || Lib.contains s (c :: t)) := by
  have hg := Lib.index_ge s (c :: t)
  unfold Lib.contains
  rw [Lib.index]
  by_cases hp : (c :: t).isPrefixOf (b :: s) = true
  · rw [if_pos hp, hp]
    simp
  · rw [if_neg hp, Bool.not_eq_true] at *
    rw [hp, Bool.false_or]
    by_cases h1 : Lib.index s (c :: t) = -1
    · rw [if_pos (by rw [h1]; rfl), h1]
    · rw [if_neg (by simpa using h1)]
      have : ¬ Lib.index s (c :: t) = -1 := h1
      rw [decide_eq_decide]
      omega
theorem contains_skip (w r t : List UInt8) (h : ∀ c ∈ w, c ≠ 32) : Lib.contains (w ++ r) (32 :: t) = Lib.contains r (32 :: t) := by
  induction w with
  | nil => rfl
  | cons b w ih =>
    rw [List.cons_append, contains_cons, ih (fun c hc => h c (List.mem_cons_of_mem _ hc))]
    have hb : ((32 : UInt8) == b) = false := beq_eq_false_iff_ne.2 (fun e => h b (List.mem_cons_self ..) e.symm)
    simp [List.isPrefixOf, hb]
theorem prefix_word (l w r : List UInt8) (hl : ∀ c ∈ l, c ≠ 32) (hw : ∀ c ∈ w, c ≠ 32) : (l ++ [32]).isPrefixOf (w ++ 32 :: r) = (w == l) := by
  induction l generalizing w with
  | nil =>
    cases w with
    | nil => simp [List.isPrefixOf]
    | cons b w =>
      have hb : ((32 : UInt8) == b) = false := beq_eq_false_iff_ne.2 (fun e => hw b (List.mem_cons_self ..) e.symm)
      simp [List.isPrefixOf, hb]
  | cons a l ih =>
    cases w with
    | nil =>
      have ha : (a == (32 : UInt8)) = false := beq_eq_false_iff_ne.2 (hl a (List.mem_cons_self ..))
      simp [List.isPrefixOf, ha]
    | cons b w =>
      rw [List.cons_append, List.cons_append, List.isPrefixOf, ih w (fun c hc => hl c (List.mem_cons_of_mem _ hc)) (fun c hc => hw c (List.mem_cons_of_mem _ hc)), List.cons_beq_cons]
      congr 1
      exact BEq.comm
theorem contains_words (ws : List (List UInt8)) (l : List UInt8) (hws : ∀ w ∈ ws, ∀ c ∈ w, c ≠ 32) (hl : ∀ c ∈ l, c ≠ 32) :
    Lib.contains (32 :: ws.flatMap (· ++ [32])) (32 :: (l ++ [32])) = ws.contains l := by
  induction ws with
  | nil =>
    rw [List.flatMap_nil, contains_cons, contains_nil]
    cases l with
    | nil => rfl
    | cons a l => simp [List.isPrefixOf]
  | cons w ws ih =>
    rw [List.flatMap_cons, contains_cons, List.append_assoc, List.singleton_append, contains_skip _ _ _ (hws w (List.mem_cons_self ..)), ih (fun v hv => hws v (List.mem_cons_of_mem _ hv))]
    rw [List.isPrefixOf, prefix_word l w _ hl (hws w (List.mem_cons_self ..)), List.contains_cons]
    simp only [beq_self_eq_true, Bool.true_and]
    congr 1
    exact BEq.comm
/-- the words that are no names, with blanks around -/
def wordsText : List UInt8 := 32 :: reserved.flatMap (· ++ [32])
theorem contains_reserved (l : List UInt8) (hl : ∀ c ∈ l, c ≠ 32) : Lib.contains wordsText (32 :: (l ++ [32])) = reserved.contains l :=
  contains_words reserved l (by decide) hl

/-! ## Signs -/
def signAt (l : List UInt8) (j : Nat) : Bool := decide (32 ≤ ((l.getD j 0).toNat : Int)) && decide (((l.getD j 0).toNat : Int) ≤ 126)
def signB (l : List UInt8) : Bool := decide (1 ≤ l.length) && decide (l.length ≤ 2000) && (List.range l.length).all (signAt l)
theorem signB_len {l : List UInt8} (h : l.length < 1 ∨ 2000 < l.length) : signB l = false := by
  unfold signB
  rcases h with h | h
  · rw [show decide (1 ≤ l.length) = false by simpa using h]
    rfl
  · rw [show decide (l.length ≤ 2000) = false by simpa using h]
    simp
theorem signB_at {l : List UInt8} {j : Nat} (hj : j < l.length) (h : signAt l j = false) : signB l = false := by
  unfold signB
  have : (List.range l.length).all (signAt l) = false := by
    rw [List.all_eq_false]
    exact ⟨j, List.mem_range.2 hj, by simp [h]⟩
  rw [this]
  simp
theorem signB_all {l : List UInt8} (h1 : 1 ≤ l.length) (h2 : l.length ≤ 2000) (h : ∀ j, j < l.length → signAt l j = true) : signB l = true := by
  unfold signB
  have : (List.range l.length).all (signAt l) = true := by
    rw [List.all_eq_true]
    exact fun j hj => h j (List.mem_range.1 hj)
  rw [this]
  simp [h1, h2]

/-! ## Objects -/
structure Sym where
  name : ByteArray
  kind : Int
  static : Bool
  pos : Int
  size : Int
  sign : ByteArray
  frame : Int
structure Rel where
  pos : Int
  sym : Int
  add : Int
structure Obj where
  code : List Int
  data : List Int
  syms : List Sym
  rels : List Rel

/-- where functions and variables go on behind a symbol; none: it may not be so -/
def take (c d : Int) (s : Sym) : Option (Int × Int) :=
  if s.kind = 3 ∨ s.kind = 4 then (if s.pos = 0 ∧ s.size = 0 ∧ s.frame = 0 ∧ s.static = false then some (c, d) else none)
  else if s.size < 1 ∨ 16000 < s.size then none
  else if s.kind = 1 then (if s.pos = c ∧ 0 ≤ s.frame ∧ s.frame ≤ 16000 then some (c + s.size, d) else none)
  else if s.kind = 2 then (if s.pos = d ∧ s.frame = 0 then some (c, d + s.size) else none)
  else none
def symOk (seen : List (List UInt8)) (c d : Int) (s : Sym) : Option (Int × Int) :=
  if nameB s.name.data.toList && !seen.contains s.name.data.toList && signB s.sign.data.toList then take c d s else none
def names (l : List Sym) : List (List UInt8) := l.map (·.name.data.toList)
/-- behind symbols, the names of those ahead being seen -/
def symsGo (seen : List (List UInt8)) (c d : Int) : List Sym → Option (Int × Int)
  | [] => some (c, d)
  | s :: r => match symOk seen c d s with
    | none => none
    | some (c', d') => symsGo (seen ++ [s.name.data.toList]) c' d' r
/-- may an instruction speak of a symbol? -/
def speaksB (n : Int) : Bool := match Cp.dec n with
  | none => false
  | some (op, _, _, _, i) => (op == 2 || op == 19 || op == 20 || op == 21) && i == 0
def relOk (code : List Int) (ns : Nat) (last : Int) (x : Rel) : Bool :=
  decide (last < x.pos) && decide (x.pos < code.length) && speaksB (code.getD x.pos.toNat 0) && decide (0 ≤ x.sym) && decide (x.sym < ns) && decide (0 ≤ x.add) && decide (x.add ≤ 6000)
def relsGo (code : List Int) (ns : Nat) (last : Int) : List Rel → Bool
  | [] => true
  | x :: r => relOk code ns last x && relsGo code ns x.pos r
/-- few enough of all? -/
def few (o : Obj) : Prop := o.code.length ≤ 6000 ∧ o.data.length ≤ 16000 ∧ o.syms.length ≤ 400 ∧ o.rels.length ≤ 6000
instance (o : Obj) : Decidable (few o) := by unfold few; infer_instance
def mayB (o : Obj) : Bool := decide (few o) && match symsGo [] 0 0 o.syms with
  | none => false
  | some (c, d) => (c == o.code.length && d == o.data.length) && relsGo o.code o.syms.length (-1) o.rels

theorem symsGo_snoc (seen : List (List UInt8)) (c d : Int) (l : List Sym) (s : Sym) : symsGo seen c d (l ++ [s]) = match symsGo seen c d l with
    | none => none
    | some (c', d') => symOk (seen ++ names l) c' d' s := by
  induction l generalizing seen c d with
  | nil =>
    simp only [List.nil_append, symsGo, names, List.map_nil, List.append_nil]
    rcases symOk seen c d s with _ | ⟨a, b⟩ <;> rfl
  | cons x l ih =>
    rw [List.cons_append, symsGo, symsGo]
    rcases symOk seen c d x with _ | ⟨a, b⟩
    · rfl
    · simp only [ih, names, List.map_cons, List.append_assoc, List.singleton_append]
theorem symsGo_none (seen : List (List UInt8)) (c d : Int) (l r : List Sym) (h : symsGo seen c d l = none) : symsGo seen c d (l ++ r) = none := by
  induction l generalizing seen c d with
  | nil => simp [symsGo] at h
  | cons x l ih =>
    rw [List.cons_append, symsGo]
    rw [symsGo] at h
    rcases he : symOk seen c d x with _ | ⟨a, b⟩
    · rfl
    · rw [he] at h
      exact ih _ _ _ h
/-- a symbol that may not be so: the object may not be -/
theorem mayB_sym {o : Obj} {k : Nat} {c d : Int} (hk : k < o.syms.length) (h : symsGo [] 0 0 (o.syms.take k) = some (c, d)) (hs : symOk (names (o.syms.take k)) c d o.syms[k] = none) : mayB o = false := by
  have e : symsGo [] 0 0 o.syms = none := by
    rw [← List.take_append_drop (k + 1) o.syms]
    refine symsGo_none _ _ _ _ _ ?_
    rw [List.take_succ_eq_append_getElem hk, symsGo_snoc, h]
    exact hs
  unfold mayB
  rw [e]
  simp
theorem symsGo_next {o : Obj} {k : Nat} {c d c' d' : Int} (hk : k < o.syms.length) (h : symsGo [] 0 0 (o.syms.take k) = some (c, d)) (hs : symOk (names (o.syms.take k)) c d o.syms[k] = some (c', d')) : symsGo [] 0 0 (o.syms.take (k + 1)) = some (c', d') := by
  rw [List.take_succ_eq_append_getElem hk, symsGo_snoc, h]
  exact hs
theorem names_next {o : Obj} {k : Nat} (hk : k < o.syms.length) : names (o.syms.take (k + 1)) = names (o.syms.take k) ++ [o.syms[k].name.data.toList] := by
  rw [List.take_succ_eq_append_getElem hk]
  simp only [names, List.map_append, List.map_cons, List.map_nil]
theorem take_le {c d c' d' : Int} {s : Sym} (h : take c d s = some (c', d')) : c ≤ c' ∧ c' ≤ c + 16000 ∧ d ≤ d' ∧ d' ≤ d + 16000 := by
  unfold take at h
  repeat' split at h
  all_goals (simp only [Option.some.injEq, Prod.mk.injEq, reduceCtorEq] at h)
  all_goals omega
theorem symOk_take {seen : List (List UInt8)} {c d c' d' : Int} {s : Sym} (h : symOk seen c d s = some (c', d')) : take c d s = some (c', d') := by
  unfold symOk at h
  split at h
  · exact h
  · cases h
theorem mayB_few {o : Obj} (h : ¬ few o) : mayB o = false := by
  unfold mayB
  simp [h]
theorem mayB_sums {o : Obj} {c d : Int} (h : symsGo [] 0 0 o.syms = some (c, d)) (hs : ¬ (c = o.code.length ∧ d = o.data.length)) : mayB o = false := by
  unfold mayB
  rw [h]
  have : ((c == (o.code.length : Int)) && (d == (o.data.length : Int))) = false := by
    rw [Bool.and_eq_false_iff]
    by_cases e : c = o.code.length
    · exact .inr (beq_eq_false_iff_ne.2 fun e' => hs ⟨e, e'⟩)
    · exact .inl (beq_eq_false_iff_ne.2 e)
  simp [this]

/-! ## Relocations -/
def lastOf (l : List Rel) : Int := match l.getLast? with | none => -1 | some x => x.pos
theorem relsGo_append (code : List Int) (ns : Nat) (last : Int) (l r : List Rel) : relsGo code ns last (l ++ r) = (relsGo code ns last l && relsGo code ns (match l.getLast? with | none => last | some x => x.pos) r) := by
  induction l generalizing last with
  | nil => simp [relsGo]
  | cons x l ih =>
    rw [List.cons_append, relsGo, relsGo, ih, Bool.and_assoc]
    congr 2
    cases l with
    | nil => simp
    | cons y l => simp [List.getLast?_cons]
theorem relsGo_next {o : Obj} {k : Nat} (hk : k < o.rels.length) (h : relsGo o.code o.syms.length (-1) (o.rels.take k) = true) (hx : relOk o.code o.syms.length (lastOf (o.rels.take k)) o.rels[k] = true) : relsGo o.code o.syms.length (-1) (o.rels.take (k + 1)) = true := by
  rw [List.take_succ_eq_append_getElem hk, relsGo_append, h, relsGo, relsGo]
  unfold lastOf at hx
  simp [hx]
theorem lastOf_next {o : Obj} {k : Nat} (hk : k < o.rels.length) : lastOf (o.rels.take (k + 1)) = o.rels[k].pos := by
  rw [List.take_succ_eq_append_getElem hk]
  unfold lastOf
  rw [List.getLast?_concat]
theorem mayB_rel {o : Obj} {k : Nat} (hk : k < o.rels.length) (hx : relOk o.code o.syms.length (lastOf (o.rels.take k)) o.rels[k] = false) : mayB o = false := by
  have e : relsGo o.code o.syms.length (-1) o.rels = false := by
    rw [← List.take_append_drop (k + 1) o.rels, relsGo_append, List.take_succ_eq_append_getElem hk, relsGo_append, relsGo, relsGo]
    unfold lastOf at hx
    simp [hx]
  unfold mayB
  rw [e]
  rcases symsGo [] 0 0 o.syms with _ | ⟨c, d⟩ <;> simp
theorem mayB_yes {o : Obj} (hf : few o) (h : symsGo [] 0 0 o.syms = some ((o.code.length : Int), (o.data.length : Int))) (hr : relsGo o.code o.syms.length (-1) o.rels = true) : mayB o = true := by
  unfold mayB
  rw [h, hr]
  simp [hf]

end Go.Proofs.Ythnehhidlaggeaa.Ob
