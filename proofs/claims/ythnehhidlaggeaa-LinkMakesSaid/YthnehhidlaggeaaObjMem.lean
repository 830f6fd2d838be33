/- Objects in memory; the set of the names seen. -/
import Derived.Test.YthnehhidlaggeaaObjTake
import Derived.Test.YthnehhidlaggeaaSlice
import Derived.Deep.LoopGhost
import Derived.Deep.OwnRows
import Derived.BigQuiet
import Derived.Maps.Views
import Derived.Maps.Own
import Derived.StringKeys
import Derived.Deep.MidRow
namespace Go.Proofs.Ythnehhidlaggeaa
set_option linter.unusedVariables false
set_option linter.unusedSimpArgs false
open Go.RowKit Ob

/-! ## The names seen, as a set -/
def seen (l : List (List UInt8)) : DataW Unit := l.foldl (fun D k => D.put (.string k) (.lit (.bool true))) (.map [])
theorem seen_snoc (l : List (List UInt8)) (k : List UInt8) : seen (l ++ [k]) = (seen l).put (.string k) (.lit (.bool true)) := by
  unfold seen
  rw [List.foldl_append]
  rfl
theorem seen_from (l : List (List UInt8)) (D : DataW Unit) (hD : Maps.IsMap D) (k : List UInt8) :
    Maps.IsMap (l.foldl (fun D k => D.put (.string k) (.lit (.bool true))) D) ∧
    (l.foldl (fun D k => D.put (.string k) (.lit (.bool true))) D).atKey (.string k) (.lit (.bool false)) = if l.contains k then .lit (.bool true) else D.atKey (.string k) (.lit (.bool false)) := by
  induction l generalizing D with
  | nil => exact ⟨hD, rfl⟩
  | cons x l ih =>
    obtain ⟨h1, h2⟩ := ih (D.put (.string x) (.lit (.bool true))) (hD.put _ _)
    refine ⟨h1, ?_⟩
    rw [List.foldl_cons, h2, List.contains_cons]
    by_cases hl : l.contains k = true
    · rw [if_pos hl, if_pos (by rw [hl, Bool.or_true])]
    · rw [if_neg hl]
      by_cases e : k = x
      · subst e
        rw [Maps.atKey_put_same hD (by trivial), if_pos (by simp)]
      · rw [Maps.atKey_put_other (by intro h; injection h with h; exact e h), if_neg (by simp [e] at hl ⊢; exact hl)]
theorem seen_at (l : List (List UInt8)) (k : List UInt8) : (seen l).atKey (.string k) (.lit (.bool false)) = .lit (.bool (l.contains k)) := by
  obtain ⟨_, h⟩ := seen_from l (.map []) Maps.isMap_empty k
  unfold seen
  rw [h]
  split
  · rename_i hc; rw [hc]
  · rename_i hc
    rw [Bool.eq_false_iff.2 hc]
    rfl
theorem plainElem_bool_inv {P : Program} {e : TypeId} (he : P.underlying e = some .bool) {v : Value} {b : Bool} {ps : List MemPlace} (h : plainElem (H := Unit) P e v = some (.lit (.bool b), ps)) : v = .bool b := by
  unfold plainElem at h
  rw [he] at h
  cases v <;> simp at h
  rw [h.1]
theorem names_look {w : World} {b n : Nat} {l : List (List UInt8)} (h : w.ownsMap Try.prog 9 (plainElem (H := Unit) Try.prog 4) b n (seen l)) (s : ByteArray) (hs : s.size ≤ 9223372036854775807) :
    (Instr.lookup 114 (.map (some b)) (.string s) false).run Try.prog w = .ok (.bool (l.contains s.data.toList)) w := by
  obtain ⟨v, ps, hrun, hv⟩ := h.lookup (Maps.string_keyed Try.underlying9) Try.underlying114 (z := .bool false) (by kernel_rfl) (plainElem_bool Try.underlying4 false)
    (WideMaps.keyOf_string_mk Try.underlying9 (s := s) (by unfold maxLen; omega))
  rw [seen_at] at hv
  rw [hrun, plainElem_bool_inv Try.underlying4 hv]

/-! ## Rows of structs -/
/-- rows of cells, one behind the other -/
def RowsAt (w : World) (p : Option Addr) (sz : Nat) (ls : List (List Value)) : Prop :=
  ls.length = 0 ∨ ∃ c co, p = some ⟨c, co, none⟩ ∧ c < w.heap.size ∧ ∀ j (h : j < ls.length), w.rangeAt c (co + j * sz) ls[j]
theorem RowsAt.below {w w' : World} {p : Option Addr} {sz : Nat} {ls : List (List Value)} (h : RowsAt w p sz ls) (hb : Below w.heap.size w w') : RowsAt w' p sz ls := by
  rcases h with h | ⟨c, co, rfl, hc, hr⟩
  · exact .inl h
  · exact .inr ⟨c, co, rfl, Nat.lt_of_lt_of_le hc hb.size, fun j hj i v hv => (hb.cell (p := ⟨c, co + j * sz + i, none⟩) hc).trans (hr j hj i v hv)⟩
def symCells (s : Sym) : List Value := [.string s.name, .int .i64 s.kind, .bool s.static, .int .i64 s.pos, .int .i64 s.size, .string s.sign, .int .i64 s.frame]
def relCells (x : Rel) : List Value := [.int .i64 x.pos, .int .i64 x.sym, .int .i64 x.add]
def In64 (n : Int) : Prop := -9223372036854775808 ≤ n ∧ n ≤ 9223372036854775807
structure SymIn (s : Sym) : Prop where
  name : s.name.size ≤ 9223372036854775807
  sign : s.sign.size ≤ 9223372036854775807
  kind : In64 s.kind
  pos : In64 s.pos
  size : In64 s.size
  frame : In64 s.frame
structure RelIn (x : Rel) : Prop where
  pos : In64 x.pos
  sym : In64 x.sym
  add : In64 x.add
/-- an object's value -/
def objV (pc pd ps pr : Option Addr) (n kn d kd m km r kr : Nat) : Value := .agg #[.slice pc n kn, .slice pd d kd, .slice ps m km, .slice pr r kr]
/-- an object that lies in memory -/
structure ObjAt (w : World) (pc pd ps pr : Option Addr) (n d m r : Nat) (o : Ob.Obj) : Prop where
  nl : o.code.length = n
  dl : o.data.length = d
  ml : o.syms.length = m
  rl : o.rels.length = r
  nb : n ≤ 9223372036854775807
  db : d ≤ 9223372036854775807
  mb : m ≤ 9223372036854775807
  rb : r ≤ 9223372036854775807
  code : SliceAt w .u32 pc o.code
  data : SliceAt w .i32 pd o.data
  syms : RowsAt w ps 7 (o.syms.map symCells)
  rels : RowsAt w pr 3 (o.rels.map relCells)
  u32 : ∀ j : Nat, 0 ≤ o.code.getD j 0 ∧ o.code.getD j 0 ≤ 4294967295
  i32 : In32 o.data
  symIn : ∀ s ∈ o.syms, SymIn s
  relIn : ∀ x ∈ o.rels, RelIn x
theorem ObjAt.below {w w' : World} {pc pd ps pr : Option Addr} {n d m r : Nat} {o : Ob.Obj} (h : ObjAt w pc pd ps pr n d m r o) (hb : Below w.heap.size w w') : ObjAt w' pc pd ps pr n d m r o :=
  ⟨h.nl, h.dl, h.ml, h.rl, h.nb, h.db, h.mb, h.rb, h.code.below hb, h.data.below hb, h.syms.below hb, h.rels.below hb, h.u32, h.i32, h.symIn, h.relIn⟩
theorem ObjAt.sym {w : World} {pc pd ps pr : Option Addr} {n d m r : Nat} {o : Ob.Obj} (h : ObjAt w pc pd ps pr n d m r o) {k : Nat} (hk : k < m) : ∃ c co, ps = some ⟨c, co, none⟩ ∧ c < w.heap.size ∧ ∃ hk' : k < o.syms.length, w.rangeAt c (co + k * 7) (symCells o.syms[k]) := by
  have hk' : k < o.syms.length := by rw [h.ml]; exact hk
  rcases h.syms with h0 | ⟨c, co, rfl, hc, hr⟩
  · rw [List.length_map] at h0
    omega
  · refine ⟨c, co, rfl, hc, hk', ?_⟩
    have := hr k (by rw [List.length_map]; exact hk')
    rwa [List.getElem_map] at this
theorem ObjAt.rel {w : World} {pc pd ps pr : Option Addr} {n d m r : Nat} {o : Ob.Obj} (h : ObjAt w pc pd ps pr n d m r o) {k : Nat} (hk : k < r) : ∃ c co, pr = some ⟨c, co, none⟩ ∧ c < w.heap.size ∧ ∃ hk' : k < o.rels.length, w.rangeAt c (co + k * 3) (relCells o.rels[k]) := by
  have hk' : k < o.rels.length := by rw [h.rl]; exact hk
  rcases h.rels with h0 | ⟨c, co, rfl, hc, hr⟩
  · rw [List.length_map] at h0
    omega
  · refine ⟨c, co, rfl, hc, hk', ?_⟩
    have := hr k (by rw [List.length_map]; exact hk')
    rwa [List.getElem_map] at this
theorem ObjAt.word {w : World} {pc pd ps pr : Option Addr} {n d m r : Nat} {o : Ob.Obj} (h : ObjAt w pc pd ps pr n d m r o) {k : Nat} (hk : k < n) : ∃ c co, pc = some ⟨c, co, none⟩ ∧ c < w.heap.size ∧ w.cell? ⟨c, co + k, none⟩ = some (.int .u32 (o.code.getD k 0)) := by
  rcases h.code with h0 | ⟨c, co, rfl, hc, hr⟩
  · rw [h.nl] at h0; omega
  · exact ⟨c, co, rfl, hc, hr k (by rw [h.nl]; exact hk)⟩
theorem ObjAt.datum {w : World} {pc pd ps pr : Option Addr} {n d m r : Nat} {o : Ob.Obj} (h : ObjAt w pc pd ps pr n d m r o) {k : Nat} (hk : k < d) : ∃ c co, pd = some ⟨c, co, none⟩ ∧ c < w.heap.size ∧ w.cell? ⟨c, co + k, none⟩ = some (.int .i32 (o.data.getD k 0)) := by
  rcases h.data with h0 | ⟨c, co, rfl, hc, hr⟩
  · rw [h.dl] at h0; omega
  · exact ⟨c, co, rfl, hc, hr k (by rw [h.dl]; exact hk)⟩

end Go.Proofs.Ythnehhidlaggeaa
