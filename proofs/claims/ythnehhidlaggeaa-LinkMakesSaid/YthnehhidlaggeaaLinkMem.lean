/- Objects in a row, in memory; scarfjointref18.own, Home, Before, Address; link.outside: the walks. -/
import Derived.Test.YthnehhidlaggeaaLinkPlain
import Derived.Test.YthnehhidlaggeaaObjMem
import Derived.Deep.LoopGhost
import Derived.BigQuiet
import Derived.Deep.QuietTactic
import Derived.IntWalk
import Derived.Lib.Hide
import Derived.Outline
namespace Go.Proofs.Ythnehhidlaggeaa
set_option linter.unusedVariables false
set_option linter.unusedSimpArgs false
open Go.RowKit Ob

/-- where an object's four rows lie -/
structure OV where
  pc : Option Addr
  pd : Option Addr
  ps : Option Addr
  pr : Option Addr
  n : Nat
  kn : Nat
  d : Nat
  kd : Nat
  m : Nat
  km : Nat
  r : Nat
  kr : Nat
def OV.cells (v : OV) : List Value := [.slice v.pc v.n v.kn, .slice v.pd v.d v.kd, .slice v.ps v.m v.km, .slice v.pr v.r v.kr]
/-- objects, one behind the other -/
structure ObjsAt (w : World) (c co n : Nat) (vs : List OV) (os : List Ob.Obj) : Prop where
  nl : os.length = n
  vl : vs.length = n
  lt : c < w.heap.size
  row : ∀ j (h : j < vs.length), w.rangeAt c (co + j * 4) vs[j].cells
  obj : ∀ j (h : j < vs.length) (h' : j < os.length), ObjAt w vs[j].pc vs[j].pd vs[j].ps vs[j].pr vs[j].n vs[j].d vs[j].m vs[j].r os[j]
theorem ObjsAt.below {w w2 : World} {c co n : Nat} {vs : List OV} {os : List Ob.Obj} (h : ObjsAt w c co n vs os) (hb : Below w.heap.size w w2) : ObjsAt w2 c co n vs os :=
  ⟨h.nl, h.vl, Nat.lt_of_lt_of_le h.lt hb.size, fun j hj i v hv => (hb.cell (p := ⟨c, co + j * 4 + i, none⟩) h.lt).trans (h.row j hj i v hv), fun j hj hj' => (h.obj j hj hj').below hb⟩
theorem ObjsAt.get {w : World} {c co n : Nat} {vs : List OV} {os : List Ob.Obj} (h : ObjsAt w c co n vs os) {j : Nat} (hj : j < n) {v : OV} (hv : vs[j]? = some v) {o : Ob.Obj} (ho : os[j]? = some o) :
    w.cell? ⟨c, co + j * 4, none⟩ = some (.slice v.pc v.n v.kn) ∧ w.cell? ⟨c, co + j * 4 + 1, none⟩ = some (.slice v.pd v.d v.kd) ∧
      w.cell? ⟨c, co + j * 4 + 2, none⟩ = some (.slice v.ps v.m v.km) ∧ w.cell? ⟨c, co + j * 4 + 3, none⟩ = some (.slice v.pr v.r v.kr) ∧ ObjAt w v.pc v.pd v.ps v.pr v.n v.d v.m v.r o := by
  obtain ⟨h1, rfl⟩ := List.getElem?_eq_some_iff.1 hv
  obtain ⟨h2, rfl⟩ := List.getElem?_eq_some_iff.1 ho
  have hr := h.row j h1
  exact ⟨hr 0 _ rfl, hr 1 _ rfl, hr 2 _ rfl, hr 3 _ rfl, h.obj j h1 h2⟩
theorem ObjsAt.some {w : World} {c co n : Nat} {vs : List OV} {os : List Ob.Obj} (h : ObjsAt w c co n vs os) {j : Nat} (hj : j < n) : ∃ v o, vs[j]? = some v ∧ os[j]? = some o :=
  ⟨_, _, List.getElem?_eq_getElem (by rw [h.vl]; exact hj), List.getElem?_eq_getElem (by rw [h.nl]; exact hj)⟩
theorem blk7 {w : World} {b : Nat} {t : TypeId} {v0 v1 v2 v3 v4 v5 v6 : Value} (h : w.heap[b]? = some (.cells #[v0, v1, v2, v3, v4, v5, v6] t (0, 0))) :
    w.cell? ⟨b, 0, none⟩ = some v0 ∧ w.cell? ⟨b, 1, none⟩ = some v1 ∧ w.cell? ⟨b, 2, none⟩ = some v2 ∧ w.cell? ⟨b, 3, none⟩ = some v3 ∧ w.cell? ⟨b, 4, none⟩ = some v4 ∧ w.cell? ⟨b, 5, none⟩ = some v5 ∧ w.cell? ⟨b, 6, none⟩ = some v6 ∧ ∀ o, w.frozen? ⟨b, o, none⟩ = false :=
  ⟨cell_of_row w b 0 _ _ _ h, cell_of_row w b 1 _ _ _ h, cell_of_row w b 2 _ _ _ h, cell_of_row w b 3 _ _ _ h, cell_of_row w b 4 _ _ _ h, cell_of_row w b 5 _ _ _ h, cell_of_row w b 6 _ _ _ h, fun o => by simp [World.frozen?, h]⟩
/-- a symbol is laid into a new block -/
theorem sym_store (s : Ob.Sym) : ∀ w : World, (storeCells ⟨w.heap.size, 0, none⟩ [.string s.name, .int .i64 s.kind, .bool s.static, .int .i64 s.pos, .int .i64 s.size, .string s.sign, .int .i64 s.frame] 0).run Try.prog (w.alloc (.cells #[.string ⟨#[]⟩, .int .i64 0, .bool false, .int .i64 0, .int .i64 0, .string ⟨#[]⟩, .int .i64 0] 106)) = .ok () (w.alloc (.cells #[.string s.name, .int .i64 s.kind, .bool s.static, .int .i64 s.pos, .int .i64 s.size, .string s.sign, .int .i64 s.frame] 106)) :=
  fun w => run_storeCells_new (P := Try.prog) w 106 #[.string ⟨#[]⟩, .int .i64 0, .bool false, .int .i64 0, .int .i64 0, .string ⟨#[]⟩, .int .i64 0] #[.string s.name, .int .i64 s.kind, .bool s.static, .int .i64 s.pos, .int .i64 s.size, .string s.sign, .int .i64 s.frame] (by kernel_rfl) rfl (by kernel_rfl)

theorem own_any (s : Ob.Sym) (w : World) : Calls Try.prog 91 #[symV s] w fun e w' => e = .returned (.bool (ownK s)) ∧ Below w.heap.size w w' := by
  have ht : ownK s = (s.kind == 1 || s.kind == 2) := rfl
  rw [ht]
  clear ht
  unfold symV
  cases h1 : s.kind == 1
  · go_enter Try.func91, Try.ntmps91
    go_wp2_with fail
    go_ret
    exact ⟨rfl, (Below.refl _ _).alloc (Nat.le_refl _) _⟩
  · go_enter Try.func91, Try.ntmps91
    go_wp2_with fail
    go_ret
    exact ⟨rfl, (Below.refl _ _).alloc (Nat.le_refl _) _⟩
theorem outside_any (s : Ob.Sym) (w : World) : Calls Try.prog 106 #[symV s] w fun e w' => e = .returned (.bool (outK s)) ∧ Below w.heap.size w w' := by
  have ht : outK s = (s.kind == 3 || s.kind == 4) := rfl
  rw [ht]
  clear ht
  unfold symV
  cases h1 : s.kind == 3
  · go_enter Try.func106, Try.ntmps106
    go_wp2_with fail
    go_ret
    exact ⟨rfl, (Below.refl _ _).alloc (Nat.le_refl _) _⟩
  · go_enter Try.func106, Try.ntmps106
    go_wp2_with fail
    go_ret
    exact ⟨rfl, (Below.refl _ _).alloc (Nat.le_refl _) _⟩

end Go.Proofs.Ythnehhidlaggeaa
