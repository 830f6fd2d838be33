/- object.Get's deferred closure. -/
import Derived.Test.YthnehhidlaggeaaGetMid
import Derived.Test.YthnehhidlaggeaaGetWalk
import Derived.Test.YthnehhidlaggeaaGetText
import Derived.Test.YthnehhidlaggeaaPutsLaw
import Derived.Test.YthnehhidlaggeaaObjMem
import Derived.IntWalk
import Derived.Outline
import Derived.Deep.CutBlock
import Derived.BigQuiet
namespace Go.Proofs.Ythnehhidlaggeaa
set_option linter.unusedVariables false
set_option linter.unusedSimpArgs false
open Go.RowKit Ob

/-- what Get's results hold behind the closure -/
structure GotNone (w w' : World) (b2 b3 : Nat) : Prop where
  os : w'.os = w.os
  tape : w'.tape = w.tape
  output : w'.output = w.output
  size : w.heap.size ≤ w'.heap.size
  block : ∀ k, k < w.heap.size → k ≠ b2 → k ≠ b3 → w'.heap[k]? = w.heap[k]?
  obj : w'.heap[b2]? = some (.cells #[.slice none 0 0, .slice none 0 0, .slice none 0 0, .slice none 0 0] 60 (0, 0))
  err : w'.heap[b3]? = some (.cells #[.int .i64 2] 28 (0, 0))

theorem got_none {w : World} {b2 b3 : Nat} {v0 v1 v2 v3 v4 : Value} (h2 : w.heap[b2]? = some (.cells #[v0, v1, v2, v3] 60 (0, 0))) (h3 : w.heap[b3]? = some (.cells #[v4] 28 (0, 0))) (hne : ¬ b2 = b3) : GotNone w ((((((w.setCell ⟨b2, 0, none⟩ (.slice none 0 0)).setCell ⟨b2, 1, none⟩ (.slice none 0 0)).setCell ⟨b2, 2, none⟩ (.slice none 0 0)).setCell ⟨b2, 3, none⟩ (.slice none 0 0)).setCell ⟨b3, 0, none⟩ (.int .i64 2)).alloc (.cells #[] 121)) b2 b3 := by
  have e1 := blk_set2 (i := 0) h2 (.slice none 0 0)
  have e2 := blk_set2 (i := 1) e1 (.slice none 0 0)
  have e3 := blk_set2 (i := 2) e2 (.slice none 0 0)
  have e4 := blk_set2 (i := 3) e3 (.slice none 0 0)
  simp only [List.setIfInBounds_toArray, List.set_cons_zero, List.set_cons_succ] at e4
  have hb : ∀ k, k ≠ b2 → ((((w.setCell ⟨b2, 0, none⟩ (.slice none 0 0)).setCell ⟨b2, 1, none⟩ (.slice none 0 0)).setCell ⟨b2, 2, none⟩ (.slice none 0 0)).setCell ⟨b2, 3, none⟩ (.slice none 0 0)).heap[k]? = w.heap[k]? := fun k hk =>
    (Below.heap_setCell _ _ _ k (fun e => hk e)).trans ((Below.heap_setCell _ _ _ k (fun e => hk e)).trans ((Below.heap_setCell _ _ _ k (fun e => hk e)).trans (Below.heap_setCell _ _ _ k (fun e => hk e))))
  have h3' := (hb b3 (fun e => hne e.symm)).trans h3
  have hl2 := lt_of_block h2
  have hl3 := lt_of_block h3
  have hs : ((((w.setCell ⟨b2, 0, none⟩ (.slice none 0 0)).setCell ⟨b2, 1, none⟩ (.slice none 0 0)).setCell ⟨b2, 2, none⟩ (.slice none 0 0)).setCell ⟨b2, 3, none⟩ (.slice none 0 0)).heap.size = w.heap.size := by simp [World.setCell]
  obtain ⟨w4, hw4⟩ : ∃ w4, w4 = ((((w.setCell ⟨b2, 0, none⟩ (.slice none 0 0)).setCell ⟨b2, 1, none⟩ (.slice none 0 0)).setCell ⟨b2, 2, none⟩ (.slice none 0 0)).setCell ⟨b2, 3, none⟩ (.slice none 0 0)) := ⟨_, rfl⟩
  rw [← hw4] at e4 hb h3' hs ⊢
  have ho : w4.os = w.os ∧ w4.tape = w.tape ∧ w4.output = w.output := by rw [hw4]; exact ⟨rfl, rfl, rfl⟩
  have hs5 : (w4.setCell ⟨b3, 0, none⟩ (.int .i64 2)).heap.size = w.heap.size := by simp [World.setCell, hs]
  refine ⟨ho.1, ho.2.1, ho.2.2, by rw [show ∀ (x : World) (o : Go.Obj), (x.alloc o).heap.size = x.heap.size + 1 from fun x o => by simp, hs5]; omega, fun k hk n2 n3 => ?_, ?_, ?_⟩
  · exact (Below.heap_alloc _ _ _ (by rw [hs5]; exact hk)).trans ((Below.heap_setCell _ _ _ k (fun e => n3 e)).trans (hb k n2))
  · exact (Below.heap_alloc _ _ _ (by rw [hs5]; exact hl2)).trans ((Below.heap_setCell _ _ _ b2 (fun e => hne e)).trans e4)
  · exact (Below.heap_alloc _ _ _ (by rw [hs5]; exact hl3)).trans (setCell1 h3' _)

theorem asserts_short (w : World) : Sem.run Try.prog (Instr.typeAssert (.iface 121 (.agg #[])) 20 121 true) w = .ok (.tuple #[.agg #[], .bool true]) w := by kernel_rfl

set_option maxHeartbeats 1000000 in
theorem get_thrown (b2 b3 : Nat) (v0 v1 v2 v3 v4 : Value) (older : List PanicEntry) (w : World) (h2 : w.heap[b2]? = some (.cells #[v0, v1, v2, v3] 60 (0, 0))) (h3 : w.heap[b3]? = some (.cells #[v4] 28 (0, 0))) (hne : b2 ≠ b3) :
    CallsD Try.prog 54 #[.pointer (some ⟨b2, 0, none⟩), .pointer (some ⟨b3, 0, none⟩)] (.panicking ({ v := .iface 121 (.agg #[]), recovered := false } :: older)) w fun e u' w' =>
      e = .returned (.tuple #[]) ∧ u' = .panicking ({ v := .iface 121 (.agg #[]), recovered := true } :: older) ∧ GotNone w w' b2 b3 := by
  obtain ⟨y0, y1, y2, y3, yz⟩ := blk4 h2
  have x0 := cell_of_row w b3 0 _ _ _ h3
  simp only [List.getElem?_toArray, List.getElem?_cons_zero] at x0
  have xz : ∀ o, w.frozen? ⟨b3, o, none⟩ = false := fun o => by simp [World.frozen?, h3]
  have hl2 := lt_of_block h2
  have hl3 := lt_of_block h3
  have hne' : ¬ b3 = b2 := fun e => hne e.symm
  have hne2 : ¬ b2 = b3 := hne
  have H2 := Lib.hid h2
  have H3 := Lib.hid h3
  clear h2 h3 hne
  refine callsD_of_wpS Try.func54 rfl fun c₀ cs hu => ?_
  apply wpS_seq
  apply wpS_region
  simp [wpOpsS, go_sem, recoverD, hu, Try.ntmps54, Exit.thenS]
  simp only [List.size_toArray, List.length_cons, List.length_nil, Nat.reduceAdd, Nat.reduceSub, Array.replicate_succ, Array.replicate_zero, List.push_toArray, List.append_toArray, List.nil_append, List.cons_append, List.setIfInBounds_toArray, List.set_cons_zero, List.set_cons_succ]
  clear hu
  have hta := asserts_short
  refine wpS_of_wp ?_
  go_wp2_with fail
  have hG := got_none H2.out H3.out hne2
  simp [bodyPostS, results, Try.results54]
  exact hG

theorem get_idle (b2 b3 : Nat) (w : World) :
    CallsD Try.prog 54 #[.pointer (some ⟨b2, 0, none⟩), .pointer (some ⟨b3, 0, none⟩)] .returning w fun e u' w' => e = .returned (.tuple #[]) ∧ u' = .returning ∧ w' = w := by
  refine callsD_of_wpS Try.func54 rfl fun c₀ cs hu => ?_
  apply wpS_seq
  apply wpS_region
  simp [wpOpsS, go_sem, recoverD, hu, Try.ntmps54, Exit.thenS]
  simp only [List.size_toArray, List.length_cons, List.length_nil, Nat.reduceAdd, Nat.reduceSub, Array.replicate_succ, Array.replicate_zero, List.push_toArray, List.append_toArray, List.nil_append, List.cons_append, List.setIfInBounds_toArray, List.set_cons_zero, List.set_cons_succ]
  refine wpS_of_wp ?_
  have hu2 : c₀.mode = .returning := hu
  clear hu
  replace hu2 := Lib.hid hu2
  go_wp2_with fail
  have hu := hu2.out
  cases c₀
  simp_all [bodyPostS, results, Try.results54]

end Go.Proofs.Ythnehhidlaggeaa

/-! object.Get: the walk. -/
namespace Go.Proofs.Ythnehhidlaggeaa
set_option linter.unusedVariables false
set_option linter.unusedSimpArgs false
open Go.RowKit Ob

def nilV : Value := .agg #[.slice none 0 0, .slice none 0 0, .slice none 0 0, .slice none 0 0]
/-- what Get tells of bytes -/
def GetTells (w : World) (l : List UInt8) (e : Ending) (w' : World) : Prop :=
  ∃ (pc pd ps pr : Option Addr) (n kn d kd m km q kq : Nat), e = .returned (.tuple #[objV pc pd ps pr n kn d kd m km q kq, .int .i64 (getR l).1]) ∧ Below w.heap.size w w' ∧ ObjAt w' pc pd ps pr n d m q (getR l).2
theorem objAt_nil (w : World) : ObjAt w none none none none 0 0 0 0 nilObj :=
  ⟨rfl, rfl, rfl, rfl, by omega, by omega, by omega, by omega, .inl rfl, .inl rfl, .inl rfl, .inl rfl, fun j => (by simp [nilObj]), fun j => (by simp [nilObj]), fun s h => (by cases h), fun s h => (by cases h)⟩
theorem getTells_nil {w w' : World} {l : List UInt8} (hl : getR l = (2, nilObj)) (hb : Below w.heap.size w w') : GetTells w l (.returned (.tuple #[nilV, .int .i64 2])) w' :=
  ⟨none, none, none, none, 0, 0, 0, 0, 0, 0, 0, 0, by rw [hl]; rfl, hb, by rw [hl]; exact objAt_nil _⟩
theorem getR_none {l : List UInt8} (h : parse l = none) : getR l = (2, nilObj) := by unfold getR; rw [h]
theorem getR_rest {l r : List UInt8} {o : Ob.Obj} (h : parse l = some (o, r)) (hr : 0 < r.length) : getR l = (2, nilObj) := by
  unfold getR
  rw [h]
  cases r with
  | nil => simp at hr
  | cons a r => rfl
theorem getR_may {l : List UInt8} {o : Ob.Obj} (h : parse l = some (o, [])) : getR l = if mayB o then (0, o) else (2, nilObj) := by
  unfold getR
  rw [h]

def DF (b2 b3 : Nat) : List Deferred := [{ target := .fn (.func 54) #[.pointer (some ⟨b2, 0, none⟩), .pointer (some ⟨b3, 0, none⟩)], args := #[] }]
/-- what is thrown goes through the door -/
theorem get_door {wz : World} {b2 b3 : Nat} {v0 v1 v2 v3 v4 : Value} (h2 : wz.heap[b2]? = some (.cells #[v0, v1, v2, v3] 60 (0, 0))) (h3 : wz.heap[b3]? = some (.cells #[v4] 28 (0, 0))) (hne : b2 ≠ b3) (tmps : List Value) (t0 t1 : Value)
    {R : Ending → World → Prop} (hR : ∀ w', GotNone wz w' b2 b3 → R (.returned (.tuple #[nilV, .int .i64 2])) w') :
    bodyPostD Try.prog Try.f27 R (.panic [{ v := .iface 121 (.agg #[]), recovered := false }]) { tmps := (t0 :: t1 :: .pointer (some ⟨b2, 0, none⟩) :: .pointer (some ⟨b3, 0, none⟩) :: tmps).toArray, defers := [{ target := .fn (.func 54) #[.pointer (some ⟨b2, 0, none⟩), .pointer (some ⟨b3, 0, none⟩)], args := #[] }] } wz := by
  refine leaves_cons (f := 54) (args := #[.pointer (some ⟨b2, 0, none⟩), .pointer (some ⟨b3, 0, none⟩)]) (by simp) (by simp [go_sem]) ?_
  refine (get_thrown b2 b3 v0 v1 v2 v3 v4 [] wz h2 h3 hne).mono ?_
  rintro e u' w'' ⟨rfl, rfl, hg⟩
  have hr := hR _ hg
  obtain ⟨y0, y1, y2, y3, yz⟩ := blk4 hg.obj
  have x0 := cell_of_row w'' b3 0 _ _ _ hg.err
  simp only [List.getElem?_toArray, List.getElem?_cons_zero] at x0
  simp [Leaves, settle, results, Try.results27, go_sem, y0, y1, y2, y3, x0]
  exact hr

/-- behind read, what it gave being stored -/
structure GetMid (w w1 w2 : World) (r : List UInt8) (oc : Array Value) : Prop where
  one : w1.grownBy w2 (some w.heap.size)
  below : Below w.heap.size w w2
  obj : w2.heap[w.heap.size]? = some (.cells oc 60 (0, 0))
  err : w2.heap[w.heap.size + 1]? = some (.cells #[.int .i64 0] 28 (0, 0))
  rd : RdAt w2 w.heap.size (w.heap.size + 2) r
theorem getMid_of {w W0 w1 : World} {r : List UInt8} {u0 u1 u2 u3 : Value} (hb : Below w.heap.size w W0) (hsz : W0.heap.size = w.heap.size + 3) (hg : W0.grownBy w1 (some (w.heap.size + 2))) (hrd : RdAt w1 w.heap.size (w.heap.size + 2) r) (h2 : w1.heap[w.heap.size]? = some (.cells #[u0, u1, u2, u3] 60 (0, 0))) (h3 : w1.heap[w.heap.size + 1]? = some (.cells #[.int .i64 0] 28 (0, 0))) (v0 v1 v2 v3 : Value) :
    GetMid w w1 ((((w1.setCell ⟨w.heap.size, 0, none⟩ v0).setCell ⟨w.heap.size, 1, none⟩ v1).setCell ⟨w.heap.size, 2, none⟩ v2).setCell ⟨w.heap.size, 3, none⟩ v3) r #[v0, v1, v2, v3] := by
  have e1 := blk_set2 (i := 0) h2 v0
  have e2 := blk_set2 (i := 1) e1 v1
  have e3 := blk_set2 (i := 2) e2 v2
  have e4 := blk_set2 (i := 3) e3 v3
  simp only [List.setIfInBounds_toArray, List.set_cons_zero, List.set_cons_succ] at e4
  have g0 : w1.grownBy w1 (some w.heap.size) := ⟨rfl, rfl, rfl, Nat.le_refl _, fun _ _ _ => rfl⟩
  have g := grown_setCell (grown_setCell (grown_setCell (grown_setCell g0 (p := ⟨w.heap.size, 0, none⟩) (.inl rfl) v0) (p := ⟨w.heap.size, 1, none⟩) (.inl rfl) v1) (p := ⟨w.heap.size, 2, none⟩) (.inl rfl) v2) (p := ⟨w.heap.size, 3, none⟩) (.inl rfl) v3
  have hl2 := lt_of_block h2
  have hl3 := lt_of_block h3
  have hs := hg.size
  have hs2 := g.size
  refine ⟨g, ⟨g.os.trans (hg.os.trans hb.os), g.tape.trans (hg.tape.trans hb.tape), g.output.trans (hg.output.trans hb.output), by omega, fun k hk => (g.block k (by omega) (by simp; omega)).trans ((hg.block k (by omega) (by simp; omega)).trans (hb.block k hk))⟩, e4, (g.block _ hl3 (by simp)).trans h3, hrd.grown g (by simp) (by simp)⟩

/-- behind the results' stores -/
structure GetFin (w w4 w5 : World) (v0 v1 v2 v3 v4 : Value) : Prop where
  two : ∃ w', w4.grownBy w' (some w.heap.size) ∧ w'.grownBy w5 (some (w.heap.size + 1))
  obj : w5.heap[w.heap.size]? = some (.cells #[v0, v1, v2, v3] 60 (0, 0))
  err : w5.heap[w.heap.size + 1]? = some (.cells #[v4] 28 (0, 0))
theorem getFin_of {w w4 : World} {u0 u1 u2 u3 u4 : Value} (h2 : w4.heap[w.heap.size]? = some (.cells #[u0, u1, u2, u3] 60 (0, 0))) (h3 : w4.heap[w.heap.size + 1]? = some (.cells #[u4] 28 (0, 0))) (v0 v1 v2 v3 v4 : Value) :
    GetFin w w4 (((((w4.setCell ⟨w.heap.size, 0, none⟩ v0).setCell ⟨w.heap.size, 1, none⟩ v1).setCell ⟨w.heap.size, 2, none⟩ v2).setCell ⟨w.heap.size, 3, none⟩ v3).setCell ⟨w.heap.size + 1, 0, none⟩ v4) v0 v1 v2 v3 v4 := by
  have e1 := blk_set2 (i := 0) h2 v0
  have e2 := blk_set2 (i := 1) e1 v1
  have e3 := blk_set2 (i := 2) e2 v2
  have e4 := blk_set2 (i := 3) e3 v3
  simp only [List.setIfInBounds_toArray, List.set_cons_zero, List.set_cons_succ] at e4
  have g0 : w4.grownBy w4 (some w.heap.size) := ⟨rfl, rfl, rfl, Nat.le_refl _, fun _ _ _ => rfl⟩
  have g := grown_setCell (grown_setCell (grown_setCell (grown_setCell g0 (p := ⟨w.heap.size, 0, none⟩) (.inl rfl) v0) (p := ⟨w.heap.size, 1, none⟩) (.inl rfl) v1) (p := ⟨w.heap.size, 2, none⟩) (.inl rfl) v2) (p := ⟨w.heap.size, 3, none⟩) (.inl rfl) v3
  have h3' := (g.block _ (lt_of_block h3) (by simp)).trans h3
  exact ⟨⟨_, g, grown_box⟩, (Below.heap_setCell _ _ _ _ (by simp)).trans e4, setCell1 h3' _⟩
theorem GetFin.below {w w4 w5 : World} {v0 v1 v2 v3 v4 : Value} (h : GetFin w w4 w5 v0 v1 v2 v3 v4) (hb : Below w.heap.size w w4) : Below w.heap.size w w5 := by
  obtain ⟨w', g, k⟩ := h.two
  have h1 := hb.size
  have h2 := g.size
  exact ⟨k.os.trans (g.os.trans hb.os), k.tape.trans (g.tape.trans hb.tape), k.output.trans (g.output.trans hb.output), by have := k.size; omega, fun j hj => (k.block j (by omega) (by simp; omega)).trans ((g.block j (by omega) (by simp; omega)).trans (hb.block j hj))⟩
/-- the way out: what lies in the results' boxes -/
theorem get_ret {wz : World} {b2 b3 : Nat} {v0 v1 v2 v3 v4 : Value} (h2 : wz.heap[b2]? = some (.cells #[v0, v1, v2, v3] 60 (0, 0))) (h3 : wz.heap[b3]? = some (.cells #[v4] 28 (0, 0))) (tmps : List Value) (t0 t1 : Value)
    {R : Ending → World → Prop} (hR : R (.returned (.tuple #[.agg #[v0, v1, v2, v3], v4])) wz) :
    bodyPostD Try.prog Try.f27 R .ret { tmps := (t0 :: t1 :: .pointer (some ⟨b2, 0, none⟩) :: .pointer (some ⟨b3, 0, none⟩) :: tmps).toArray, defers := [{ target := .fn (.func 54) #[.pointer (some ⟨b2, 0, none⟩), .pointer (some ⟨b3, 0, none⟩)], args := #[] }] } wz := by
  refine leaves_cons (f := 54) (args := #[.pointer (some ⟨b2, 0, none⟩), .pointer (some ⟨b3, 0, none⟩)]) (by simp) (by simp [go_sem]) ?_
  refine (get_idle b2 b3 wz).mono ?_
  rintro e u' w'' ⟨rfl, rfl, rfl⟩
  obtain ⟨y0, y1, y2, y3, yz⟩ := blk4 h2
  have x0 := cell_of_row w'' b3 0 _ _ _ h3
  simp only [List.getElem?_toArray, List.getElem?_cons_zero] at x0
  simp [Leaves, settle, results, Try.results27, go_sem, y0, y1, y2, y3, x0]
  exact hR

set_option maxRecDepth 100000 in
set_option maxHeartbeats 4000000 in
theorem get_any (a : Option Addr) (n c : Nat) (mx : Int) (l : List UInt8) (w : World) (hs : SlcAt w w.heap.size a n c l) (hmx : w.cell? ⟨0, 0, none⟩ = some (.int .i64 mx)) :
    Calls Try.prog 27 #[.slice a n c] w (GetTells w l) := by
  have hmf : ∀ (fn : Fn) (first cap : Array Value) (w : World), (Instr.makeFunc fn first cap).run Try.prog w = .ok (.func fn first cap) w := fun _ _ _ _ => rfl
  obtain ⟨W0, hW0⟩ : ∃ W0, W0 = ((w.alloc (.cells #[.slice none 0 0, .slice none 0 0, .slice none 0 0, .slice none 0 0] 60)).alloc (.cells #[.int .i64 0] 28)).alloc (.cells #[.slice a n c] 124) := ⟨_, rfl⟩
  have hs1 : (w.alloc (.cells #[.slice none 0 0, .slice none 0 0, .slice none 0 0, .slice none 0 0] 60)).heap.size = w.heap.size + 1 := by simp
  have hs2 : ((w.alloc (.cells #[.slice none 0 0, .slice none 0 0, .slice none 0 0, .slice none 0 0] 60)).alloc (.cells #[.int .i64 0] 28)).heap.size = w.heap.size + 2 := by simp
  have hb0 : Below w.heap.size w W0 := by rw [hW0]; exact (((Below.refl _ _).alloc (Nat.le_refl _) _).alloc (by omega) _).alloc (by omega) _
  have h2 : W0.heap[w.heap.size]? = some (.cells #[.slice none 0 0, .slice none 0 0, .slice none 0 0, .slice none 0 0] 60 (0, 0)) := by
    rw [hW0]
    exact (Below.heap_alloc _ _ _ (by omega)).trans ((Below.heap_alloc _ _ _ (by omega)).trans (heap_alloc_new w _))
  have h3 : W0.heap[w.heap.size + 1]? = some (.cells #[.int .i64 0] 28 (0, 0)) := by
    rw [hW0]
    refine (Below.heap_alloc _ _ _ (by omega)).trans ?_
    rw [← hs1]
    exact heap_alloc_new _ _
  have hp : W0.heap[w.heap.size + 2]? = some (.cells #[.slice a n c] 124 (0, 0)) := by
    rw [hW0, ← hs2]
    exact heap_alloc_new _ _
  have hsz : W0.heap.size = w.heap.size + 3 := by rw [hW0]; simp
  have hrd : RdAt W0 w.heap.size (w.heap.size + 2) l := ⟨by omega, a, n, c, hp, hs.below hb0⟩
  have H := Lib.hid (read_any w.heap.size (w.heap.size + 2) l W0 hrd)
  have HB0 := Lib.hid hb0
  have HX2 := Lib.hid h2
  have HX3 := Lib.hid h3
  have HSZ := Lib.hid hsz
  have HMX := Lib.hid hmx
  clear hs hs1 hs2 hb0 h2 h3 hp hsz hrd hmx
  go_enter_defers Try.func27, Try.ntmps27
  go_wp2_with fail
  rw [← hW0]
  clear hW0
  refine H.out.mono ?_
  intro e w1 he
  rcases he with ⟨hn, rfl, hg⟩ | ⟨o, r, hpar, hrd, hg, pc, pd, ps, pr, m1, m2, m3, m4, m5, m6, m7, m8, rfl, hO, hH⟩
  · have hsz := HSZ.out
    have h2 := (hg.block _ (by omega) (by simp)).trans HX2.out
    have h3 := (hg.block _ (by omega) (by simp)).trans HX3.out
    refine get_door h2 h3 (by omega) _ _ _ ?_
    intro w' hgn
    refine getTells_nil (getR_none hn) ?_
    have hb := HB0.out
    have := hg.size
    exact ⟨hgn.os.trans (hg.os.trans hb.os), hgn.tape.trans (hg.tape.trans hb.tape), hgn.output.trans (hg.output.trans hb.output), by have := hgn.size; omega, fun k hk => (hgn.block k (by omega) (by omega) (by omega)).trans ((hg.block k (by omega) (by simp; omega)).trans (hb.block k hk))⟩
  · unfold objV
    have hsz := HSZ.out
    have h2 := (hg.block _ (by omega) (by simp)).trans HX2.out
    have h3 := (hg.block _ (by omega) (by simp)).trans HX3.out
    obtain ⟨y0, y1, y2, y3, yz⟩ := blk4 h2
    have HRD := Lib.hid hrd
    have HG := Lib.hid hg
    have HPAR := Lib.hid hpar
    have HO := Lib.hid hO
    have HH := Lib.hid hH
    have HX2 := Lib.hid h2
    have HX3 := Lib.hid h3
    have hpl := lt_of_block h2
    have hpl3 := lt_of_block h3
    clear hrd hg hpar hO hH h2 h3 H hmf
    go_upto_region 4 with fail
    obtain ⟨w2, hw2⟩ : ∃ w2, w2 = ((((w1.setCell ⟨w.heap.size, 0, none⟩ (.slice pc m1 m2)).setCell ⟨w.heap.size, 1, none⟩ (.slice pd m3 m4)).setCell ⟨w.heap.size, 2, none⟩ (.slice ps m5 m6)).setCell ⟨w.heap.size, 3, none⟩ (.slice pr m7 m8)) := ⟨_, rfl⟩
    rw [← hw2]
    have hmid : GetMid w w1 w2 r #[.slice pc m1 m2, .slice pd m3 m4, .slice ps m5 m6, .slice pr m7 m8] := by
      rw [hw2]
      exact getMid_of HB0.out HSZ.out HG.out HRD.out HX2.out HX3.out _ _ _ _
    have hO2 := HO.out.grown hmid.one HH.out (fun k e => by injection e with e; omega)
    clear hw2 y0 y1 y2 y3 yz
    obtain ⟨z0, z1, z2, z3, zz⟩ := blk4 hmid.obj
    obtain ⟨hBp, ra, rn, rc, hbox, hsl⟩ := hmid.rd
    have c0 := cell_of_row w2 _ 0 _ _ _ hbox
    have x0 := cell_of_row w2 _ 0 _ _ _ hmid.err
    simp only [List.getElem?_toArray, List.getElem?_cons_zero] at c0 x0
    have xz : ∀ o, w2.frozen? ⟨w.heap.size + 1, o, none⟩ = false := unfroz hmid.err
    have hrn := hsl.len
    have hcap := hsl.cap
    have hbig := hsl.big
    have HRN := Lib.hid hrn
    have HMID := Lib.hid hmid
    have HO2 := Lib.hid hO2
    clear hbox hsl hrn hmid hO2 HRD HG HO HX2 HX3
    by_cases hr0 : 0 < rn
    · have hd : decide (0 < rn) = true := decide_eq_true hr0
      go_wp2_with fail
      have hf := getFin_of HMID.out.obj HMID.out.err (.slice none 0 0) (.slice none 0 0) (.slice none 0 0) (.slice none 0 0) (.int .i64 2)
      exact get_ret hf.obj hf.err _ _ _ (getTells_nil (getR_rest HPAR.out (by rw [HRN.out]; exact hr0)) (hf.below HMID.out.below))
    · obtain rfl : rn = 0 := by omega
      obtain rfl : r = [] := List.eq_nil_of_length_eq_zero HRN.out
      have hmx2 := (HMID.out.below.cell (p := ⟨0, 0, none⟩) (lt_of_cell HMX.out)).trans HMX.out
      have HC := Lib.hid (omay_any o pc pd ps pr m1 m2 m3 m4 m5 m6 m7 m8 mx w2 HO2.out hmx2)
      obtain ⟨t, ht⟩ : ∃ t, mayB o = t := ⟨_, rfl⟩
      rw [ht] at HC
      have HT := Lib.hid ht
      unfold objV at HC
      clear ht hmx2
      go_wp2_with fail
      refine HC.out.mono ?_
      rintro e w4 ⟨rfl, hb4⟩
      have hp2 := lt_of_block HMID.out.obj
      have hp3 := lt_of_block HMID.out.err
      have h2 := (hb4.block _ hp2).trans HMID.out.obj
      have h3 := (hb4.block _ hp3).trans HMID.out.err
      clear z0 z1 z2 z3 zz c0 x0 xz
      obtain ⟨z0, z1, z2, z3, zz⟩ := blk4 h2
      have x0 := cell_of_row w4 _ 0 _ _ _ h3
      simp only [List.getElem?_toArray, List.getElem?_cons_zero] at x0
      have xz : ∀ o, w4.frozen? ⟨w.heap.size + 1, o, none⟩ = false := unfroz h3
      have HB4 := Lib.hid (HMID.out.below.trans (hb4.mono HMID.out.below.size))
      have HO4 := Lib.hid (HO2.out.below hb4)
      have H2 := Lib.hid h2
      have H3 := Lib.hid h3
      clear h2 h3 hb4 HC HO2 HMID
      cases t
      · go_wp2_with fail
        have hf := getFin_of H2.out H3.out (.slice none 0 0) (.slice none 0 0) (.slice none 0 0) (.slice none 0 0) (.int .i64 2)
        exact get_ret hf.obj hf.err _ _ _ (getTells_nil (by rw [getR_may HPAR.out, HT.out]; rfl) (hf.below HB4.out))
      · go_wp2_with fail
        have hf := getFin_of H2.out H3.out (.slice pc m1 m2) (.slice pd m3 m4) (.slice ps m5 m6) (.slice pr m7 m8) (.int .i64 0)
        refine get_ret hf.obj hf.err _ _ _ ?_
        have hr : getR l = (0, o) := by rw [getR_may HPAR.out, HT.out]; rfl
        obtain ⟨w', g1, g2⟩ := hf.two
        exact ⟨pc, pd, ps, pr, m1, m2, m3, m4, m5, m6, m7, m8, by rw [hr]; rfl, hf.below HB4.out, by
          rw [hr]
          exact (HO4.out.grown g1 HH.out (fun k e => by injection e with e; omega)).grown g2 HH.out (fun k e => by injection e with e; omega)⟩

end Go.Proofs.Ythnehhidlaggeaa

/-! scarfjointref17.Bytes: number, text: the walks. -/
namespace Go.Proofs.Ythnehhidlaggeaa
set_option linter.unusedVariables false
set_option linter.unusedSimpArgs false
open Go.RowKit Ob

/-- the first k bytes, as a number -/
def beK (l : List UInt8) : Nat → Int
  | 0 => 0
  | k + 1 => 256 * beK l k + (l.getD k 0).toNat
theorem beK_bd (l : List UInt8) (k : Nat) (hk : k ≤ 4) : 0 ≤ beK l k ∧ beK l k ≤ 4294967295 := by
  have h0 := (l.getD 0 0).toNat_lt
  have h1 := (l.getD 1 0).toNat_lt
  have h2 := (l.getD 2 0).toNat_lt
  have h3 := (l.getD 3 0).toNat_lt
  match k, hk with
  | 0, _ => simp [beK]
  | 1, _ => simp only [beK]; omega
  | 2, _ => simp only [beK]; omega
  | 3, _ => simp only [beK]; omega
  | 4, _ => simp only [beK]; omega
theorem beK_4 (l : List UInt8) : beK l 4 = be32 l := by
  simp only [beK, be32]
  omega
/-- the reference's reader -/
def RRd (w : World) (B pb : Nat) (raw : List UInt8) (q : Nat) (bad : Bool) : Prop :=
  B ≤ pb ∧ q ≤ raw.length ∧ ∃ a n c, w.heap[pb]? = some (.cells #[.slice a n c, .int .i64 q, .bool bad] 128 (0, 0)) ∧ SlcAt w B a n c raw
theorem blk3 {w : World} {b : Nat} {t : TypeId} {v0 v1 v2 : Value} (h : w.heap[b]? = some (.cells #[v0, v1, v2] t (0, 0))) :
    w.cell? ⟨b, 0, none⟩ = some v0 ∧ w.cell? ⟨b, 1, none⟩ = some v1 ∧ w.cell? ⟨b, 2, none⟩ = some v2 ∧ ∀ o, w.frozen? ⟨b, o, none⟩ = false :=
  ⟨cell_of_row w b 0 _ _ _ h, cell_of_row w b 1 _ _ _ h, cell_of_row w b 2 _ _ _ h, fun o => by simp [World.frozen?, h]⟩
theorem blk_set3 {w : World} {b i : Nat} {t : TypeId} {cs : Array Value} (h : w.heap[b]? = some (.cells cs t (0, 0))) (u : Value) : (w.setCell ⟨b, i, none⟩ u).heap[b]? = some (.cells (cs.setIfInBounds i u) t (0, 0)) := blk_set2 h u
theorem RRd.one {w : World} {B pb : Nat} {a : Option Addr} {n c : Nat} {raw : List UInt8} {cs : Array Value} {t : TypeId} (hB : B ≤ pb) (hb : w.heap[pb]? = some (.cells cs t (0, 0))) (hs : SlcAt w B a n c raw) (i : Nat) (u : Value) : (w.setCell ⟨pb, i, none⟩ u).heap[pb]? = some (.cells (cs.setIfInBounds i u) t (0, 0)) ∧ SlcAt (w.setCell ⟨pb, i, none⟩ u) B a n c raw ∧ w.grownBy (w.setCell ⟨pb, i, none⟩ u) (some pb) := by
  have hlt := lt_of_block hb
  have g : w.grownBy (w.setCell ⟨pb, i, none⟩ u) (some pb) := ⟨rfl, rfl, rfl, by simp [World.setCell], fun k _ hk => Below.heap_setCell _ _ _ k (fun e => hk (by rw [e]))⟩
  exact ⟨blk_set2 hb u, hs.below ⟨g.os, g.tape, g.output, by have := g.size; omega, fun k hk => g.block k (by omega) (by simp; omega)⟩, g⟩

/-- nothing but draws -/
structure SameHeap (w w' : World) : Prop where
  heap : w'.heap = w.heap
  os : w'.os = w.os
  tape : w'.tape = w.tape
  output : w'.output = w.output
theorem SameHeap.drewN {w w' : World} (h : SameHeap w w') (n : Nat) : SameHeap w (w'.drewN n) := ⟨h.heap, h.os, h.tape, h.output⟩
theorem SameHeap.below {w w' : World} (h : SameHeap w w') {B : Nat} (hB : B ≤ w.heap.size) : Below B w w' := ⟨h.os, h.tape, h.output, by rw [h.heap]; exact Nat.le_refl _, fun k _ => by rw [h.heap]⟩
theorem SameHeap.grown {w w' : World} (h : SameHeap w w') (row : Option Nat) : w.grownBy w' row := ⟨h.os, h.tape, h.output, by rw [h.heap]; exact Nat.le_refl _, fun k _ _ => by rw [h.heap]⟩
/-- what number tells, and leaves -/
def RNum (w : World) (B pb : Nat) (raw : List UInt8) (q : Nat) (bad : Bool) (e : Ending) (w' : World) : Prop :=
  ∃ x q' bad', e = .returned (.int .i64 x) ∧ RRd w' B pb raw q' bad' ∧ w.grownBy w' (some pb) ∧ 0 ≤ x ∧ x ≤ 4294967295 ∧
    ((num (raw.drop q) = none ∧ bad' = true) ∨ (num (raw.drop q) = some (x, raw.drop q') ∧ bad' = bad))

set_option maxRecDepth 100000 in
set_option maxHeartbeats 2000000 in
theorem rnum_any (B pb : Nat) (raw : List UInt8) (q : Nat) (bad : Bool) (w : World) (h : RRd w B pb raw q bad) :
    Calls Try.prog 56 #[.pointer (some ⟨pb, 0, none⟩)] w (RNum w B pb raw q bad) := by
  obtain ⟨hB, hq, a, n, c, hbox, hs⟩ := h
  obtain ⟨y0, y1, y2, yz⟩ := blk3 hbox
  have hn := hs.len
  have hcap := hs.cap
  have hbig := hs.big
  rw [hn] at hq
  have HBX := Lib.hid hbox
  have HS := Lib.hid hs
  have HN := Lib.hid hn
  clear hbox hs hn
  have w1 : IntKind.i64.wrap ((n : Int) - q) = (n : Int) - q := IntWalk.i64_in _ (by omega)
  by_cases h4 : n - q < 4
  · have hd : decide ((n : Int) - q < 4) = true := decide_eq_true (by omega)
    go_enter Try.func56, Try.ntmps56
    go_wp2_with fail
    go_quiet (fail)
    go_wp2_with fail
    go_ret
    obtain ⟨e1, s1, g1⟩ := RRd.one hB HBX.out HS.out 2 (.bool true)
    simp only [List.setIfInBounds_toArray, List.set_cons_zero, List.set_cons_succ] at e1
    obtain ⟨e2, s2, g2⟩ := RRd.one hB e1 s1 1 (.int .i64 n)
    simp only [List.setIfInBounds_toArray, List.set_cons_zero, List.set_cons_succ] at e2
    have hnone : num (raw.drop q) = none := by
      unfold num
      rw [if_pos (by rw [List.length_drop, HN.out]; omega)]
    have key : ∀ w', w'.heap = ((w.setCell ⟨pb, 2, none⟩ (.bool true)).setCell ⟨pb, 1, none⟩ (.int .i64 n)).heap → w'.os = w.os → w'.tape = w.tape → w'.output = w.output → RNum w B pb raw q bad (.returned (.int .i64 0)) w' := by
      intro w' hh ho ht hu
      refine ⟨0, n, true, rfl, ⟨hB, by rw [HN.out]; omega, a, n, c, by rw [hh]; exact e2, s2.below ⟨ho, ht, hu, by rw [hh]; have := lt_of_block e2; omega, fun k _ => by rw [hh]⟩⟩, ⟨ho, ht, hu, by rw [hh]; exact (g1.trans g2).size, fun k h1 h2 => by rw [hh]; exact (g1.trans g2).block k h1 h2⟩, by omega, by omega, .inl ⟨hnone, rfl⟩⟩
    exact key _ rfl rfl rfl rfl
  · have hd : decide ((n : Int) - q < 4) = false := decide_eq_false (by omega)
    go_enter Try.func56, Try.ntmps56
    go_wp2_with fail
    go_quiet (fail)
    go_wp2_with fail
    have hsame : SameHeap w (w.drewN nq) := ⟨rfl, rfl, rfl, rfl⟩
    obtain ⟨wa, hwa⟩ : ∃ wa, wa = w.drewN nq := ⟨_, rfl⟩
    rw [← hwa] at hsame ⊢
    have HSM := Lib.hid hsame
    clear hwa hsame y0 y1 y2 yz w1 hd
    go_loopg [3, 4] 4 (fun gk v i wr => ∃ k : Nat, k ≤ 4 ∧ gk = 4 - k ∧ i = .int .i64 k ∧ v = .int .i64 (beK (raw.drop q) k) ∧ SameHeap w wr)
    case atStart => exact ⟨0, by omega, rfl, rfl, rfl, HSM.out⟩
    case round =>
      obtain ⟨k, hk, hgk, rfl, rfl, hsm⟩ := hrel
      have HG := Lib.hid hgk
      have hbox : wr.heap[pb]? = _ := (congrArg (fun h => h[pb]?) hsm.heap).trans HBX.out
      have hsl := HS.out.below (hsm.below (by have := lt_of_block HBX.out; omega))
      obtain ⟨y0, y1, y2, yz⟩ := blk3 hbox
      have HSM2 := Lib.hid hsm
      have HBX2 := Lib.hid hbox
      have HSL := Lib.hid hsl
      clear hgk hsm hbox hsl HSM
      by_cases hlt : k < 4
      · obtain ⟨bb, off, rfl, hbb, hc⟩ := HSL.out.some (by omega)
        have hql : q + k < raw.length := by rw [HN.out]; omega
        have hcell := hc (q + k) hql
        obtain ⟨x, hx⟩ : ∃ x, x = raw[q + k] := ⟨_, rfl⟩
        rw [← hx, u8V] at hcell
        have HX := Lib.hid hx
        have u0 := x.toNat_lt
        have hbk := beK_bd (raw.drop q) k (by omega)
        have hbk1 := beK_bd (raw.drop q) (k + 1) (by omega)
        have hget : (raw.drop q).getD k 0 = x := by
          rw [hx, List.getD_eq_getElem?_getD, List.getElem?_drop, List.getElem?_eq_getElem hql]
          rfl
        obtain ⟨v, hv⟩ : ∃ v, v = beK (raw.drop q) k := ⟨_, rfl⟩
        have hv1 : beK (raw.drop q) (k + 1) = 256 * v + x.toNat := by
          rw [beK, hget, hv]
        rw [hv1] at hbk1
        rw [← hv] at hbk ⊢
        have HV1 := Lib.hid hv1
        have hqk1 : IntKind.i64.wrap ((q : Int) + k) = (q : Int) + k := IntWalk.i64_in _ (by omega)
        have hqk2 : ((q : Int) + k).toNat = q + k := by omega
        have hqk3 : (0 : Int) ≤ (q : Int) + k := by omega
        have hqk4 : (q : Int) + k < n := by omega
        have hvm : IntKind.i64.wrap (256 * v) = 256 * v := IntWalk.i64_in _ (by omega)
        have hva : IntKind.i64.wrap (256 * v + x.toNat) = 256 * v + x.toNat := IntWalk.i64_in _ (by omega)
        clear hc hx hget hv hv1 hbk hbk1
        go_wp2_with fail
        go_quiet (fail)
        go_wp2_with fail
        go_roundg (4 - (k + 1))
        case measure => have := HG.out; omega
        case rel => exact ⟨k + 1, by omega, rfl, by go_num, by rw [HV1.out], HSM2.out.drewN _⟩
      · obtain rfl : k = 4 := by omega
        have hb4 := beK_4 (raw.drop q)
        obtain ⟨v, hv⟩ : ∃ v, v = beK (raw.drop q) 4 := ⟨_, rfl⟩
        rw [← hv] at hb4 ⊢
        have hvb := be32_bd (raw.drop q)
        rw [← hb4] at hvb
        have HV := Lib.hid hb4
        have hq4 : IntKind.i64.wrap ((q : Int) + 4) = (q : Int) + 4 := IntWalk.i64_in _ (by omega)
        clear hv hb4
        go_wp2_with fail
        go_ret
        obtain ⟨e1, s1, g1⟩ := RRd.one hB HBX2.out HSL.out 1 (.int .i64 ((q + 4 : Nat) : Int))
        simp only [List.setIfInBounds_toArray, List.set_cons_zero, List.set_cons_succ] at e1
        have hsome : num (raw.drop q) = some (v, raw.drop (q + 4)) := by
          unfold num
          rw [if_neg (by rw [List.length_drop, HN.out]; omega), HV.out, List.drop_drop]
        refine ⟨v, q + 4, bad, rfl, ⟨hB, by rw [HN.out]; omega, _, n, c, e1, s1⟩, ?_, hvb.1, hvb.2, .inr ⟨hsome, rfl⟩⟩
        exact (HSM2.out.grown _).trans g1

/-- what text tells, and leaves -/
def RTxt (w : World) (B pb : Nat) (raw : List UInt8) (q : Nat) (bad : Bool) (e : Ending) (w' : World) : Prop :=
  ∃ t q' bad', e = .returned (.string (str t)) ∧ t.length ≤ 4294967295 ∧ RRd w' B pb raw q' bad' ∧ w.grownBy w' (some pb) ∧
    ((txt (raw.drop q) = none ∧ bad' = true) ∨ (txt (raw.drop q) = some (t, raw.drop q') ∧ bad' = bad))
theorem SlcAt.sub {w : World} {B : Nat} {a : Option Addr} {n c q x : Nat} {raw : List UInt8} (h : SlcAt w B a n c raw) (hx : q + x ≤ n) : SlcAt w B (a.map fun z => z.add q) x (c - q) ((raw.drop q).take x) :=
  (h.drop (k := q) (by omega)).take (by omega)

set_option maxRecDepth 100000 in
set_option maxHeartbeats 2000000 in
theorem rtxt_any (B pb : Nat) (raw : List UInt8) (q : Nat) (bad : Bool) (w : World) (h : RRd w B pb raw q bad) :
    Calls Try.prog 58 #[.pointer (some ⟨pb, 0, none⟩)] w (RTxt w B pb raw q bad) := by
  have H := Lib.hid (rnum_any B pb raw q bad w h)
  clear h
  go_enter Try.func58, Try.ntmps58
  go_wp2_with fail
  refine H.out.mono ?_
  intro e w1 he
  obtain ⟨x, q1, bad1, rfl, ⟨hB, hq1, a, n, c, hbox, hs⟩, hg, x0, x1, hnum⟩ := he
  obtain ⟨y0, y1, y2, yz⟩ := blk3 hbox
  have hn := hs.len
  have hcap := hs.cap
  have hbig := hs.big
  rw [hn] at hq1
  have HBX := Lib.hid hbox
  have HS := Lib.hid hs
  have HN := Lib.hid hn
  have HG := Lib.hid hg
  have HNUM := Lib.hid hnum
  obtain ⟨y, rfl⟩ := Int.eq_ofNat_of_zero_le x0
  clear hbox hs hn hg hnum H
  have hw1 : IntKind.i64.wrap ((n : Int) - q1) = (n : Int) - q1 := IntWalk.i64_in _ (by omega)
  by_cases hlt : n - q1 < y
  · have hd : decide ((n : Int) - q1 < y) = true := decide_eq_true (by omega)
    go_wp2_with fail
    go_quiet (fail)
    go_wp2_with fail
    go_ret
    obtain ⟨e1, s1, g1⟩ := RRd.one hB HBX.out HS.out 2 (.bool true)
    simp only [List.setIfInBounds_toArray, List.set_cons_zero, List.set_cons_succ] at e1
    have hnone : txt (raw.drop q) = none := by
      unfold txt
      rcases HNUM.out with ⟨h1, _⟩ | ⟨h1, _⟩
      · rw [h1]
      · rw [h1]
        simp only [Int.toNat_natCast]
        rw [if_pos (by rw [List.length_drop, HN.out]; omega)]
    have key : ∀ w', w'.heap = (w1.setCell ⟨pb, 2, none⟩ (.bool true)).heap → w'.os = w1.os → w'.tape = w1.tape → w'.output = w1.output → RTxt w B pb raw q bad (.returned (.string (str []))) w' := by
      intro w' hh ho ht hu
      refine ⟨[], q1, true, rfl, by simp, ⟨hB, by rw [HN.out]; omega, a, n, c, by rw [hh]; exact e1, s1.below ⟨ho, ht, hu, by rw [hh]; exact Nat.le_refl _, fun k _ => by rw [hh]⟩⟩, HG.out.trans ⟨ho, ht, hu, by rw [hh]; exact g1.size, fun k h1 h2 => by rw [hh]; exact g1.block k h1 h2⟩, .inl ⟨hnone, rfl⟩⟩
    exact key _ rfl rfl rfl rfl
  · have hd : decide ((n : Int) - q1 < y) = false := decide_eq_false (by omega)
    have hqy : IntKind.i64.wrap ((q1 : Int) + y) = (q1 : Int) + y := IntWalk.i64_in _ (by omega)
    go_wp2_with fail
    go_quiet (fail)
    obtain ⟨t, ht⟩ : ∃ t, t = (raw.drop q1).take y := ⟨_, rfl⟩
    have hsub := HS.out.sub (q := q1) (x := y) (by omega)
    rw [← ht] at hsub
    have HTT := Lib.hid ht
    have hlo : (0 : Int) ≤ q1 := by omega
    obtain ⟨e1, s1, g1⟩ := RRd.one hB HBX.out HS.out 1 (.int .i64 ((q1 + y : Nat) : Int))
    simp only [List.setIfInBounds_toArray, List.set_cons_zero, List.set_cons_succ] at e1
    have hR : (txt (raw.drop q) = none ∧ bad1 = true) ∨ (txt (raw.drop q) = some (t, raw.drop (q1 + y)) ∧ bad1 = bad) := by
      unfold txt
      rcases HNUM.out with ⟨h1, h2⟩ | ⟨h1, h2⟩
      · exact .inl ⟨by rw [h1], h2⟩
      · refine .inr ⟨?_, h2⟩
        rw [h1]
        simp only [Int.toNat_natCast]
        rw [if_neg (by rw [List.length_drop, HN.out]; omega), List.drop_drop, HTT.out]
    have key : Hid (∀ w', w'.heap = (w1.setCell ⟨pb, 1, none⟩ (.int .i64 ((q1 + y : Nat) : Int))).heap → w'.os = w1.os → w'.tape = w1.tape → w'.output = w1.output → RTxt w B pb raw q bad (.returned (.string (str t))) w') := by
      intro w' hh ho ht hu
      refine ⟨t, q1 + y, bad1, rfl, by rw [HTT.out, List.length_take]; omega, ⟨hB, by rw [HN.out]; omega, a, n, c, by rw [hh]; exact e1, s1.below ⟨ho, ht, hu, by rw [hh]; exact Nat.le_refl _, fun k _ => by rw [hh]⟩⟩, HG.out.trans ⟨ho, ht, hu, by rw [hh]; exact g1.size, fun k h1 h2 => by rw [hh]; exact g1.block k h1 h2⟩, hR⟩
    have hBs : B ≤ w1.heap.size := by have := lt_of_block HBX.out; omega
    clear e1 s1 g1 hR ht
    by_cases hcq : c = q1
    · have hy0 : y = 0 := by omega
      subst hcq hy0
      have hcv : ∀ j, (convert 61 9 (.slice a 0 0)).run Try.prog (w1.drewN j) = .ok (.string (str t)) (w1.drewN j) := fun j => by
        have he : t = [] := List.eq_nil_of_length_eq_zero hsub.len
        rw [he]
        have h0 := (HS.out.drop (k := c) (by omega))
        exact BytesIn.run (w := w1.drewN j) (l := []) ⟨0, 0, a, rfl, rfl, by
          rcases HS.out.loc with ⟨h1, _⟩ | ⟨b, off, h1, h2, _⟩
          · exact .inl ⟨rfl, h1⟩
          · exact .inr ⟨b, off, h1, by show b < w1.heap.size; omega, fun i hi => by simp at hi⟩⟩
      clear hsub
      go_wp2_with fail
      go_quiet (fail)
      go_wp2_with fail
      go_ret
      exact key.out _ rfl rfl rfl rfl
    · have hcv : ∀ j, (convert 61 9 (.slice (a.map fun z => z.add q1) y (c - q1))).run Try.prog (w1.drewN j) = .ok (.string (str t)) (w1.drewN j) := fun j =>
        BytesIn.run (w := w1.drewN j) (SlcAt.bytesIn (B := B) ⟨hsub.len, hsub.cap, hsub.big, hsub.loc⟩ hBs)
      clear hsub
      go_wp2_with fail
      go_quiet (fail)
      go_wp2_with fail
      go_ret
      exact key.out _ rfl rfl rfl rfl

end Go.Proofs.Ythnehhidlaggeaa

/-! scarfjointref17.Get: what holds in its midst. -/
namespace Go.Proofs.Ythnehhidlaggeaa
set_option linter.unusedVariables false
set_option linter.unusedSimpArgs false
open Go.RowKit Ob

theorem RRd.grown {w w2 : World} {B pb q : Nat} {bs : List UInt8} {bad : Bool} {row : Option Nat} (h : RRd w B pb bs q bad) (hg : w.grownBy w2 row) (hne : some pb ≠ row) (hB : ∀ k, row = some k → B ≤ k) : RRd w2 B pb bs q bad := by
  obtain ⟨h1, h2, a, n, c, h3, h4⟩ := h
  have hlt := lt_of_block h3
  exact ⟨h1, h2, a, n, c, (hg.block pb hlt hne).trans h3, h4.below ⟨hg.os, hg.tape, hg.output, hg.size, fun k hk => hg.block k (by omega) (fun e => by have := hB k e.symm; omega)⟩⟩
theorem RRd.box {w : World} {B pb q : Nat} {bs : List UInt8} {bad : Bool} (h : RRd w B pb bs q bad) : ∃ cs, w.heap[pb]? = some (.cells cs 128 (0, 0)) := by
  obtain ⟨_, _, a, n, c, h2, _⟩ := h
  exact ⟨_, h2⟩
/-- behind some parts: the reader, and the rows so far -/
structure RGMid (w wr : World) (B : Nat) (bs : List UInt8) (q : Nat) (bad : Bool) (vc vd vs vr : Value) (xc xd : List Int) (xs : List Raw) (xr : List Rel) : Prop where
  below : Below w.heap.size w wr
  rd : RRd wr B (w.heap.size + 1) bs q bad
  bl : B ≤ w.heap.size
  res : wr.heap[w.heap.size]? = some (.cells #[.slice none 0 0, .slice none 0 0, .slice none 0 0, .slice none 0 0] 60 (0, 0))
  ob : wr.heap[w.heap.size + 2]? = some (.cells #[vc, vd, vs, vr] 60 (0, 0))
  rc : wr.ownsRow (w.heap.size + 3) 22 1 vc xc.length (xc.flatMap (fun x => [Value.int .u32 x]))
  rd_ : wr.ownsRow (w.heap.size + 3) 21 1 vd xd.length (xd.flatMap (fun x => [Value.int .i32 (wrap32 x)]))
  rs : wr.ownsRow (w.heap.size + 3) 106 7 vs xs.length (xs.flatMap (fun x => symCells x.sym))
  rr : wr.ownsRow (w.heap.size + 3) 110 3 vr xr.length (xr.flatMap (relCells))
theorem RGMid.size {w wr : World} {B q : Nat} {bs : List UInt8} {bad : Bool} {vc vd vs vr : Value} {xc xd : List Int} {xs : List Raw} {xr : List Rel} (h : RGMid w wr B bs q bad vc vd vs vr xc xd xs xr) : w.heap.size + 2 < wr.heap.size := lt_of_block h.ob
theorem RGMid.cells {w wr : World} {B q : Nat} {bs : List UInt8} {bad : Bool} {vc vd vs vr : Value} {xc xd : List Int} {xs : List Raw} {xr : List Rel} (h : RGMid w wr B bs q bad vc vd vs vr xc xd xs xr) : wr.cell? ⟨w.heap.size + 2, 0, none⟩ = some vc ∧ wr.cell? ⟨w.heap.size + 2, 1, none⟩ = some vd ∧ wr.cell? ⟨w.heap.size + 2, 2, none⟩ = some vs ∧ wr.cell? ⟨w.heap.size + 2, 3, none⟩ = some vr ∧ wr.cell? ⟨w.heap.size + 1, 2, none⟩ = some (.bool bad) ∧ ∀ o, wr.frozen? ⟨w.heap.size + 2, o, none⟩ = false := by
  obtain ⟨y0, y1, y2, y3, yz⟩ := blk4 h.ob
  obtain ⟨_, _, a, n, c, hb, _⟩ := h.rd
  obtain ⟨_, _, x2, _⟩ := blk3 hb
  exact ⟨y0, y1, y2, y3, x2, yz⟩
/-- a change of one block that is the call's own -/
theorem below_of_grown {w wr w2 : World} {row : Option Nat} (h : Below w.heap.size w wr) (hg : wr.grownBy w2 row) (hr : ∀ k, row = some k → w.heap.size ≤ k) : Below w.heap.size w w2 := h.grown hg h.size hr
/-- the reader has gone on -/
theorem RGMid.read {w wr : World} {B q : Nat} {bs : List UInt8} {bad : Bool} {vc vd vs vr : Value} {xc xd : List Int} {xs : List Raw} {xr : List Rel} (h : RGMid w wr B bs q bad vc vd vs vr xc xd xs xr) {w2 : World} {q2 : Nat} {bad2 : Bool} (hg : wr.grownBy w2 (some (w.heap.size + 1))) (hr : RRd w2 B (w.heap.size + 1) bs q2 bad2) : RGMid w w2 B bs q2 bad2 vc vd vs vr xc xd xs xr := by
  obtain ⟨cs, hp⟩ := h.rd.box
  have hs := h.size
  exact ⟨below_of_grown h.below hg (fun k e => by injection e with e; omega), hr, h.bl, (hg.block _ (by omega) (by simp)).trans h.res, (hg.block _ hs (by simp)).trans h.ob, h.rc.kept hg (own_off h.rc hp (by decide)), h.rd_.kept hg (own_off h.rd_ hp (by decide)), h.rs.kept hg (own_off h.rs hp (by decide)), h.rr.kept hg (own_off h.rr hp (by decide))⟩
theorem RGMid.alloc {w wr : World} {B q : Nat} {bs : List UInt8} {bad : Bool} {vc vd vs vr : Value} {xc xd : List Int} {xs : List Raw} {xr : List Rel} (h : RGMid w wr B bs q bad vc vd vs vr xc xd xs xr) (o : Go.Obj) : RGMid w (wr.alloc o) B bs q bad vc vd vs vr xc xd xs xr :=
  h.read (World.grownBy_alloc wr o _) (h.rd.grown (World.grownBy_alloc wr o none) (by simp) (by simp))
theorem RGMid.go {w wr : World} {B q : Nat} {bs : List UInt8} {bad : Bool} {vc vd vs vr : Value} {xc xd : List Int} {xs : List Raw} {xr : List Rel} (h : RGMid w wr B bs q bad vc vd vs vr xc xd xs xr) {w2 : World} (hb : Below wr.heap.size wr w2) : RGMid w w2 B bs q bad vc vd vs vr xc xd xs xr := by
  have hg : wr.grownBy w2 none := ⟨hb.os, hb.tape, hb.output, hb.size, fun k hk _ => hb.block k hk⟩
  have hg2 : wr.grownBy w2 (some (w.heap.size + 1)) := ⟨hb.os, hb.tape, hb.output, hb.size, fun k hk _ => hb.block k hk⟩
  exact h.read hg2 (h.rd.grown hg (by simp) (by simp))
/-- a store into a block that nobody here owns -/
theorem RGMid.store {w wr : World} {B q : Nat} {bs : List UInt8} {bad : Bool} {vc vd vs vr : Value} {xc xd : List Int} {xs : List Raw} {xr : List Rel} (h : RGMid w wr B bs q bad vc vd vs vr xc xd xs xr) {k i : Nat} {cs : Array Value} {t : TypeId} (hk : wr.heap[k]? = some (.cells cs t (0, 0))) (h0 : w.heap.size + 2 < k) (hs : some k ≠ vs.ownBlock) (hr : some k ≠ vr.ownBlock) (t1 : 22 ≠ t) (t2 : 21 ≠ t) (u : Value) : RGMid w (wr.setCell ⟨k, i, none⟩ u) B bs q bad vc vd vs vr xc xd xs xr := by
  have hsz := h.size
  have hbl := h.bl
  have g : wr.grownBy (wr.setCell ⟨k, i, none⟩ u) (some k) := ⟨rfl, rfl, rfl, by simp [World.setCell], fun j _ hj => Below.heap_setCell _ _ _ j (fun e => hj (by rw [e]))⟩
  exact ⟨below_of_grown h.below g (fun k e => by injection e with e; omega), h.rd.grown g (by simp; omega) (by intro j e; injection e with e; omega), h.bl, (g.block _ (by omega) (by simp; omega)).trans h.res, (g.block _ hsz (by simp; omega)).trans h.ob, h.rc.kept g (own_off h.rc hk t1), h.rd_.kept g (own_off h.rd_ hk t2), h.rs.kept g (.inr fun e => hs e.symm), h.rr.kept g (.inr fun e => hr e.symm)⟩
/-- a part more -/
theorem RGMid.set_c {w wr : World} {B q : Nat} {bs : List UInt8} {bad : Bool} {vc vd vs vr : Value} {xc xd : List Int} {xs : List Raw} {xr : List Rel} (h : RGMid w wr B bs q bad vc vd vs vr xc xd xs xr) {x : Int} {v' : Value} {w2 : World} (hown : w2.ownsRow (w.heap.size + 3) 22 1 v' (xc.length + 1) (xc.flatMap (fun x => [Value.int .u32 x]) ++ (fun x => [Value.int .u32 x]) x)) (hgr : wr.grownBy w2 vc.ownBlock) :
    RGMid w (w2.setCell ⟨w.heap.size + 2, 0, none⟩ v') B bs q bad v' vd vs vr (xc ++ [x]) xd xs xr := by
  have hsz := h.size
  have hbl := h.bl
  obtain ⟨cs, hp⟩ := h.rd.box
  have hrow : ∀ k, vc.ownBlock = some k → w.heap.size + 3 ≤ k := fun k e => (h.rc.lt k e).1
  have hob := (hgr.block _ hsz (own_ne h.rc h.ob (by decide))).trans h.ob
  have hres := (hgr.block _ (by omega) (own_ne h.rc h.res (by decide))).trans h.res
  have hrd := h.rd.grown hgr (own_ne h.rc hp (by decide)) (fun k e => by have := hrow k e; omega)
  have g : w2.grownBy (w2.setCell ⟨w.heap.size + 2, 0, none⟩ v') (some (w.heap.size + 2)) := ⟨rfl, rfl, rfl, by simp [World.setCell], fun j _ hj => Below.heap_setCell _ _ _ j (fun e => hj (by rw [e]))⟩
  have hg2 := hgr.size
  have hnew : (w2.setCell ⟨w.heap.size + 2, 0, none⟩ v').ownsRow (w.heap.size + 3) 22 1 v' (xc ++ [x]).length ((xc ++ [x]).flatMap (fun x => [Value.int .u32 x])) := by
    rw [List.length_append, List.flatMap_append, List.flatMap_singleton]
    exact hown.kept g (own_off hown hob (by decide))
  refine ⟨below_of_grown (below_of_grown h.below hgr (fun k e => by have := hrow k e; omega)) g (fun k e => by injection e with e; omega), hrd.grown g (by simp) (by intro j e; injection e with e; omega), h.bl, (g.block _ (by omega) (by simp)).trans hres, ?_, hnew, ((h.rd_.kept hgr (own_apart h.rc h.rd_ (by decide))).kept g (own_off (h.rd_.kept hgr (own_apart h.rc h.rd_ (by decide))) hob (by decide))), ((h.rs.kept hgr (own_apart h.rc h.rs (by decide))).kept g (own_off (h.rs.kept hgr (own_apart h.rc h.rs (by decide))) hob (by decide))), ((h.rr.kept hgr (own_apart h.rc h.rr (by decide))).kept g (own_off (h.rr.kept hgr (own_apart h.rc h.rr (by decide))) hob (by decide)))⟩
  simp [World.setCell, Array.getElem?_modify, hob]
/-- a part more -/
theorem RGMid.set_d {w wr : World} {B q : Nat} {bs : List UInt8} {bad : Bool} {vc vd vs vr : Value} {xc xd : List Int} {xs : List Raw} {xr : List Rel} (h : RGMid w wr B bs q bad vc vd vs vr xc xd xs xr) {x : Int} {v' : Value} {w2 : World} (hown : w2.ownsRow (w.heap.size + 3) 21 1 v' (xd.length + 1) (xd.flatMap (fun x => [Value.int .i32 (wrap32 x)]) ++ (fun x => [Value.int .i32 (wrap32 x)]) x)) (hgr : wr.grownBy w2 vd.ownBlock) :
    RGMid w (w2.setCell ⟨w.heap.size + 2, 1, none⟩ v') B bs q bad vc v' vs vr xc (xd ++ [x]) xs xr := by
  have hsz := h.size
  have hbl := h.bl
  obtain ⟨cs, hp⟩ := h.rd.box
  have hrow : ∀ k, vd.ownBlock = some k → w.heap.size + 3 ≤ k := fun k e => (h.rd_.lt k e).1
  have hob := (hgr.block _ hsz (own_ne h.rd_ h.ob (by decide))).trans h.ob
  have hres := (hgr.block _ (by omega) (own_ne h.rd_ h.res (by decide))).trans h.res
  have hrd := h.rd.grown hgr (own_ne h.rd_ hp (by decide)) (fun k e => by have := hrow k e; omega)
  have g : w2.grownBy (w2.setCell ⟨w.heap.size + 2, 1, none⟩ v') (some (w.heap.size + 2)) := ⟨rfl, rfl, rfl, by simp [World.setCell], fun j _ hj => Below.heap_setCell _ _ _ j (fun e => hj (by rw [e]))⟩
  have hg2 := hgr.size
  have hnew : (w2.setCell ⟨w.heap.size + 2, 1, none⟩ v').ownsRow (w.heap.size + 3) 21 1 v' (xd ++ [x]).length ((xd ++ [x]).flatMap (fun x => [Value.int .i32 (wrap32 x)])) := by
    rw [List.length_append, List.flatMap_append, List.flatMap_singleton]
    exact hown.kept g (own_off hown hob (by decide))
  refine ⟨below_of_grown (below_of_grown h.below hgr (fun k e => by have := hrow k e; omega)) g (fun k e => by injection e with e; omega), hrd.grown g (by simp) (by intro j e; injection e with e; omega), h.bl, (g.block _ (by omega) (by simp)).trans hres, ?_, ((h.rc.kept hgr (own_apart h.rd_ h.rc (by decide))).kept g (own_off (h.rc.kept hgr (own_apart h.rd_ h.rc (by decide))) hob (by decide))), hnew, ((h.rs.kept hgr (own_apart h.rd_ h.rs (by decide))).kept g (own_off (h.rs.kept hgr (own_apart h.rd_ h.rs (by decide))) hob (by decide))), ((h.rr.kept hgr (own_apart h.rd_ h.rr (by decide))).kept g (own_off (h.rr.kept hgr (own_apart h.rd_ h.rr (by decide))) hob (by decide)))⟩
  simp [World.setCell, Array.getElem?_modify, hob]
/-- a part more -/
theorem RGMid.set_s {w wr : World} {B q : Nat} {bs : List UInt8} {bad : Bool} {vc vd vs vr : Value} {xc xd : List Int} {xs : List Raw} {xr : List Rel} (h : RGMid w wr B bs q bad vc vd vs vr xc xd xs xr) {x : Raw} {v' : Value} {w2 : World} (hown : w2.ownsRow (w.heap.size + 3) 106 7 v' (xs.length + 1) (xs.flatMap (fun x => symCells x.sym) ++ (fun x => symCells x.sym) x)) (hgr : wr.grownBy w2 vs.ownBlock) :
    RGMid w (w2.setCell ⟨w.heap.size + 2, 2, none⟩ v') B bs q bad vc vd v' vr xc xd (xs ++ [x]) xr := by
  have hsz := h.size
  have hbl := h.bl
  obtain ⟨cs, hp⟩ := h.rd.box
  have hrow : ∀ k, vs.ownBlock = some k → w.heap.size + 3 ≤ k := fun k e => (h.rs.lt k e).1
  have hob := (hgr.block _ hsz (own_ne h.rs h.ob (by decide))).trans h.ob
  have hres := (hgr.block _ (by omega) (own_ne h.rs h.res (by decide))).trans h.res
  have hrd := h.rd.grown hgr (own_ne h.rs hp (by decide)) (fun k e => by have := hrow k e; omega)
  have g : w2.grownBy (w2.setCell ⟨w.heap.size + 2, 2, none⟩ v') (some (w.heap.size + 2)) := ⟨rfl, rfl, rfl, by simp [World.setCell], fun j _ hj => Below.heap_setCell _ _ _ j (fun e => hj (by rw [e]))⟩
  have hg2 := hgr.size
  have hnew : (w2.setCell ⟨w.heap.size + 2, 2, none⟩ v').ownsRow (w.heap.size + 3) 106 7 v' (xs ++ [x]).length ((xs ++ [x]).flatMap (fun x => symCells x.sym)) := by
    rw [List.length_append, List.flatMap_append, List.flatMap_singleton]
    exact hown.kept g (own_off hown hob (by decide))
  refine ⟨below_of_grown (below_of_grown h.below hgr (fun k e => by have := hrow k e; omega)) g (fun k e => by injection e with e; omega), hrd.grown g (by simp) (by intro j e; injection e with e; omega), h.bl, (g.block _ (by omega) (by simp)).trans hres, ?_, ((h.rc.kept hgr (own_apart h.rs h.rc (by decide))).kept g (own_off (h.rc.kept hgr (own_apart h.rs h.rc (by decide))) hob (by decide))), ((h.rd_.kept hgr (own_apart h.rs h.rd_ (by decide))).kept g (own_off (h.rd_.kept hgr (own_apart h.rs h.rd_ (by decide))) hob (by decide))), hnew, ((h.rr.kept hgr (own_apart h.rs h.rr (by decide))).kept g (own_off (h.rr.kept hgr (own_apart h.rs h.rr (by decide))) hob (by decide)))⟩
  simp [World.setCell, Array.getElem?_modify, hob]
/-- a part more -/
theorem RGMid.set_r {w wr : World} {B q : Nat} {bs : List UInt8} {bad : Bool} {vc vd vs vr : Value} {xc xd : List Int} {xs : List Raw} {xr : List Rel} (h : RGMid w wr B bs q bad vc vd vs vr xc xd xs xr) {x : Rel} {v' : Value} {w2 : World} (hown : w2.ownsRow (w.heap.size + 3) 110 3 v' (xr.length + 1) (xr.flatMap (relCells) ++ (relCells) x)) (hgr : wr.grownBy w2 vr.ownBlock) :
    RGMid w (w2.setCell ⟨w.heap.size + 2, 3, none⟩ v') B bs q bad vc vd vs v' xc xd xs (xr ++ [x]) := by
  have hsz := h.size
  have hbl := h.bl
  obtain ⟨cs, hp⟩ := h.rd.box
  have hrow : ∀ k, vr.ownBlock = some k → w.heap.size + 3 ≤ k := fun k e => (h.rr.lt k e).1
  have hob := (hgr.block _ hsz (own_ne h.rr h.ob (by decide))).trans h.ob
  have hres := (hgr.block _ (by omega) (own_ne h.rr h.res (by decide))).trans h.res
  have hrd := h.rd.grown hgr (own_ne h.rr hp (by decide)) (fun k e => by have := hrow k e; omega)
  have g : w2.grownBy (w2.setCell ⟨w.heap.size + 2, 3, none⟩ v') (some (w.heap.size + 2)) := ⟨rfl, rfl, rfl, by simp [World.setCell], fun j _ hj => Below.heap_setCell _ _ _ j (fun e => hj (by rw [e]))⟩
  have hg2 := hgr.size
  have hnew : (w2.setCell ⟨w.heap.size + 2, 3, none⟩ v').ownsRow (w.heap.size + 3) 110 3 v' (xr ++ [x]).length ((xr ++ [x]).flatMap (relCells)) := by
    rw [List.length_append, List.flatMap_append, List.flatMap_singleton]
    exact hown.kept g (own_off hown hob (by decide))
  refine ⟨below_of_grown (below_of_grown h.below hgr (fun k e => by have := hrow k e; omega)) g (fun k e => by injection e with e; omega), hrd.grown g (by simp) (by intro j e; injection e with e; omega), h.bl, (g.block _ (by omega) (by simp)).trans hres, ?_, ((h.rc.kept hgr (own_apart h.rr h.rc (by decide))).kept g (own_off (h.rc.kept hgr (own_apart h.rr h.rc (by decide))) hob (by decide))), ((h.rd_.kept hgr (own_apart h.rr h.rd_ (by decide))).kept g (own_off (h.rd_.kept hgr (own_apart h.rr h.rd_ (by decide))) hob (by decide))), ((h.rs.kept hgr (own_apart h.rr h.rs (by decide))).kept g (own_off (h.rs.kept hgr (own_apart h.rr h.rs (by decide))) hob (by decide))), hnew⟩
  simp [World.setCell, Array.getElem?_modify, hob]
/-- a part's box beside it -/
structure RBMid (w wr : World) (B : Nat) (bs : List UInt8) (q : Nat) (bad : Bool) (vc vd vs vr : Value) (xc xd : List Int) (xs : List Raw) (xr : List Rel) (b4 : Nat) (cs : Array Value) (t : TypeId) : Prop where
  g : RGMid w wr B bs q bad vc vd vs vr xc xd xs xr
  box : wr.heap[b4]? = some (.cells cs t (0, 0))
  lt : w.heap.size + 2 < b4
  ns : some b4 ≠ vs.ownBlock
  nr : some b4 ≠ vr.ownBlock
  t1 : 22 ≠ t
  t2 : 21 ≠ t
theorem RGMid.newbox {w wr : World} {B q : Nat} {bs : List UInt8} {bad : Bool} {vc vd vs vr : Value} {xc xd : List Int} {xs : List Raw} {xr : List Rel} (h : RGMid w wr B bs q bad vc vd vs vr xc xd xs xr) (cs : Array Value) (t : TypeId) (t1 : 22 ≠ t) (t2 : 21 ≠ t) : RBMid w (wr.alloc (.cells cs t)) B bs q bad vc vd vs vr xc xd xs xr wr.heap.size cs t :=
  ⟨h.alloc _, heap_alloc_new _ _, h.size, fun e => by have := (h.rs.lt _ e.symm).2; omega, fun e => by have := (h.rr.lt _ e.symm).2; omega, t1, t2⟩
theorem RBMid.read {w wr : World} {B q : Nat} {bs : List UInt8} {bad : Bool} {vc vd vs vr : Value} {xc xd : List Int} {xs : List Raw} {xr : List Rel} {b4 : Nat} {cs : Array Value} {t : TypeId} (h : RBMid w wr B bs q bad vc vd vs vr xc xd xs xr b4 cs t) {w2 : World} {q2 : Nat} {bad2 : Bool} (hg : wr.grownBy w2 (some (w.heap.size + 1))) (hr : RRd w2 B (w.heap.size + 1) bs q2 bad2) : RBMid w w2 B bs q2 bad2 vc vd vs vr xc xd xs xr b4 cs t :=
  ⟨h.g.read hg hr, (hg.block _ (lt_of_block h.box) (by have := h.lt; simp; omega)).trans h.box, h.lt, h.ns, h.nr, h.t1, h.t2⟩
theorem RBMid.store {w wr : World} {B q : Nat} {bs : List UInt8} {bad : Bool} {vc vd vs vr : Value} {xc xd : List Int} {xs : List Raw} {xr : List Rel} {b4 : Nat} {cs : Array Value} {t : TypeId} (h : RBMid w wr B bs q bad vc vd vs vr xc xd xs xr b4 cs t) (i : Nat) (u : Value) : RBMid w (wr.setCell ⟨b4, i, none⟩ u) B bs q bad vc vd vs vr xc xd xs xr b4 (cs.setIfInBounds i u) t :=
  ⟨h.g.store h.box h.lt h.ns h.nr h.t1 h.t2 u, blk_set2 h.box u, h.lt, h.ns, h.nr, h.t1, h.t2⟩

/-! ## What has been read -/
def A1 (bs : List UInt8) (xc : List Int) (r : List UInt8) : Prop := ∃ n l, num bs = some (n, l) ∧ many num n.toNat l = some (xc, r)
def A2 (bs : List UInt8) (xc xd : List Int) (r : List UInt8) : Prop := ∃ r1 n l, A1 bs xc r1 ∧ num r1 = some (n, l) ∧ many num n.toNat l = some (xd, r)
def A3 (bs : List UInt8) (xc xd : List Int) (xs : List Raw) (r : List UInt8) : Prop := ∃ r1 n l, A2 bs xc xd r1 ∧ num r1 = some (n, l) ∧ many raw n.toNat l = some (xs, r)
def A4 (bs : List UInt8) (xc xd : List Int) (xs : List Raw) (xr : List Rel) (r : List UInt8) : Prop := ∃ r1 n l, A3 bs xc xd xs r1 ∧ num r1 = some (n, l) ∧ many rel n.toNat l = some (xr, r)
theorem A4.parse {bs r : List UInt8} {xc xd : List Int} {xs : List Raw} {xr : List Rel} (h : A4 bs xc xd xs xr r) : rparse bs = some (objOf xc xd xs xr, r) := by
  obtain ⟨r3, n4, l4, ⟨r2, n3, l3, ⟨r1, n2, l2, ⟨n1, l1, a1, b1⟩, a2, b2⟩, a3, b3⟩, a4, b4⟩ := h
  unfold rparse
  rw [a1]; simp only
  rw [b1]; simp only
  rw [a2]; simp only
  rw [b2]; simp only
  rw [a3]; simp only
  rw [b3]; simp only
  rw [a4]; simp only
  rw [b4]
theorem A4.good {bs r : List UInt8} {xc xd : List Int} {xs : List Raw} {xr : List Rel} (h : A4 bs xc xd xs xr r) : (∀ x ∈ xc, 0 ≤ x ∧ x ≤ 4294967295) ∧ (∀ x ∈ xs, RawIn x) ∧ (∀ x ∈ xr, (0 ≤ x.pos ∧ x.pos ≤ 4294967295) ∧ (0 ≤ x.sym ∧ x.sym ≤ 4294967295) ∧ (0 ≤ x.add ∧ x.add ≤ 4294967295)) := by
  obtain ⟨r3, n4, l4, ⟨r2, n3, l3, ⟨r1, n2, l2, ⟨n1, l1, a1, b1⟩, a2, b2⟩, a3, b3⟩, a4, b4⟩ := h
  exact ⟨many_all _ (fun _ _ _ h => num_bd h) _ b1, many_all _ (fun _ _ _ h => (raw_bytes h).2) _ b3, many_all _ (fun _ _ _ h => (rel_bytes h).2) _ b4⟩
theorem none1 {bs : List UInt8} (h : num bs = none) : rparse bs = none := by unfold rparse; rw [h]
theorem none1m {bs l : List UInt8} {n : Int} (h : num bs = some (n, l)) (hm : many num n.toNat l = none) : rparse bs = none := by
  unfold rparse; rw [h]; simp only; rw [hm]
theorem none2 {bs r : List UInt8} {xc : List Int} (h : A1 bs xc r) (hn : num r = none) : rparse bs = none := by
  obtain ⟨n1, l1, a1, b1⟩ := h
  unfold rparse; rw [a1]; simp only; rw [b1]; simp only; rw [hn]
theorem none2m {bs r l : List UInt8} {xc : List Int} {n : Int} (h : A1 bs xc r) (hn : num r = some (n, l)) (hm : many num n.toNat l = none) : rparse bs = none := by
  obtain ⟨n1, l1, a1, b1⟩ := h
  unfold rparse; rw [a1]; simp only; rw [b1]; simp only; rw [hn]; simp only; rw [hm]
theorem none3 {bs r : List UInt8} {xc xd : List Int} (h : A2 bs xc xd r) (hn : num r = none) : rparse bs = none := by
  obtain ⟨r1, n2, l2, ⟨n1, l1, a1, b1⟩, a2, b2⟩ := h
  unfold rparse; rw [a1]; simp only; rw [b1]; simp only; rw [a2]; simp only; rw [b2]; simp only; rw [hn]
theorem none3m {bs r l : List UInt8} {xc xd : List Int} {n : Int} (h : A2 bs xc xd r) (hn : num r = some (n, l)) (hm : many raw n.toNat l = none) : rparse bs = none := by
  obtain ⟨r1, n2, l2, ⟨n1, l1, a1, b1⟩, a2, b2⟩ := h
  unfold rparse; rw [a1]; simp only; rw [b1]; simp only; rw [a2]; simp only; rw [b2]; simp only; rw [hn]; simp only; rw [hm]
theorem none4 {bs r : List UInt8} {xc xd : List Int} {xs : List Raw} (h : A3 bs xc xd xs r) (hn : num r = none) : rparse bs = none := by
  obtain ⟨r2, n3, l3, ⟨r1, n2, l2, ⟨n1, l1, a1, b1⟩, a2, b2⟩, a3, b3⟩ := h
  unfold rparse; rw [a1]; simp only; rw [b1]; simp only; rw [a2]; simp only; rw [b2]; simp only; rw [a3]; simp only; rw [b3]; simp only; rw [hn]
theorem none4m {bs r l : List UInt8} {xc xd : List Int} {xs : List Raw} {n : Int} (h : A3 bs xc xd xs r) (hn : num r = some (n, l)) (hm : many rel n.toNat l = none) : rparse bs = none := by
  obtain ⟨r2, n3, l3, ⟨r1, n2, l2, ⟨n1, l1, a1, b1⟩, a2, b2⟩, a3, b3⟩ := h
  unfold rparse; rw [a1]; simp only; rw [b1]; simp only; rw [a2]; simp only; rw [b2]; simp only; rw [a3]; simp only; rw [b3]; simp only; rw [hn]; simp only; rw [hm]
/-- one read: none, and bad; or one, and no worse -/
def Rd1 {α : Type} (o : Option (α × List UInt8)) (x : α) (r : List UInt8) (bad bad' : Bool) : Prop := (o = none ∧ bad' = true) ∨ (o = some (x, r) ∧ bad' = bad)
theorem Rd1.worse {α : Type} {o : Option (α × List UInt8)} {x : α} {r : List UInt8} {b b' : Bool} (h : Rd1 o x r b b') (hb : b = true) : b' = true := by
  rcases h with ⟨_, h⟩ | ⟨_, h⟩
  · exact h
  · rw [h, hb]
theorem raw_rd {p0 p1 p2 p3 p4 p5 p6 p7 : List UInt8} {a f : List UInt8} {b c d e g : Int} {b0 b1 b2 b3 b4 b5 b6 b7 : Bool}
    (h1 : Rd1 (txt p0) a p1 b0 b1) (h2 : Rd1 (num p1) b p2 b1 b2) (h3 : Rd1 (num p2) c p3 b2 b3) (h4 : Rd1 (num p3) d p4 b3 b4) (h5 : Rd1 (num p4) e p5 b4 b5) (h6 : Rd1 (txt p5) f p6 b5 b6) (h7 : Rd1 (num p6) g p7 b6 b7) : Rd1 (raw p0) ⟨a, b, c, d, e, f, g⟩ p7 b0 b7 := by
  rcases h1 with ⟨n1a, n1b⟩ | ⟨s1a, s1b⟩
  · exact .inl ⟨by unfold raw; rw [n1a], h7.worse (h6.worse (h5.worse (h4.worse (h3.worse (h2.worse (n1b))))))⟩
  rcases h2 with ⟨n2a, n2b⟩ | ⟨s2a, s2b⟩
  · exact .inl ⟨by unfold raw; rw [s1a]; simp only; rw [n2a], h7.worse (h6.worse (h5.worse (h4.worse (h3.worse (n2b)))))⟩
  rcases h3 with ⟨n3a, n3b⟩ | ⟨s3a, s3b⟩
  · exact .inl ⟨by unfold raw; rw [s1a]; simp only; rw [s2a]; simp only; rw [n3a], h7.worse (h6.worse (h5.worse (h4.worse (n3b))))⟩
  rcases h4 with ⟨n4a, n4b⟩ | ⟨s4a, s4b⟩
  · exact .inl ⟨by unfold raw; rw [s1a]; simp only; rw [s2a]; simp only; rw [s3a]; simp only; rw [n4a], h7.worse (h6.worse (h5.worse (n4b)))⟩
  rcases h5 with ⟨n5a, n5b⟩ | ⟨s5a, s5b⟩
  · exact .inl ⟨by unfold raw; rw [s1a]; simp only; rw [s2a]; simp only; rw [s3a]; simp only; rw [s4a]; simp only; rw [n5a], h7.worse (h6.worse (n5b))⟩
  rcases h6 with ⟨n6a, n6b⟩ | ⟨s6a, s6b⟩
  · exact .inl ⟨by unfold raw; rw [s1a]; simp only; rw [s2a]; simp only; rw [s3a]; simp only; rw [s4a]; simp only; rw [s5a]; simp only; rw [n6a], h7.worse (n6b)⟩
  rcases h7 with ⟨n7a, n7b⟩ | ⟨s7a, s7b⟩
  · exact .inl ⟨by unfold raw; rw [s1a]; simp only; rw [s2a]; simp only; rw [s3a]; simp only; rw [s4a]; simp only; rw [s5a]; simp only; rw [s6a]; simp only; rw [n7a], n7b⟩
  refine .inr ⟨?_, by rw [s7b, s6b, s5b, s4b, s3b, s2b, s1b]⟩
  unfold raw
  rw [s1a]; simp only
  rw [s2a]; simp only
  rw [s3a]; simp only
  rw [s4a]; simp only
  rw [s5a]; simp only
  rw [s6a]; simp only
  rw [s7a]
theorem rel_rd {p0 p1 p2 p3 : List UInt8} {a b c : Int} {b0 b1 b2 b3 : Bool} (h1 : Rd1 (num p0) a p1 b0 b1) (h2 : Rd1 (num p1) b p2 b1 b2) (h3 : Rd1 (num p2) c p3 b2 b3) : Rd1 (rel p0) ⟨a, b, c⟩ p3 b0 b3 := by
  rcases h1 with ⟨n1a, n1b⟩ | ⟨s1a, s1b⟩
  · exact .inl ⟨by unfold rel; rw [n1a], h3.worse (h2.worse n1b)⟩
  rcases h2 with ⟨n2a, n2b⟩ | ⟨s2a, s2b⟩
  · exact .inl ⟨by unfold rel; rw [s1a]; simp only; rw [n2a], h3.worse n2b⟩
  rcases h3 with ⟨n3a, n3b⟩ | ⟨s3a, s3b⟩
  · exact .inl ⟨by unfold rel; rw [s1a]; simp only; rw [s2a]; simp only; rw [n3a], n3b⟩
  exact .inr ⟨by unfold rel; rw [s1a]; simp only; rw [s2a]; simp only; rw [s3a], by rw [s3b, s2b, s1b]⟩
/-- in the midst of the k-th kind: bad, and none; or so far -/
def Mid {α : Type} (bs : List UInt8) (f : List UInt8 → Option (α × List UInt8)) (A : List UInt8 → Prop) (n : Int) (k : Nat) (xs : List α) (r : List UInt8) (bad : Bool) : Prop :=
  (bad = true ∧ rparse bs = none) ∨ (bad = false ∧ ∃ r1 l, A r1 ∧ num r1 = some (n, l) ∧ many f k l = some (xs, r))
theorem Mid.next {α : Type} {bs : List UInt8} {f : List UInt8 → Option (α × List UInt8)} {A : List UInt8 → Prop} {n : Int} {k : Nat} {xs : List α} {r r' : List UInt8} {bad bad' : Bool} {x : α} (hN : ∀ r1 l, A r1 → num r1 = some (n, l) → many f n.toNat l = none → rparse bs = none) (h : Mid bs f A n k xs r bad) (hk : k < n.toNat) (hb : bad = false) (hx : Rd1 (f r) x r' bad bad') : Mid bs f A n (k + 1) (xs ++ [x]) r' bad' := by
  rcases h with ⟨h, _⟩ | ⟨_, r1, l, hA, hn, hm⟩
  · rw [hb] at h; cases h
  · rcases hx with ⟨h1, h2⟩ | ⟨h1, h2⟩
    · refine .inl ⟨h2, hN r1 l hA hn (many_none (k := k + 1) hk ?_)⟩
      rw [many, hm]
      simp only
      rw [h1]
    · refine .inr ⟨by rw [h2, hb], r1, l, hA, hn, ?_⟩
      rw [many, hm]
      simp only
      rw [h1]

end Go.Proofs.Ythnehhidlaggeaa

/-! scarfjointref17.Get: the walk. -/
namespace Go.Proofs.Ythnehhidlaggeaa
set_option linter.unusedVariables false
set_option linter.unusedSimpArgs false
open Go.RowKit Ob

/-- behind a kind: bad, and none; or all of it -/
def Beh (bs : List UInt8) (A : List UInt8 → Prop) (r : List UInt8) (bad : Bool) : Prop := (bad = true ∧ rparse bs = none) ∨ (bad = false ∧ A r)
theorem Mid.start {α : Type} {bs : List UInt8} {f : List UInt8 → Option (α × List UInt8)} {A : List UInt8 → Prop} {n : Int} {r r' : List UInt8} {bad bad' : Bool} (h : Beh bs A r bad) (hN : ∀ r1, A r1 → num r1 = none → rparse bs = none) (hx : Rd1 (num r) n r' bad bad') : Mid bs f A n 0 [] r' bad' := by
  rcases h with ⟨h1, h2⟩ | ⟨h1, h2⟩
  · exact .inl ⟨hx.worse h1, h2⟩
  · rcases hx with ⟨h3, h4⟩ | ⟨h3, h4⟩
    · exact .inl ⟨h4, hN _ h2 h3⟩
    · exact .inr ⟨by rw [h4, h1], _, _, h2, h3, rfl⟩
theorem Mid.stop {α : Type} {bs : List UInt8} {f : List UInt8 → Option (α × List UInt8)} {A : List UInt8 → Prop} {n k : Nat} {xs : List α} {r : List UInt8} {bad : Bool} (h : Mid bs f A n k xs r bad) (hs : k = n ∨ bad = true) : Beh bs (fun r => ∃ r1 l, A r1 ∧ num r1 = some ((n : Int), l) ∧ many f (n : Int).toNat l = some (xs, r)) r bad := by
  rcases h with h | ⟨h1, r1, l, h2, h3, h4⟩
  · exact .inl h
  · rcases hs with rfl | hs
    · exact .inr ⟨h1, r1, l, h2, h3, by rw [Int.toNat_natCast]; exact h4⟩
    · rw [hs] at h1; cases h1
theorem Beh.imp {bs r : List UInt8} {A A' : List UInt8 → Prop} {bad : Bool} (h : Beh bs A r bad) (hi : ∀ r, A r → A' r) : Beh bs A' r bad := by
  rcases h with h | ⟨a, b⟩
  · exact .inl h
  · exact .inr ⟨a, hi _ b⟩
/-- the object that has been read -/
theorem RGMid.obj {w wr : World} {B q : Nat} {bs : List UInt8} {bad : Bool} {vc vd vs vr : Value} {xc xd : List Int} {xs : List Raw} {xr : List Rel} (h : RGMid w wr B bs q bad vc vd vs vr xc xd xs xr) (hc : ∀ x ∈ xc, 0 ≤ x ∧ x ≤ 4294967295) (hs : ∀ x ∈ xs, RawIn x) (hr : ∀ x ∈ xr, (0 ≤ x.pos ∧ x.pos ≤ 4294967295) ∧ (0 ≤ x.sym ∧ x.sym ≤ 4294967295) ∧ (0 ≤ x.add ∧ x.add ≤ 4294967295))
    (bc : xc.length ≤ 4294967295) (bd : xd.length ≤ 4294967295) (bs' : xs.length ≤ 4294967295) (br : xr.length ≤ 4294967295) :
    ∃ (pc pd ps pr' : Option Addr) (n kn d kd m km r kr : Nat), Value.agg #[vc, vd, vs, vr] = objV pc pd ps pr' n kn d kd m km r kr ∧ ObjAt wr pc pd ps pr' n d m r (objOf xc xd xs xr) ∧ High (w.heap.size + 3) [pc, pd, ps, pr'] := by
  have hrc := h.rc
  have hrd := h.rd_
  have hrs := h.rs
  have hrr := h.rr
  obtain ⟨p1, c1, rfl⟩ := slice_of hrc
  obtain ⟨p2, c2, rfl⟩ := slice_of hrd
  obtain ⟨p3, c3, rfl⟩ := slice_of hrs
  obtain ⟨p4, c4, rfl⟩ := slice_of hrr
  refine ⟨p1, p2, p3, p4, _, c1, _, c2, _, c3, _, c4, rfl, ⟨rfl, ?_, ?_, rfl, by omega, by omega, by omega, by omega, sliceAt_own hrc, ?_, ?_, rowsAt_own relCells 3 (fun _ => rfl) rfl hrr, ?_, ?_, ?_, ?_⟩, ?_⟩
  · simp [objOf]
  · simp [objOf]
  · refine sliceAt_own (l := xd.map wrap32) (n := xd.length) (c := c2) (b := w.heap.size + 3) (e := 21) ?_
    rw [List.flatMap_map]
    exact hrd
  · refine rowsAt_own symCells 7 (fun _ => rfl) (l := xs.map Raw.sym) (n := xs.length) (c := c3) (b := w.heap.size + 3) (e := 106) (by simp) ?_
    rw [List.flatMap_map]
    exact hrs
  · intro j
    show 0 ≤ xc.getD j 0 ∧ xc.getD j 0 ≤ 4294967295
    rw [List.getD_eq_getElem?_getD]
    by_cases hj : j < xc.length
    · rw [List.getElem?_eq_getElem hj]
      exact hc _ (List.getElem_mem hj)
    · rw [List.getElem?_eq_none (by omega)]
      simp
  · refine in32_of fun v hv => ?_
    obtain ⟨y, _, rfl⟩ := List.mem_map.1 hv
    unfold wrap32
    omega
  · intro s hs'
    obtain ⟨y, hy, rfl⟩ := List.mem_map.1 hs'
    have g := hs y hy
    exact ⟨by show (bstr y.name).size ≤ _; have := g.name; simp [bstr, ByteArray.size]; omega, by show (bstr y.sign).size ≤ _; have := g.sign; simp [bstr, ByteArray.size]; omega, in64_u32 g.kind, in64_u32 g.pos, in64_u32 g.size, in64_u32 g.frame⟩
  · intro x hx
    have g := hr x hx
    exact ⟨in64_u32 g.1, in64_u32 g.2.1, in64_u32 g.2.2⟩
  · intro a ha
    simp only [List.mem_cons, List.not_mem_nil, or_false] at ha
    rcases ha with e | e | e | e
    · exact own_high hrc a e
    · exact own_high hrd a e
    · exact own_high hrs a e
    · exact own_high hrr a e

/-- what the reference tells -/
theorem rgetR_none {l : List UInt8} (h : rparse l = none) : getR l = (2, nilObj) := by rw [get_same]; unfold rgetR; rw [h]
theorem rgetR_some {l r : List UInt8} {o : Ob.Obj} (h : rparse l = some (o, r)) : getR l = if mayB o && (putB o == l) then (0, o) else (2, nilObj) := by rw [get_same]; unfold rgetR; rw [h]
/-- behind the result's stores -/
structure RFin (w wr w5 : World) (v0 v1 v2 v3 : Value) : Prop where
  grown : wr.grownBy w5 (some w.heap.size)
  obj : w5.heap[w.heap.size]? = some (.cells #[v0, v1, v2, v3] 60 (0, 0))
theorem rfin_of {w w4 : World} {u0 u1 u2 u3 : Value} (h2 : w4.heap[w.heap.size]? = some (.cells #[u0, u1, u2, u3] 60 (0, 0))) (v0 v1 v2 v3 : Value) :
    RFin w w4 ((((w4.setCell ⟨w.heap.size, 0, none⟩ v0).setCell ⟨w.heap.size, 1, none⟩ v1).setCell ⟨w.heap.size, 2, none⟩ v2).setCell ⟨w.heap.size, 3, none⟩ v3) v0 v1 v2 v3 := by
  have e1 := blk_set2 (i := 0) h2 v0
  have e2 := blk_set2 (i := 1) e1 v1
  have e3 := blk_set2 (i := 2) e2 v2
  have e4 := blk_set2 (i := 3) e3 v3
  simp only [List.setIfInBounds_toArray, List.set_cons_zero, List.set_cons_succ] at e4
  have g0 : w4.grownBy w4 (some w.heap.size) := ⟨rfl, rfl, rfl, Nat.le_refl _, fun _ _ _ => rfl⟩
  exact ⟨grown_setCell (grown_setCell (grown_setCell (grown_setCell g0 (p := ⟨w.heap.size, 0, none⟩) (.inl rfl) v0) (p := ⟨w.heap.size, 1, none⟩) (.inl rfl) v1) (p := ⟨w.heap.size, 2, none⟩) (.inl rfl) v2) (p := ⟨w.heap.size, 3, none⟩) (.inl rfl) v3, e4⟩
theorem RFin.below {w w4 w5 : World} {v0 v1 v2 v3 : Value} (h : RFin w w4 w5 v0 v1 v2 v3) (hb : Below w.heap.size w w4) : Below w.heap.size w w5 :=
  below_of_grown hb h.grown (fun k e => by injection e with e; omega)
/-- the way out: what lies in the result's box -/
theorem rget_ret {wz : World} {b2 : Nat} {v0 v1 v2 v3 : Value} {k : Int} (h2 : wz.heap[b2]? = some (.cells #[v0, v1, v2, v3] 60 (0, 0))) (tmps : List Value) (t0 t1 : Value)
    {R : Ending → World → Prop} (hR : R (.returned (.tuple #[.agg #[v0, v1, v2, v3], .int .i64 k])) wz) :
    bodyPost Try.prog Try.f28 R .ret { tmps := (t0 :: t1 :: .pointer (some ⟨b2, 0, none⟩) :: .int .i64 k :: tmps).toArray, defers := [] } wz := by
  obtain ⟨y0, y1, y2, y3, yz⟩ := blk4 h2
  exact bodyPost_ret (v := .tuple #[.agg #[v0, v1, v2, v3], .int .i64 k]) (by simp [results, Try.results28, go_sem, y0, y1, y2, y3]) rfl hR

set_option maxRecDepth 100000 in
set_option maxHeartbeats 8000000 in
theorem rget_any (a : Option Addr) (n c : Nat) (bs : List UInt8) (w : World) (hs : SlcAt w w.heap.size a n c bs) :
    Calls Try.prog 28 #[.slice a n c] w (GetTells w bs) := by
  have h1 : (w.alloc (.cells #[.slice none 0 0, .slice none 0 0, .slice none 0 0, .slice none 0 0] 60)).heap.size = w.heap.size + 1 := by simp
  have h2 : ((w.alloc (.cells #[.slice none 0 0, .slice none 0 0, .slice none 0 0, .slice none 0 0] 60)).alloc (.cells #[.slice a n c, .int .i64 0, .bool false] 128)).heap.size = w.heap.size + 2 := by simp
  have hb0 : Below w.heap.size w (((w.alloc (.cells #[.slice none 0 0, .slice none 0 0, .slice none 0 0, .slice none 0 0] 60)).alloc (.cells #[.slice a n c, .int .i64 0, .bool false] 128)).alloc (.cells #[.slice none 0 0, .slice none 0 0, .slice none 0 0, .slice none 0 0] 60)) := (((Below.refl _ _).alloc (Nat.le_refl _) _).alloc (by omega) _).alloc (by omega) _
  have hm0 : RGMid w (((w.alloc (.cells #[.slice none 0 0, .slice none 0 0, .slice none 0 0, .slice none 0 0] 60)).alloc (.cells #[.slice a n c, .int .i64 0, .bool false] 128)).alloc (.cells #[.slice none 0 0, .slice none 0 0, .slice none 0 0, .slice none 0 0] 60)) w.heap.size bs 0 false (.slice none 0 0) (.slice none 0 0) (.slice none 0 0) (.slice none 0 0) [] [] [] [] := by
    refine ⟨hb0, ⟨by omega, by omega, a, n, c, ?_, hs.below hb0⟩, by omega, (Below.heap_alloc _ _ _ (by omega)).trans ((Below.heap_alloc _ _ _ (by omega)).trans (heap_alloc_new w _)), ?_, World.ownsRow_nil _ _ _ _, World.ownsRow_nil _ _ _ _, World.ownsRow_nil _ _ _ _, World.ownsRow_nil _ _ _ _⟩
    · refine (Below.heap_alloc _ _ _ (by omega)).trans ?_
      rw [← h1]
      exact heap_alloc_new _ _
    · rw [← h2]
      exact heap_alloc_new _ _
  obtain ⟨iC, hiC, iCz, iCs, iCb⟩ := info_parts Try.infoU32
  obtain ⟨iD, hiD, iDz, iDs, iDb⟩ := info_parts Try.infoI32
  obtain ⟨iS, hiS, iSz, iSs, iSb⟩ := info_parts Try.infoSym
  obtain ⟨iR, hiR, iRz, iRs, iRb⟩ := info_parts Try.infoRel
  have HM := Lib.hid hm0
  have HBEH : Hid (Beh bs (fun r => r = bs) (bs.drop 0) false) := .inr ⟨rfl, rfl⟩
  have HS := Lib.hid hs
  clear hs h1 h2 hb0 hm0
  obtain ⟨k0, k1, k2, k3, kb, kz⟩ := HM.out.cells
  go_enter Try.func28, Try.ntmps28
  go_wp2_with fail
  refine (rnum_any w.heap.size (w.heap.size + 1) bs _ _ _ HM.out.rd).mono ?_
  intro e w1 he
  obtain ⟨y, q0, b0, rfl, hr, hg, y0, y1, hx⟩ := he
  have HXy := Lib.hid (show Rd1 (num _) _ _ _ _ from hx)
  have hm := HM.out.read hg hr
  clear hr hg hx k0 k1 k2 k3 kb kz HM
  obtain ⟨k0, k1, k2, k3, kb, kz⟩ := hm.cells
  have HM := Lib.hid hm
  clear hm
  obtain ⟨n1, rfl⟩ := Int.eq_ofNat_of_zero_le y0
  have hn1 : n1 ≤ 4294967295 := by omega
  have HN1 : Hid (∀ (r1 l : List UInt8), (fun r => r = bs) r1 → num r1 = some ((n1 : Int), l) → many num (n1 : Int).toNat l = none → rparse bs = none) := fun r1 l e h1 h2 => none1m (e ▸ h1) h2
  have HMID := Lib.hid (Mid.start (f := num) HBEH.out (fun r1 e h => none1 (e ▸ h)) HXy.out)
  clear HBEH HXy y0 y1
  go_upto_block 0 with fail
  go_cut [7, 8] from 25 to 45 (fun v7 v8 wx => ∃ (q : Nat) (bad : Bool) (vc : Value) (xc : List Int), xc.length ≤ n1 ∧ Beh bs (fun r => ∃ r1 l, (fun r => r = bs) r1 ∧ num r1 = some ((n1 : Int), l) ∧ many num (n1 : Int).toNat l = some (xc, r)) (bs.drop q) bad ∧ RGMid w wx w.heap.size bs q bad vc (.slice none 0 0) (.slice none 0 0) (.slice none 0 0) xc [] [] [])
  case first =>
    go_wp2_with fail
    go_loopg [7] n1 (fun gk i wr => ∃ (k q : Nat) (bad : Bool) (vc : Value) (xc : List Int), k ≤ n1 ∧ xc.length = k ∧ gk = n1 - k ∧ i = .int .i64 k ∧ Mid bs num (fun r => r = bs) n1 k xc (bs.drop q) bad ∧ RGMid w wr w.heap.size bs q bad vc (.slice none 0 0) (.slice none 0 0) (.slice none 0 0) xc [] [] [])
    case atStart => exact ⟨0, _, _, _, _, by omega, rfl, rfl, rfl, HMID.out, HM.out⟩
    case round =>
      obtain ⟨k, q, bad, vc, xc, hk, hxl, hgk, rfl, hmid, hm⟩ := hrel
      have HG := Lib.hid hgk
      clear k0 k1 k2 k3 kb kz HM HMID
      obtain ⟨k0, k1, k2, k3, kb, kz⟩ := hm.cells
      have HM := Lib.hid hm
      have HMID := Lib.hid hmid
      have HXL := Lib.hid hxl
      have hxlb : xc.length ≤ 4294967295 := by omega
      clear hgk hm hmid hxl
      by_cases hlt : k < n1
      · have hki : (k : Int) < n1 := by omega
        cases bad
        · go_wp2_with fail
          refine (rnum_any w.heap.size (w.heap.size + 1) bs _ _ _ HM.out.rd).mono ?_
          intro e w1 he
          obtain ⟨x, q1, b1, rfl, hr, hg, x0, x1, hx⟩ := he
          have HXx := Lib.hid (show Rd1 (num _) _ _ _ _ from hx)
          have hm := HM.out.read hg hr
          clear hr hg hx k0 k1 k2 k3 kb kz HM
          obtain ⟨k0, k1, k2, k3, kb, kz⟩ := hm.cells
          have HM := Lib.hid hm
          clear hm
          have hxw : IntKind.u32.wrap x = x := IntWalk.u32_in _ (by omega)
          have HMX := Lib.hid (HM.out.alloc (.cells #[.int .u32 x] 22))
          go_wp2_with (at_builtin; go_loud (refine wpList_append_own_src (by rfl) (.tmp 40) (.tmp 43) 31 31 (by rfl) (w.heap.size + 3) 22 iC _ 1 4 Try.underlying31 hiC iCz iCs iCb (by rfl) (by decide) vc _ _ (by rfl) HMX.out.rc _ 1 [.int .u32 x] (by rfl) (Src.ofSlice _ Try.underlying31 _ 1 1 _ rfl (cells_list (heap_alloc_new w1 _) rfl) (by intro u hu; simp only [List.mem_cons, List.not_mem_nil, or_false] at hu; subst hu; rfl)) (by unfold maxLen; omega) (by omega) (by have := HMX.out.size; omega) ?_; intro v' w3 hown hgr hor; obtain ⟨g3, cap3, rfl⟩ := own_slice hown (by omega); have hob3 := (hgr.block _ HMX.out.size (own_ne HMX.out.rc HMX.out.ob (by decide))).trans HMX.out.ob; have hms := HMX.out.set_c (x := x) hown hgr; clear k0 k1 k2 k3 kb kz HM HMX hown hgr hor; obtain ⟨k0, k1, k2, k3, kz⟩ := blk4 hob3; have HM := Lib.hid hms; clear hms hob3))
          go_roundg (n1 - (k + 1))
          case measure => have := HG.out; omega
          case rel => exact ⟨k + 1, q1, b1, _, xc ++ [x], by omega, by simp [HXL.out], rfl, by go_num, HMID.out.next HN1.out (by omega) rfl HXx.out, HM.out⟩
        · go_wp2_with fail
          go_meet
          exact ⟨q, true, _, _, by have := HXL.out; omega, HMID.out.stop (.inr rfl), HM.out⟩
      · obtain rfl : k = n1 := by omega
        go_wp2_with fail
        go_meet
        exact ⟨q, bad, _, _, by have := HXL.out; omega, HMID.out.stop (.inl rfl), HM.out⟩
  case rest =>
    obtain ⟨q, bad, vc, xc, hl1, hbeh, hm⟩ := hcut
    clear k0 k1 k2 k3 kb kz HM HMID
    obtain ⟨k0, k1, k2, k3, kb, kz⟩ := hm.cells
    have HM := Lib.hid hm
    have HBEH : Hid (Beh bs (A1 bs xc) (bs.drop q) bad) := hbeh.imp (fun r ⟨r1, l, e, h1, h2⟩ => ⟨_, l, e ▸ h1, h2⟩)
    clear hm hbeh
    go_wp2_with fail
    refine (rnum_any w.heap.size (w.heap.size + 1) bs _ _ _ HM.out.rd).mono ?_
    intro e w1 he
    obtain ⟨y, q0, b0, rfl, hr, hg, y0, y1, hx⟩ := he
    have HXy := Lib.hid (show Rd1 (num _) _ _ _ _ from hx)
    have hm := HM.out.read hg hr
    clear hr hg hx k0 k1 k2 k3 kb kz HM
    obtain ⟨k0, k1, k2, k3, kb, kz⟩ := hm.cells
    have HM := Lib.hid hm
    clear hm
    obtain ⟨n2, rfl⟩ := Int.eq_ofNat_of_zero_le y0
    have hn2 : n2 ≤ 4294967295 := by omega
    have HN2 : Hid (∀ (r1 l : List UInt8), (A1 bs xc) r1 → num r1 = some ((n2 : Int), l) → many num (n2 : Int).toNat l = none → rparse bs = none) := fun r1 l h0 h1 h2 => none2m h0 h1 h2
    have HMID := Lib.hid (Mid.start (f := num) HBEH.out (fun r1 h1 h2 => none2 h1 h2) HXy.out)
    clear HBEH HXy y0 y1
    go_upto_block 2 with fail
    go_cut [9, 10, 11] from 48 to 69 (fun v9 v10 v11 wx => ∃ (q : Nat) (bad : Bool) (vd : Value) (xd : List Int), xd.length ≤ n2 ∧ Beh bs (fun r => ∃ r1 l, (A1 bs xc) r1 ∧ num r1 = some ((n2 : Int), l) ∧ many num (n2 : Int).toNat l = some (xd, r)) (bs.drop q) bad ∧ RGMid w wx w.heap.size bs q bad vc vd (.slice none 0 0) (.slice none 0 0) xc xd [] [])
    case first =>
      go_wp2_with fail
      go_loopg [9] n2 (fun gk i wr => ∃ (k q : Nat) (bad : Bool) (vd : Value) (xd : List Int), k ≤ n2 ∧ xd.length = k ∧ gk = n2 - k ∧ i = .int .i64 k ∧ Mid bs num (A1 bs xc) n2 k xd (bs.drop q) bad ∧ RGMid w wr w.heap.size bs q bad vc vd (.slice none 0 0) (.slice none 0 0) xc xd [] [])
      case atStart => exact ⟨0, _, _, _, _, by omega, rfl, rfl, rfl, HMID.out, HM.out⟩
      case round =>
        obtain ⟨k, q, bad, vd, xd, hk, hxl, hgk, rfl, hmid, hm⟩ := hrel
        have HG := Lib.hid hgk
        clear k0 k1 k2 k3 kb kz HM HMID
        obtain ⟨k0, k1, k2, k3, kb, kz⟩ := hm.cells
        have HM := Lib.hid hm
        have HMID := Lib.hid hmid
        have HXL := Lib.hid hxl
        have hxlb : xd.length ≤ 4294967295 := by omega
        clear hgk hm hmid hxl
        by_cases hlt : k < n2
        · have hki : (k : Int) < n2 := by omega
          cases bad
          · go_wp2_with fail
            refine (rnum_any w.heap.size (w.heap.size + 1) bs _ _ _ HM.out.rd).mono ?_
            intro e w1 he
            obtain ⟨x, q1, b1, rfl, hr, hg, x0, x1, hx⟩ := he
            have HXx := Lib.hid (show Rd1 (num _) _ _ _ _ from hx)
            have hm := HM.out.read hg hr
            clear hr hg hx k0 k1 k2 k3 kb kz HM
            obtain ⟨k0, k1, k2, k3, kb, kz⟩ := hm.cells
            have HM := Lib.hid hm
            clear hm
            go_wp2_with fail
            refine (word_any x _ x0 (by omega)).mono ?_
            rintro e w' ⟨rfl, rfl⟩
            have HMX := Lib.hid (HM.out.alloc (.cells #[.int .i32 (wrap32 x)] 21))
            go_wp2_with (at_builtin; go_loud (refine wpList_append_own_src (by rfl) (.tmp 65) (.tmp 67) 32 32 (by rfl) (w.heap.size + 3) 21 iD _ 1 4 Try.underlying32 hiD iDz iDs iDb (by rfl) (by decide) vd _ _ (by rfl) HMX.out.rd_ _ 1 [.int .i32 (wrap32 x)] (by rfl) (Src.ofSlice _ Try.underlying32 _ 1 1 _ rfl (cells_list (heap_alloc_new w1 _) rfl) (by intro u hu; simp only [List.mem_cons, List.not_mem_nil, or_false] at hu; subst hu; rfl)) (by unfold maxLen; omega) (by omega) (by have := HMX.out.size; omega) ?_; intro v' w3 hown hgr hor; obtain ⟨g3, cap3, rfl⟩ := own_slice hown (by omega); have hob3 := (hgr.block _ HMX.out.size (own_ne HMX.out.rd_ HMX.out.ob (by decide))).trans HMX.out.ob; have hms := HMX.out.set_d (x := x) hown hgr; clear k0 k1 k2 k3 kb kz HM HMX hown hgr hor; obtain ⟨k0, k1, k2, k3, kz⟩ := blk4 hob3; have HM := Lib.hid hms; clear hms hob3))
            go_roundg (n2 - (k + 1))
            case measure => have := HG.out; omega
            case rel => exact ⟨k + 1, q1, b1, _, xd ++ [x], by omega, by simp [HXL.out], rfl, by go_num, HMID.out.next HN2.out (by omega) rfl HXx.out, HM.out⟩
          · go_wp2_with fail
            go_meet
            exact ⟨q, true, _, _, by have := HXL.out; omega, HMID.out.stop (.inr rfl), HM.out⟩
        · obtain rfl : k = n2 := by omega
          go_wp2_with fail
          go_meet
          exact ⟨q, bad, _, _, by have := HXL.out; omega, HMID.out.stop (.inl rfl), HM.out⟩
    case rest =>
      obtain ⟨q, bad, vd, xd, hl2, hbeh, hm⟩ := hcut
      clear k0 k1 k2 k3 kb kz HM HMID
      obtain ⟨k0, k1, k2, k3, kb, kz⟩ := hm.cells
      have HM := Lib.hid hm
      have HBEH : Hid (Beh bs (A2 bs xc xd) (bs.drop q) bad) := hbeh.imp (fun r ⟨r1, l, h0, h1, h2⟩ => ⟨r1, _, l, h0, h1, h2⟩)
      clear hm hbeh
      go_wp2_with fail
      refine (rnum_any w.heap.size (w.heap.size + 1) bs _ _ _ HM.out.rd).mono ?_
      intro e w1 he
      obtain ⟨y, q0, b0, rfl, hr, hg, y0, y1, hx⟩ := he
      have HXy := Lib.hid (show Rd1 (num _) _ _ _ _ from hx)
      have hm := HM.out.read hg hr
      clear hr hg hx k0 k1 k2 k3 kb kz HM
      obtain ⟨k0, k1, k2, k3, kb, kz⟩ := hm.cells
      have HM := Lib.hid hm
      clear hm
      obtain ⟨n3, rfl⟩ := Int.eq_ofNat_of_zero_le y0
      have hn3 : n3 ≤ 4294967295 := by omega
      have HN3 : Hid (∀ (r1 l : List UInt8), (A2 bs xc xd) r1 → num r1 = some ((n3 : Int), l) → many raw (n3 : Int).toNat l = none → rparse bs = none) := fun r1 l h0 h1 h2 => none3m h0 h1 h2
      have HMID := Lib.hid (Mid.start (f := raw) HBEH.out (fun r1 h1 h2 => none3 h1 h2) HXy.out)
      clear HBEH HXy y0 y1
      go_upto_block 4 with fail
      go_cut [12, 13, 14] from 72 to 113 (fun v12 v13 v14 wx => ∃ (q : Nat) (bad : Bool) (vs : Value) (xs : List Raw), xs.length ≤ n3 ∧ Beh bs (fun r => ∃ r1 l, (A2 bs xc xd) r1 ∧ num r1 = some ((n3 : Int), l) ∧ many raw (n3 : Int).toNat l = some (xs, r)) (bs.drop q) bad ∧ RGMid w wx w.heap.size bs q bad vc vd vs (.slice none 0 0) xc xd xs [])
      case first =>
        go_wp2_with fail
        go_loopg [12] n3 (fun gk i wr => ∃ (k q : Nat) (bad : Bool) (vs : Value) (xs : List Raw), k ≤ n3 ∧ xs.length = k ∧ gk = n3 - k ∧ i = .int .i64 k ∧ Mid bs raw (A2 bs xc xd) n3 k xs (bs.drop q) bad ∧ RGMid w wr w.heap.size bs q bad vc vd vs (.slice none 0 0) xc xd xs [])
        case atStart => exact ⟨0, _, _, _, _, by omega, rfl, rfl, rfl, HMID.out, HM.out⟩
        case round =>
          obtain ⟨k, q, bad, vs, xs, hk, hxl, hgk, rfl, hmid, hm⟩ := hrel
          have HG := Lib.hid hgk
          clear k0 k1 k2 k3 kb kz HM HMID
          obtain ⟨k0, k1, k2, k3, kb, kz⟩ := hm.cells
          have HM := Lib.hid hm
          have HMID := Lib.hid hmid
          have HXL := Lib.hid hxl
          have hxlb : xs.length ≤ 4294967295 := by omega
          clear hgk hm hmid hxl
          by_cases hlt : k < n3
          · have hki : (k : Int) < n3 := by omega
            cases bad
            · have hst : ∀ w : World, (storeCells ⟨w.heap.size, 0, none⟩ [.string ⟨#[]⟩, .int .i64 0, .bool false, .int .i64 0, .int .i64 0, .string ⟨#[]⟩, .int .i64 0] 0).run Try.prog (w.alloc (.cells #[.string ⟨#[]⟩, .int .i64 0, .bool false, .int .i64 0, .int .i64 0, .string ⟨#[]⟩, .int .i64 0] 106)) = .ok () (w.alloc (.cells #[.string ⟨#[]⟩, .int .i64 0, .bool false, .int .i64 0, .int .i64 0, .string ⟨#[]⟩, .int .i64 0] 106)) := fun w => run_storeCells_new (P := Try.prog) w 106 #[.string ⟨#[]⟩, .int .i64 0, .bool false, .int .i64 0, .int .i64 0, .string ⟨#[]⟩, .int .i64 0] #[.string ⟨#[]⟩, .int .i64 0, .bool false, .int .i64 0, .int .i64 0, .string ⟨#[]⟩, .int .i64 0] (by kernel_rfl) rfl (by kernel_rfl)
              go_wp2_with fail
              have hbm := HM.out.newbox #[.string ⟨#[]⟩, .int .i64 0, .bool false, .int .i64 0, .int .i64 0, .string ⟨#[]⟩, .int .i64 0] 106 (by decide) (by decide)
              obtain ⟨b4, hb4⟩ : ∃ b4, b4 = wr.heap.size := ⟨_, rfl⟩
              rw [← hb4] at hbm ⊢
              clear hb4 HM k0 k1 k2 k3 kb kz
              obtain ⟨k0, k1, k2, k3, kb, kz⟩ := hbm.g.cells
              have c0 := cell_of_row _ _ 0 _ _ _ hbm.box; have c1 := cell_of_row _ _ 1 _ _ _ hbm.box; have c2 := cell_of_row _ _ 2 _ _ _ hbm.box; have c3 := cell_of_row _ _ 3 _ _ _ hbm.box; have c4 := cell_of_row _ _ 4 _ _ _ hbm.box; have c5 := cell_of_row _ _ 5 _ _ _ hbm.box; have c6 := cell_of_row _ _ 6 _ _ _ hbm.box; have cz := unfroz hbm.box; simp only [List.getElem?_toArray, List.getElem?_cons_zero, List.getElem?_cons_succ] at c0 c1 c2 c3 c4 c5 c6
              have HM := Lib.hid hbm.g
              have HB := Lib.hid hbm
              clear hbm
              clear hst
              refine (rtxt_any w.heap.size (w.heap.size + 1) bs _ _ _ HM.out.rd).mono ?_
              intro e w1 he
              obtain ⟨ta, q1, b1, rfl, tal, hr, hg, hx⟩ := he
              have HXta := Lib.hid (show Rd1 (txt _) _ _ _ _ from hx)
              have hbm := HB.out.read hg hr
              clear hr hg hx
              clear k0 k1 k2 k3 kb kz c0 c1 c2 c3 c4 c5 c6 cz HM HB
              obtain ⟨k0, k1, k2, k3, kb, kz⟩ := hbm.g.cells
              have c0 := cell_of_row _ _ 0 _ _ _ hbm.box; have c1 := cell_of_row _ _ 1 _ _ _ hbm.box; have c2 := cell_of_row _ _ 2 _ _ _ hbm.box; have c3 := cell_of_row _ _ 3 _ _ _ hbm.box; have c4 := cell_of_row _ _ 4 _ _ _ hbm.box; have c5 := cell_of_row _ _ 5 _ _ _ hbm.box; have c6 := cell_of_row _ _ 6 _ _ _ hbm.box; have cz := unfroz hbm.box; simp only [List.getElem?_toArray, List.getElem?_cons_zero, List.getElem?_cons_succ] at c0 c1 c2 c3 c4 c5 c6
              have HM := Lib.hid hbm.g
              have HB := Lib.hid hbm
              clear hbm
              have hbm := HB.out.store 0 (.string (str ta))
              simp only [List.setIfInBounds_toArray, List.set_cons_zero, List.set_cons_succ] at hbm
              have HBN := Lib.hid hbm
              clear hbm
              go_wp2_with fail
              have hbm := HBN.out
              clear HBN
              clear k0 k1 k2 k3 kb kz c0 c1 c2 c3 c4 c5 c6 cz HM HB
              obtain ⟨k0, k1, k2, k3, kb, kz⟩ := hbm.g.cells
              have c0 := cell_of_row _ _ 0 _ _ _ hbm.box; have c1 := cell_of_row _ _ 1 _ _ _ hbm.box; have c2 := cell_of_row _ _ 2 _ _ _ hbm.box; have c3 := cell_of_row _ _ 3 _ _ _ hbm.box; have c4 := cell_of_row _ _ 4 _ _ _ hbm.box; have c5 := cell_of_row _ _ 5 _ _ _ hbm.box; have c6 := cell_of_row _ _ 6 _ _ _ hbm.box; have cz := unfroz hbm.box; simp only [List.getElem?_toArray, List.getElem?_cons_zero, List.getElem?_cons_succ] at c0 c1 c2 c3 c4 c5 c6
              have HM := Lib.hid hbm.g
              have HB := Lib.hid hbm
              clear hbm
              refine (rnum_any w.heap.size (w.heap.size + 1) bs _ _ _ HM.out.rd).mono ?_
              intro e w1 he
              obtain ⟨tb, q2, b2, rfl, hr, hg, tb0, tb1, hx⟩ := he
              have HXtb := Lib.hid (show Rd1 (num _) _ _ _ _ from hx)
              have hbm := HB.out.read hg hr
              clear hr hg hx
              clear k0 k1 k2 k3 kb kz c0 c1 c2 c3 c4 c5 c6 cz HM HB
              obtain ⟨k0, k1, k2, k3, kb, kz⟩ := hbm.g.cells
              have c0 := cell_of_row _ _ 0 _ _ _ hbm.box; have c1 := cell_of_row _ _ 1 _ _ _ hbm.box; have c2 := cell_of_row _ _ 2 _ _ _ hbm.box; have c3 := cell_of_row _ _ 3 _ _ _ hbm.box; have c4 := cell_of_row _ _ 4 _ _ _ hbm.box; have c5 := cell_of_row _ _ 5 _ _ _ hbm.box; have c6 := cell_of_row _ _ 6 _ _ _ hbm.box; have cz := unfroz hbm.box; simp only [List.getElem?_toArray, List.getElem?_cons_zero, List.getElem?_cons_succ] at c0 c1 c2 c3 c4 c5 c6
              have HM := Lib.hid hbm.g
              have HB := Lib.hid hbm
              clear hbm
              have tbw : IntKind.i64.wrap tb = tb := IntWalk.i64_in _ (by omega)
              have hbm := HB.out.store 1 (.int .i64 tb)
              simp only [List.setIfInBounds_toArray, List.set_cons_zero, List.set_cons_succ] at hbm
              have HBN := Lib.hid hbm
              clear hbm
              go_wp2_with fail
              have hbm := HBN.out
              clear HBN
              clear k0 k1 k2 k3 kb kz c0 c1 c2 c3 c4 c5 c6 cz HM HB
              obtain ⟨k0, k1, k2, k3, kb, kz⟩ := hbm.g.cells
              have c0 := cell_of_row _ _ 0 _ _ _ hbm.box; have c1 := cell_of_row _ _ 1 _ _ _ hbm.box; have c2 := cell_of_row _ _ 2 _ _ _ hbm.box; have c3 := cell_of_row _ _ 3 _ _ _ hbm.box; have c4 := cell_of_row _ _ 4 _ _ _ hbm.box; have c5 := cell_of_row _ _ 5 _ _ _ hbm.box; have c6 := cell_of_row _ _ 6 _ _ _ hbm.box; have cz := unfroz hbm.box; simp only [List.getElem?_toArray, List.getElem?_cons_zero, List.getElem?_cons_succ] at c0 c1 c2 c3 c4 c5 c6
              have HM := Lib.hid hbm.g
              have HB := Lib.hid hbm
              clear hbm
              refine (rnum_any w.heap.size (w.heap.size + 1) bs _ _ _ HM.out.rd).mono ?_
              intro e w1 he
              obtain ⟨tc, q3, b3, rfl, hr, hg, tc0, tc1, hx⟩ := he
              have HXtc := Lib.hid (show Rd1 (num _) _ _ _ _ from hx)
              have hbm := HB.out.read hg hr
              clear hr hg hx
              clear k0 k1 k2 k3 kb kz c0 c1 c2 c3 c4 c5 c6 cz HM HB
              obtain ⟨k0, k1, k2, k3, kb, kz⟩ := hbm.g.cells
              have c0 := cell_of_row _ _ 0 _ _ _ hbm.box; have c1 := cell_of_row _ _ 1 _ _ _ hbm.box; have c2 := cell_of_row _ _ 2 _ _ _ hbm.box; have c3 := cell_of_row _ _ 3 _ _ _ hbm.box; have c4 := cell_of_row _ _ 4 _ _ _ hbm.box; have c5 := cell_of_row _ _ 5 _ _ _ hbm.box; have c6 := cell_of_row _ _ 6 _ _ _ hbm.box; have cz := unfroz hbm.box; simp only [List.getElem?_toArray, List.getElem?_cons_zero, List.getElem?_cons_succ] at c0 c1 c2 c3 c4 c5 c6
              have HM := Lib.hid hbm.g
              have HB := Lib.hid hbm
              clear hbm
              have hbm := HB.out.store 2 (.bool (tc == 1))
              simp only [List.setIfInBounds_toArray, List.set_cons_zero, List.set_cons_succ] at hbm
              have HBN := Lib.hid hbm
              clear hbm
              go_wp2_with fail
              have hbm := HBN.out
              clear HBN
              clear k0 k1 k2 k3 kb kz c0 c1 c2 c3 c4 c5 c6 cz HM HB
              obtain ⟨k0, k1, k2, k3, kb, kz⟩ := hbm.g.cells
              have c0 := cell_of_row _ _ 0 _ _ _ hbm.box; have c1 := cell_of_row _ _ 1 _ _ _ hbm.box; have c2 := cell_of_row _ _ 2 _ _ _ hbm.box; have c3 := cell_of_row _ _ 3 _ _ _ hbm.box; have c4 := cell_of_row _ _ 4 _ _ _ hbm.box; have c5 := cell_of_row _ _ 5 _ _ _ hbm.box; have c6 := cell_of_row _ _ 6 _ _ _ hbm.box; have cz := unfroz hbm.box; simp only [List.getElem?_toArray, List.getElem?_cons_zero, List.getElem?_cons_succ] at c0 c1 c2 c3 c4 c5 c6
              have HM := Lib.hid hbm.g
              have HB := Lib.hid hbm
              clear hbm
              refine (rnum_any w.heap.size (w.heap.size + 1) bs _ _ _ HM.out.rd).mono ?_
              intro e w1 he
              obtain ⟨td, q4, bd4, rfl, hr, hg, td0, td1, hx⟩ := he
              have HXtd := Lib.hid (show Rd1 (num _) _ _ _ _ from hx)
              have hbm := HB.out.read hg hr
              clear hr hg hx
              clear k0 k1 k2 k3 kb kz c0 c1 c2 c3 c4 c5 c6 cz HM HB
              obtain ⟨k0, k1, k2, k3, kb, kz⟩ := hbm.g.cells
              have c0 := cell_of_row _ _ 0 _ _ _ hbm.box; have c1 := cell_of_row _ _ 1 _ _ _ hbm.box; have c2 := cell_of_row _ _ 2 _ _ _ hbm.box; have c3 := cell_of_row _ _ 3 _ _ _ hbm.box; have c4 := cell_of_row _ _ 4 _ _ _ hbm.box; have c5 := cell_of_row _ _ 5 _ _ _ hbm.box; have c6 := cell_of_row _ _ 6 _ _ _ hbm.box; have cz := unfroz hbm.box; simp only [List.getElem?_toArray, List.getElem?_cons_zero, List.getElem?_cons_succ] at c0 c1 c2 c3 c4 c5 c6
              have HM := Lib.hid hbm.g
              have HB := Lib.hid hbm
              clear hbm
              have tdw : IntKind.i64.wrap td = td := IntWalk.i64_in _ (by omega)
              have hbm := HB.out.store 3 (.int .i64 td)
              simp only [List.setIfInBounds_toArray, List.set_cons_zero, List.set_cons_succ] at hbm
              have HBN := Lib.hid hbm
              clear hbm
              go_wp2_with fail
              have hbm := HBN.out
              clear HBN
              clear k0 k1 k2 k3 kb kz c0 c1 c2 c3 c4 c5 c6 cz HM HB
              obtain ⟨k0, k1, k2, k3, kb, kz⟩ := hbm.g.cells
              have c0 := cell_of_row _ _ 0 _ _ _ hbm.box; have c1 := cell_of_row _ _ 1 _ _ _ hbm.box; have c2 := cell_of_row _ _ 2 _ _ _ hbm.box; have c3 := cell_of_row _ _ 3 _ _ _ hbm.box; have c4 := cell_of_row _ _ 4 _ _ _ hbm.box; have c5 := cell_of_row _ _ 5 _ _ _ hbm.box; have c6 := cell_of_row _ _ 6 _ _ _ hbm.box; have cz := unfroz hbm.box; simp only [List.getElem?_toArray, List.getElem?_cons_zero, List.getElem?_cons_succ] at c0 c1 c2 c3 c4 c5 c6
              have HM := Lib.hid hbm.g
              have HB := Lib.hid hbm
              clear hbm
              refine (rnum_any w.heap.size (w.heap.size + 1) bs _ _ _ HM.out.rd).mono ?_
              intro e w1 he
              obtain ⟨te, q5, b5, rfl, hr, hg, te0, te1, hx⟩ := he
              have HXte := Lib.hid (show Rd1 (num _) _ _ _ _ from hx)
              have hbm := HB.out.read hg hr
              clear hr hg hx
              clear k0 k1 k2 k3 kb kz c0 c1 c2 c3 c4 c5 c6 cz HM HB
              obtain ⟨k0, k1, k2, k3, kb, kz⟩ := hbm.g.cells
              have c0 := cell_of_row _ _ 0 _ _ _ hbm.box; have c1 := cell_of_row _ _ 1 _ _ _ hbm.box; have c2 := cell_of_row _ _ 2 _ _ _ hbm.box; have c3 := cell_of_row _ _ 3 _ _ _ hbm.box; have c4 := cell_of_row _ _ 4 _ _ _ hbm.box; have c5 := cell_of_row _ _ 5 _ _ _ hbm.box; have c6 := cell_of_row _ _ 6 _ _ _ hbm.box; have cz := unfroz hbm.box; simp only [List.getElem?_toArray, List.getElem?_cons_zero, List.getElem?_cons_succ] at c0 c1 c2 c3 c4 c5 c6
              have HM := Lib.hid hbm.g
              have HB := Lib.hid hbm
              clear hbm
              have tew : IntKind.i64.wrap te = te := IntWalk.i64_in _ (by omega)
              have hbm := HB.out.store 4 (.int .i64 te)
              simp only [List.setIfInBounds_toArray, List.set_cons_zero, List.set_cons_succ] at hbm
              have HBN := Lib.hid hbm
              clear hbm
              go_wp2_with fail
              have hbm := HBN.out
              clear HBN
              clear k0 k1 k2 k3 kb kz c0 c1 c2 c3 c4 c5 c6 cz HM HB
              obtain ⟨k0, k1, k2, k3, kb, kz⟩ := hbm.g.cells
              have c0 := cell_of_row _ _ 0 _ _ _ hbm.box; have c1 := cell_of_row _ _ 1 _ _ _ hbm.box; have c2 := cell_of_row _ _ 2 _ _ _ hbm.box; have c3 := cell_of_row _ _ 3 _ _ _ hbm.box; have c4 := cell_of_row _ _ 4 _ _ _ hbm.box; have c5 := cell_of_row _ _ 5 _ _ _ hbm.box; have c6 := cell_of_row _ _ 6 _ _ _ hbm.box; have cz := unfroz hbm.box; simp only [List.getElem?_toArray, List.getElem?_cons_zero, List.getElem?_cons_succ] at c0 c1 c2 c3 c4 c5 c6
              have HM := Lib.hid hbm.g
              have HB := Lib.hid hbm
              clear hbm
              refine (rtxt_any w.heap.size (w.heap.size + 1) bs _ _ _ HM.out.rd).mono ?_
              intro e w1 he
              obtain ⟨tf, q6, b6, rfl, tfl, hr, hg, hx⟩ := he
              have HXtf := Lib.hid (show Rd1 (txt _) _ _ _ _ from hx)
              have hbm := HB.out.read hg hr
              clear hr hg hx
              clear k0 k1 k2 k3 kb kz c0 c1 c2 c3 c4 c5 c6 cz HM HB
              obtain ⟨k0, k1, k2, k3, kb, kz⟩ := hbm.g.cells
              have c0 := cell_of_row _ _ 0 _ _ _ hbm.box; have c1 := cell_of_row _ _ 1 _ _ _ hbm.box; have c2 := cell_of_row _ _ 2 _ _ _ hbm.box; have c3 := cell_of_row _ _ 3 _ _ _ hbm.box; have c4 := cell_of_row _ _ 4 _ _ _ hbm.box; have c5 := cell_of_row _ _ 5 _ _ _ hbm.box; have c6 := cell_of_row _ _ 6 _ _ _ hbm.box; have cz := unfroz hbm.box; simp only [List.getElem?_toArray, List.getElem?_cons_zero, List.getElem?_cons_succ] at c0 c1 c2 c3 c4 c5 c6
              have HM := Lib.hid hbm.g
              have HB := Lib.hid hbm
              clear hbm
              have hbm := HB.out.store 5 (.string (str tf))
              simp only [List.setIfInBounds_toArray, List.set_cons_zero, List.set_cons_succ] at hbm
              have HBN := Lib.hid hbm
              clear hbm
              go_wp2_with fail
              have hbm := HBN.out
              clear HBN
              clear k0 k1 k2 k3 kb kz c0 c1 c2 c3 c4 c5 c6 cz HM HB
              obtain ⟨k0, k1, k2, k3, kb, kz⟩ := hbm.g.cells
              have c0 := cell_of_row _ _ 0 _ _ _ hbm.box; have c1 := cell_of_row _ _ 1 _ _ _ hbm.box; have c2 := cell_of_row _ _ 2 _ _ _ hbm.box; have c3 := cell_of_row _ _ 3 _ _ _ hbm.box; have c4 := cell_of_row _ _ 4 _ _ _ hbm.box; have c5 := cell_of_row _ _ 5 _ _ _ hbm.box; have c6 := cell_of_row _ _ 6 _ _ _ hbm.box; have cz := unfroz hbm.box; simp only [List.getElem?_toArray, List.getElem?_cons_zero, List.getElem?_cons_succ] at c0 c1 c2 c3 c4 c5 c6
              have HM := Lib.hid hbm.g
              have HB := Lib.hid hbm
              clear hbm
              refine (rnum_any w.heap.size (w.heap.size + 1) bs _ _ _ HM.out.rd).mono ?_
              intro e w1 he
              obtain ⟨tg, q7, b7, rfl, hr, hg, tg0, tg1, hx⟩ := he
              have HXtg := Lib.hid (show Rd1 (num _) _ _ _ _ from hx)
              have hbm := HB.out.read hg hr
              clear hr hg hx
              clear k0 k1 k2 k3 kb kz c0 c1 c2 c3 c4 c5 c6 cz HM HB
              obtain ⟨k0, k1, k2, k3, kb, kz⟩ := hbm.g.cells
              have c0 := cell_of_row _ _ 0 _ _ _ hbm.box; have c1 := cell_of_row _ _ 1 _ _ _ hbm.box; have c2 := cell_of_row _ _ 2 _ _ _ hbm.box; have c3 := cell_of_row _ _ 3 _ _ _ hbm.box; have c4 := cell_of_row _ _ 4 _ _ _ hbm.box; have c5 := cell_of_row _ _ 5 _ _ _ hbm.box; have c6 := cell_of_row _ _ 6 _ _ _ hbm.box; have cz := unfroz hbm.box; simp only [List.getElem?_toArray, List.getElem?_cons_zero, List.getElem?_cons_succ] at c0 c1 c2 c3 c4 c5 c6
              have HM := Lib.hid hbm.g
              have HB := Lib.hid hbm
              clear hbm
              have tgw : IntKind.i64.wrap tg = tg := IntWalk.i64_in _ (by omega)
              have hbm := HB.out.store 6 (.int .i64 tg)
              simp only [List.setIfInBounds_toArray, List.set_cons_zero, List.set_cons_succ] at hbm
              have HBN := Lib.hid hbm
              clear hbm
              go_upto_region 29 with fail
              have hbm := HBN.out
              clear HBN
              clear k0 k1 k2 k3 kb kz c0 c1 c2 c3 c4 c5 c6 cz HM HB
              obtain ⟨k0, k1, k2, k3, kb, kz⟩ := hbm.g.cells
              have c0 := cell_of_row _ _ 0 _ _ _ hbm.box; have c1 := cell_of_row _ _ 1 _ _ _ hbm.box; have c2 := cell_of_row _ _ 2 _ _ _ hbm.box; have c3 := cell_of_row _ _ 3 _ _ _ hbm.box; have c4 := cell_of_row _ _ 4 _ _ _ hbm.box; have c5 := cell_of_row _ _ 5 _ _ _ hbm.box; have c6 := cell_of_row _ _ 6 _ _ _ hbm.box; have cz := unfroz hbm.box; simp only [List.getElem?_toArray, List.getElem?_cons_zero, List.getElem?_cons_succ] at c0 c1 c2 c3 c4 c5 c6
              have HM := Lib.hid hbm.g
              have HB := Lib.hid hbm
              clear hbm
              obtain ⟨w9, hw9⟩ : ∃ w9, w9 = w1.setCell ⟨b4, 6, none⟩ (.int .i64 tg) := ⟨_, rfl⟩
              have hbm := HB.out
              rw [← hw9] at hbm ⊢
              clear hw9
              clear k0 k1 k2 k3 kb kz c0 c1 c2 c3 c4 c5 c6 cz HM HB
              obtain ⟨k0, k1, k2, k3, kb, kz⟩ := hbm.g.cells
              have c0 := cell_of_row _ _ 0 _ _ _ hbm.box; have c1 := cell_of_row _ _ 1 _ _ _ hbm.box; have c2 := cell_of_row _ _ 2 _ _ _ hbm.box; have c3 := cell_of_row _ _ 3 _ _ _ hbm.box; have c4 := cell_of_row _ _ 4 _ _ _ hbm.box; have c5 := cell_of_row _ _ 5 _ _ _ hbm.box; have c6 := cell_of_row _ _ 6 _ _ _ hbm.box; have cz := unfroz hbm.box; simp only [List.getElem?_toArray, List.getElem?_cons_zero, List.getElem?_cons_succ] at c0 c1 c2 c3 c4 c5 c6
              have HM := Lib.hid hbm.g
              have HB := Lib.hid hbm
              clear hbm
              have HMX := Lib.hid (HM.out.alloc (.cells #[.string (str ta), .int .i64 tb, .bool (tc == 1), .int .i64 td, .int .i64 te, .string (str tf), .int .i64 tg] 106))
              go_wp2_with (at_builtin; go_loud (refine wpList_append_own_src (by rfl) (.tmp 109) (.tmp 111) 57 57 (by rfl) (w.heap.size + 3) 106 iS _ 7 72 Try.underlying57 hiS iSz iSs iSb (by rfl) (by decide) vs _ _ (by rfl) HMX.out.rs _ 1 [.string (str ta), .int .i64 tb, .bool (tc == 1), .int .i64 td, .int .i64 te, .string (str tf), .int .i64 tg] (by rfl) (Src.ofSlice _ Try.underlying57 _ 1 1 _ rfl (cells_list (heap_alloc_new w9 _) rfl) (by intro u hu; simp only [List.mem_cons, List.not_mem_nil, or_false] at hu; rcases hu with rfl | rfl | rfl | rfl | rfl | rfl | rfl <;> rfl)) (by unfold maxLen; omega) (by omega) (by have := HMX.out.size; omega) ?_; intro v' w3 hown hgr hor; obtain ⟨g3, cap3, rfl⟩ := own_slice hown (by omega); have hob3 := (hgr.block _ HMX.out.size (own_ne HMX.out.rs HMX.out.ob (by decide))).trans HMX.out.ob; have hms := HMX.out.set_s (x := ⟨ta, tb, tc, td, te, tf, tg⟩) hown hgr; clear k0 k1 k2 k3 kb kz HM HMX hown hgr hor; obtain ⟨k0, k1, k2, k3, kz⟩ := blk4 hob3; have HM := Lib.hid hms; clear hms hob3))
              go_roundg (n3 - (k + 1))
              case measure => have := HG.out; omega
              case rel => exact ⟨k + 1, q7, b7, _, xs ++ [⟨ta, tb, tc, td, te, tf, tg⟩], by omega, by simp [HXL.out], rfl, by go_num, HMID.out.next HN3.out (by omega) rfl (raw_rd HXta.out HXtb.out HXtc.out HXtd.out HXte.out HXtf.out HXtg.out), HM.out⟩
            · go_wp2_with fail
              go_meet
              exact ⟨q, true, _, _, by have := HXL.out; omega, HMID.out.stop (.inr rfl), HM.out⟩
          · obtain rfl : k = n3 := by omega
            go_wp2_with fail
            go_meet
            exact ⟨q, bad, _, _, by have := HXL.out; omega, HMID.out.stop (.inl rfl), HM.out⟩
      case rest =>
        obtain ⟨q, bad, vs, xs, hl3, hbeh, hm⟩ := hcut
        clear k0 k1 k2 k3 kb kz HM HMID
        obtain ⟨k0, k1, k2, k3, kb, kz⟩ := hm.cells
        have HM := Lib.hid hm
        have HBEH : Hid (Beh bs (A3 bs xc xd xs) (bs.drop q) bad) := hbeh.imp (fun r ⟨r1, l, h0, h1, h2⟩ => ⟨r1, _, l, h0, h1, h2⟩)
        clear hm hbeh
        go_wp2_with fail
        refine (rnum_any w.heap.size (w.heap.size + 1) bs _ _ _ HM.out.rd).mono ?_
        intro e w1 he
        obtain ⟨y, q0, b0, rfl, hr, hg, y0, y1, hx⟩ := he
        have HXy := Lib.hid (show Rd1 (num _) _ _ _ _ from hx)
        have hm := HM.out.read hg hr
        clear hr hg hx k0 k1 k2 k3 kb kz HM
        obtain ⟨k0, k1, k2, k3, kb, kz⟩ := hm.cells
        have HM := Lib.hid hm
        clear hm
        obtain ⟨n4, rfl⟩ := Int.eq_ofNat_of_zero_le y0
        have hn4 : n4 ≤ 4294967295 := by omega
        have HN4 : Hid (∀ (r1 l : List UInt8), (A3 bs xc xd xs) r1 → num r1 = some ((n4 : Int), l) → many rel (n4 : Int).toNat l = none → rparse bs = none) := fun r1 l h0 h1 h2 => none4m h0 h1 h2
        have HMID := Lib.hid (Mid.start (f := rel) HBEH.out (fun r1 h1 h2 => none4 h1 h2) HXy.out)
        clear HBEH HXy y0 y1
        go_upto_block 6 with fail
        go_cut [15, 16] from 116 to 143 (fun v15 v16 wx => ∃ (q : Nat) (bad : Bool) (vr : Value) (xr : List Rel), xr.length ≤ n4 ∧ Beh bs (fun r => ∃ r1 l, (A3 bs xc xd xs) r1 ∧ num r1 = some ((n4 : Int), l) ∧ many rel (n4 : Int).toNat l = some (xr, r)) (bs.drop q) bad ∧ RGMid w wx w.heap.size bs q bad vc vd vs vr xc xd xs xr)
        case first =>
          go_wp2_with fail
          go_loopg [15] n4 (fun gk i wr => ∃ (k q : Nat) (bad : Bool) (vr : Value) (xr : List Rel), k ≤ n4 ∧ xr.length = k ∧ gk = n4 - k ∧ i = .int .i64 k ∧ Mid bs rel (A3 bs xc xd xs) n4 k xr (bs.drop q) bad ∧ RGMid w wr w.heap.size bs q bad vc vd vs vr xc xd xs xr)
          case atStart => exact ⟨0, _, _, _, _, by omega, rfl, rfl, rfl, HMID.out, HM.out⟩
          case round =>
            obtain ⟨k, q, bad, vr, xr, hk, hxl, hgk, rfl, hmid, hm⟩ := hrel
            have HG := Lib.hid hgk
            clear k0 k1 k2 k3 kb kz HM HMID
            obtain ⟨k0, k1, k2, k3, kb, kz⟩ := hm.cells
            have HM := Lib.hid hm
            have HMID := Lib.hid hmid
            have HXL := Lib.hid hxl
            have hxlb : xr.length ≤ 4294967295 := by omega
            clear hgk hm hmid hxl
            by_cases hlt : k < n4
            · have hki : (k : Int) < n4 := by omega
              cases bad
              · have hst : ∀ w : World, (storeCells ⟨w.heap.size, 0, none⟩ [.int .i64 0, .int .i64 0, .int .i64 0] 0).run Try.prog (w.alloc (.cells #[.int .i64 0, .int .i64 0, .int .i64 0] 110)) = .ok () (w.alloc (.cells #[.int .i64 0, .int .i64 0, .int .i64 0] 110)) := fun w => run_storeCells_new (P := Try.prog) w 110 #[.int .i64 0, .int .i64 0, .int .i64 0] #[.int .i64 0, .int .i64 0, .int .i64 0] (by kernel_rfl) rfl (by kernel_rfl)
                go_wp2_with fail
                have hbm := HM.out.newbox #[.int .i64 0, .int .i64 0, .int .i64 0] 110 (by decide) (by decide)
                obtain ⟨b4, hb4⟩ : ∃ b4, b4 = wr.heap.size := ⟨_, rfl⟩
                rw [← hb4] at hbm ⊢
                clear hb4 HM k0 k1 k2 k3 kb kz
                obtain ⟨k0, k1, k2, k3, kb, kz⟩ := hbm.g.cells
                have c0 := cell_of_row _ _ 0 _ _ _ hbm.box; have c1 := cell_of_row _ _ 1 _ _ _ hbm.box; have c2 := cell_of_row _ _ 2 _ _ _ hbm.box; have cz := unfroz hbm.box; simp only [List.getElem?_toArray, List.getElem?_cons_zero, List.getElem?_cons_succ] at c0 c1 c2
                have HM := Lib.hid hbm.g
                have HB := Lib.hid hbm
                clear hbm
                clear hst
                refine (rnum_any w.heap.size (w.heap.size + 1) bs _ _ _ HM.out.rd).mono ?_
                intro e w1 he
                obtain ⟨ta, q1, b1, rfl, hr, hg, ta0, ta1, hx⟩ := he
                have HXta := Lib.hid (show Rd1 (num _) _ _ _ _ from hx)
                have hbm := HB.out.read hg hr
                clear hr hg hx
                clear k0 k1 k2 k3 kb kz c0 c1 c2 cz HM HB
                obtain ⟨k0, k1, k2, k3, kb, kz⟩ := hbm.g.cells
                have c0 := cell_of_row _ _ 0 _ _ _ hbm.box; have c1 := cell_of_row _ _ 1 _ _ _ hbm.box; have c2 := cell_of_row _ _ 2 _ _ _ hbm.box; have cz := unfroz hbm.box; simp only [List.getElem?_toArray, List.getElem?_cons_zero, List.getElem?_cons_succ] at c0 c1 c2
                have HM := Lib.hid hbm.g
                have HB := Lib.hid hbm
                clear hbm
                have taw : IntKind.i64.wrap ta = ta := IntWalk.i64_in _ (by omega)
                have hbm := HB.out.store 0 (.int .i64 ta)
                simp only [List.setIfInBounds_toArray, List.set_cons_zero, List.set_cons_succ] at hbm
                have HBN := Lib.hid hbm
                clear hbm
                go_wp2_with fail
                have hbm := HBN.out
                clear HBN
                clear k0 k1 k2 k3 kb kz c0 c1 c2 cz HM HB
                obtain ⟨k0, k1, k2, k3, kb, kz⟩ := hbm.g.cells
                have c0 := cell_of_row _ _ 0 _ _ _ hbm.box; have c1 := cell_of_row _ _ 1 _ _ _ hbm.box; have c2 := cell_of_row _ _ 2 _ _ _ hbm.box; have cz := unfroz hbm.box; simp only [List.getElem?_toArray, List.getElem?_cons_zero, List.getElem?_cons_succ] at c0 c1 c2
                have HM := Lib.hid hbm.g
                have HB := Lib.hid hbm
                clear hbm
                refine (rnum_any w.heap.size (w.heap.size + 1) bs _ _ _ HM.out.rd).mono ?_
                intro e w1 he
                obtain ⟨tb, q2, b2, rfl, hr, hg, tb0, tb1, hx⟩ := he
                have HXtb := Lib.hid (show Rd1 (num _) _ _ _ _ from hx)
                have hbm := HB.out.read hg hr
                clear hr hg hx
                clear k0 k1 k2 k3 kb kz c0 c1 c2 cz HM HB
                obtain ⟨k0, k1, k2, k3, kb, kz⟩ := hbm.g.cells
                have c0 := cell_of_row _ _ 0 _ _ _ hbm.box; have c1 := cell_of_row _ _ 1 _ _ _ hbm.box; have c2 := cell_of_row _ _ 2 _ _ _ hbm.box; have cz := unfroz hbm.box; simp only [List.getElem?_toArray, List.getElem?_cons_zero, List.getElem?_cons_succ] at c0 c1 c2
                have HM := Lib.hid hbm.g
                have HB := Lib.hid hbm
                clear hbm
                have tbw : IntKind.i64.wrap tb = tb := IntWalk.i64_in _ (by omega)
                have hbm := HB.out.store 1 (.int .i64 tb)
                simp only [List.setIfInBounds_toArray, List.set_cons_zero, List.set_cons_succ] at hbm
                have HBN := Lib.hid hbm
                clear hbm
                go_wp2_with fail
                have hbm := HBN.out
                clear HBN
                clear k0 k1 k2 k3 kb kz c0 c1 c2 cz HM HB
                obtain ⟨k0, k1, k2, k3, kb, kz⟩ := hbm.g.cells
                have c0 := cell_of_row _ _ 0 _ _ _ hbm.box; have c1 := cell_of_row _ _ 1 _ _ _ hbm.box; have c2 := cell_of_row _ _ 2 _ _ _ hbm.box; have cz := unfroz hbm.box; simp only [List.getElem?_toArray, List.getElem?_cons_zero, List.getElem?_cons_succ] at c0 c1 c2
                have HM := Lib.hid hbm.g
                have HB := Lib.hid hbm
                clear hbm
                refine (rnum_any w.heap.size (w.heap.size + 1) bs _ _ _ HM.out.rd).mono ?_
                intro e w1 he
                obtain ⟨tc, q3, b3, rfl, hr, hg, tc0, tc1, hx⟩ := he
                have HXtc := Lib.hid (show Rd1 (num _) _ _ _ _ from hx)
                have hbm := HB.out.read hg hr
                clear hr hg hx
                clear k0 k1 k2 k3 kb kz c0 c1 c2 cz HM HB
                obtain ⟨k0, k1, k2, k3, kb, kz⟩ := hbm.g.cells
                have c0 := cell_of_row _ _ 0 _ _ _ hbm.box; have c1 := cell_of_row _ _ 1 _ _ _ hbm.box; have c2 := cell_of_row _ _ 2 _ _ _ hbm.box; have cz := unfroz hbm.box; simp only [List.getElem?_toArray, List.getElem?_cons_zero, List.getElem?_cons_succ] at c0 c1 c2
                have HM := Lib.hid hbm.g
                have HB := Lib.hid hbm
                clear hbm
                have tcw : IntKind.i64.wrap tc = tc := IntWalk.i64_in _ (by omega)
                have hbm := HB.out.store 2 (.int .i64 tc)
                simp only [List.setIfInBounds_toArray, List.set_cons_zero, List.set_cons_succ] at hbm
                have HBN := Lib.hid hbm
                clear hbm
                go_upto_region 38 with fail
                have hbm := HBN.out
                clear HBN
                clear k0 k1 k2 k3 kb kz c0 c1 c2 cz HM HB
                obtain ⟨k0, k1, k2, k3, kb, kz⟩ := hbm.g.cells
                have c0 := cell_of_row _ _ 0 _ _ _ hbm.box; have c1 := cell_of_row _ _ 1 _ _ _ hbm.box; have c2 := cell_of_row _ _ 2 _ _ _ hbm.box; have cz := unfroz hbm.box; simp only [List.getElem?_toArray, List.getElem?_cons_zero, List.getElem?_cons_succ] at c0 c1 c2
                have HM := Lib.hid hbm.g
                have HB := Lib.hid hbm
                clear hbm
                obtain ⟨w9, hw9⟩ : ∃ w9, w9 = w1.setCell ⟨b4, 2, none⟩ (.int .i64 tc) := ⟨_, rfl⟩
                have hbm := HB.out
                rw [← hw9] at hbm ⊢
                clear hw9
                clear k0 k1 k2 k3 kb kz c0 c1 c2 cz HM HB
                obtain ⟨k0, k1, k2, k3, kb, kz⟩ := hbm.g.cells
                have c0 := cell_of_row _ _ 0 _ _ _ hbm.box; have c1 := cell_of_row _ _ 1 _ _ _ hbm.box; have c2 := cell_of_row _ _ 2 _ _ _ hbm.box; have cz := unfroz hbm.box; simp only [List.getElem?_toArray, List.getElem?_cons_zero, List.getElem?_cons_succ] at c0 c1 c2
                have HM := Lib.hid hbm.g
                have HB := Lib.hid hbm
                clear hbm
                have HMX := Lib.hid (HM.out.alloc (.cells #[.int .i64 ta, .int .i64 tb, .int .i64 tc] 110))
                go_wp2_with (at_builtin; go_loud (refine wpList_append_own_src (by rfl) (.tmp 139) (.tmp 141) 58 58 (by rfl) (w.heap.size + 3) 110 iR _ 3 24 Try.underlying58 hiR iRz iRs iRb (by rfl) (by decide) vr _ _ (by rfl) HMX.out.rr _ 1 [.int .i64 ta, .int .i64 tb, .int .i64 tc] (by rfl) (Src.ofSlice _ Try.underlying58 _ 1 1 _ rfl (cells_list (heap_alloc_new w9 _) rfl) (by intro u hu; simp only [List.mem_cons, List.not_mem_nil, or_false] at hu; rcases hu with rfl | rfl | rfl <;> rfl)) (by unfold maxLen; omega) (by omega) (by have := HMX.out.size; omega) ?_; intro v' w3 hown hgr hor; obtain ⟨g3, cap3, rfl⟩ := own_slice hown (by omega); have hob3 := (hgr.block _ HMX.out.size (own_ne HMX.out.rr HMX.out.ob (by decide))).trans HMX.out.ob; have hms := HMX.out.set_r (x := ⟨ta, tb, tc⟩) hown hgr; clear k0 k1 k2 k3 kb kz HM HMX hown hgr hor; obtain ⟨k0, k1, k2, k3, kz⟩ := blk4 hob3; have HM := Lib.hid hms; clear hms hob3))
                go_roundg (n4 - (k + 1))
                case measure => have := HG.out; omega
                case rel => exact ⟨k + 1, q3, b3, _, xr ++ [⟨ta, tb, tc⟩], by omega, by simp [HXL.out], rfl, by go_num, HMID.out.next HN4.out (by omega) rfl (rel_rd HXta.out HXtb.out HXtc.out), HM.out⟩
              · go_wp2_with fail
                go_meet
                exact ⟨q, true, _, _, by have := HXL.out; omega, HMID.out.stop (.inr rfl), HM.out⟩
            · obtain rfl : k = n4 := by omega
              go_wp2_with fail
              go_meet
              exact ⟨q, bad, _, _, by have := HXL.out; omega, HMID.out.stop (.inl rfl), HM.out⟩
        case rest =>
          obtain ⟨q, bad, vr, xr, hl4, hbeh, hm⟩ := hcut
          clear k0 k1 k2 k3 kb kz HM HMID
          obtain ⟨k0, k1, k2, k3, kb, kz⟩ := hm.cells
          have HM := Lib.hid hm
          have HBEH : Hid (Beh bs (A4 bs xc xd xs xr) (bs.drop q) bad) := hbeh.imp (fun r ⟨r1, l, h0, h1, h2⟩ => ⟨r1, _, l, h0, h1, h2⟩)
          clear hm hbeh
          have k1o := k1
          have k2o := k2
          clear k1 k2
          obtain ⟨z0, z1, z2, z3, zz⟩ := blk4 HM.out.res
          cases bad
          · have hA : A4 bs xc xd xs xr (bs.drop q) := by
              rcases HBEH.out with ⟨h, _⟩ | ⟨_, h⟩
              · cases h
              · exact h
            have HP := Lib.hid hA.parse
            have hgood := hA.good
            have HO := Lib.hid (HM.out.obj hgood.1 hgood.2.1 hgood.2.2 (by omega) (by omega) (by omega) (by omega))
            obtain ⟨pc, pd, ps, pr, m1, m2, m3, m4, m5, m6, m7, m8, e, hO, hH⟩ := HO.out
            unfold objV at e
            injection e with e
            simp only [Array.mk.injEq, List.cons.injEq, and_true] at e
            obtain ⟨rfl, rfl, rfl, rfl⟩ := e
            clear HO hgood hA HBEH
            have HO := Lib.hid hO
            have HH := Lib.hid hH
            have HC := Lib.hid (roput_any (objOf xc xd xs xr) pc pd ps pr m1 m2 m3 m4 m5 m6 m7 m8 _ hO)
            clear hO hH
            unfold PutTells objV at HC
            obtain ⟨k, hk⟩ : ∃ k, putE (objOf xc xd xs xr) = k := ⟨_, rfl⟩
            rw [hk] at HC
            have HK := Lib.hid hk
            clear hk
            go_wp2_with fail
            refine HC.out.mono ?_
            rintro e w2 ⟨v, rfl, hb2, hv⟩
            have hm2 := HM.out.go hb2
            have hO2 := HO.out.below hb2
            have k2 := (SlcAt.bytesIn (HS.out.below hm2.below) hm2.below.size).run
            obtain ⟨L, hL⟩ : ∃ L, putL (objOf xc xd xs xr) = L := ⟨_, rfl⟩
            rw [hL] at hv
            have k1 := hv.run
            clear k0 k1o k2o k3 kb kz z0 z1 z2 z3 zz hv hb2 HO HM HC
            obtain ⟨z0, z1, z2, z3, zz⟩ := blk4 hm2.res
            obtain ⟨k0, k1_, k2_, k3, kb, kz⟩ := hm2.cells
            have HM := Lib.hid hm2
            have HO := Lib.hid hO2
            have HL := Lib.hid hL
            clear hm2 hO2 hL
            by_cases hmay : mayB (objOf xc xd xs xr) = true
            · obtain rfl : k = 0 := by rw [← HK.out]; unfold putE; rw [if_pos hmay]
              have hPL : putL (objOf xc xd xs xr) = putB (objOf xc xd xs xr) := by unfold putL; rw [if_pos hmay]
              have HPL := Lib.hid (hPL.symm.trans HL.out)
              have HMAY := Lib.hid hmay
              clear hPL hmay HL
              by_cases hLb : L = bs
              · subst hLb
                go_wp2_with fail
                have hf := rfin_of HM.out.res (.slice pc m1 m2) (.slice pd m3 m4) (.slice ps m5 m6) (.slice pr m7 m8)
                refine rget_ret hf.obj _ _ _ ?_
                have hr : getR L = (0, objOf xc xd xs xr) := by rw [rgetR_some HP.out, HMAY.out, HPL.out]; simp
                exact ⟨pc, pd, ps, pr, m1, m2, m3, m4, m5, m6, m7, m8, by rw [hr]; rfl, hf.below HM.out.below, by
                  rw [hr]
                  exact HO.out.grown hf.grown HH.out (fun k e => by injection e with e; omega)⟩
              · have hne : ((str L).toList == (str bs).toList) = false := by rw [ByteArray.toList_eq, ByteArray.toList_eq, str_list, str_list]; exact beq_eq_false_iff_ne.2 hLb
                have HLB := Lib.hid hLb
                clear hLb
                go_wp2_with fail
                have hf := rfin_of HM.out.res (.slice none 0 0) (.slice none 0 0) (.slice none 0 0) (.slice none 0 0)
                exact rget_ret hf.obj _ _ _ (getTells_nil (by rw [rgetR_some HP.out, HPL.out, HMAY.out, if_neg (by simpa using HLB.out)]) (hf.below HM.out.below))
            · obtain rfl : k = 2 := by rw [← HK.out]; unfold putE; rw [if_neg hmay]
              have HMAY := Lib.hid hmay
              clear hmay
              go_wp2_with fail
              have hf := rfin_of HM.out.res (.slice none 0 0) (.slice none 0 0) (.slice none 0 0) (.slice none 0 0)
              exact rget_ret hf.obj _ _ _ (getTells_nil (by rw [rgetR_some HP.out, if_neg (by simp [HMAY.out])]) (hf.below HM.out.below))
          · have hN : rparse bs = none := by
              rcases HBEH.out with ⟨_, h⟩ | ⟨h, _⟩
              · exact h
              · cases h
            have HN := Lib.hid hN
            clear hN HBEH
            go_wp2_with fail
            have hf := rfin_of HM.out.res (.slice none 0 0) (.slice none 0 0) (.slice none 0 0) (.slice none 0 0)
            exact rget_ret hf.obj _ _ _ (getTells_nil (rgetR_none HN.out) (hf.below HM.out.below))

end Go.Proofs.Ythnehhidlaggeaa

/-! Two objects, the same: scarfjointlaw.words, scarfjointlaw.objects. -/
namespace Go.Proofs.Ythnehhidlaggeaa
set_option linter.unusedVariables false
set_option linter.unusedSimpArgs false
open Go.RowKit Ob

set_option maxRecDepth 100000 in
set_option maxHeartbeats 4000000 in
theorem words_same (p p' : Option Addr) (n k k' : Nat) (l : List Int) (w : World) (hl : l.length = n) (hn : n ≤ 9223372036854775807) (h : SliceAt w .i32 p l) (h' : SliceAt w .i32 p' l) :
    Calls Try.prog 32 #[.slice p n k, .slice p' n k'] w fun e w' => e = .returned (.bool true) ∧ Below w.heap.size w w' := by
  have HL := Lib.hid hl
  have HS := Lib.hid (And.intro h h')
  clear h h' hl
  go_enter Try.func32, Try.ntmps32
  go_wp2_with fail
  go_loopg [5] n (fun gk i wr => ∃ j : Nat, j ≤ n ∧ gk = n - j ∧ i = .int .i64 j ∧ Below w.heap.size w wr)
  case atStart => exact ⟨0, by omega, rfl, rfl, Below.refl _ _⟩
  case round =>
    obtain ⟨j, hj, hgk, rfl, hb⟩ := hrel
    have HG := Lib.hid hgk
    have HB := Lib.hid hb
    clear hgk hb
    by_cases hlt : j < n
    · obtain ⟨x, c, co, c', co', rfl, rfl, k0, k1⟩ : ∃ x c co c' co', p = some ⟨c, co, none⟩ ∧ p' = some ⟨c', co', none⟩ ∧ wr.cell? ⟨c, co + j, none⟩ = some (.int .i32 x) ∧ wr.cell? ⟨c', co' + j, none⟩ = some (.int .i32 x) := by
        have hjl : j < l.length := by rw [HL.out]; exact hlt
        rcases HS.out.1 with h0 | ⟨c, co, rfl, hc, hr⟩
        · omega
        rcases HS.out.2 with h0 | ⟨c', co', rfl, hc', hr'⟩
        · omega
        exact ⟨l.getD j 0, c, co, c', co', rfl, rfl, (HB.out.cell (p := ⟨c, co + j, none⟩) hc).trans (hr j hjl), (HB.out.cell (p := ⟨c', co' + j, none⟩) hc').trans (hr' j hjl)⟩
      have hji : (j : Int) < n := by omega
      go_upto_region 6 with fail
      go_quiet (fail)
      go_wp2_with fail
      go_roundg (n - (j + 1))
      case measure => have := HG.out; omega
      case rel => exact ⟨j + 1, by omega, rfl, by go_num, ⟨HB.out.os, HB.out.tape, HB.out.output, HB.out.size, HB.out.block⟩⟩
    · obtain rfl : j = n := by omega
      go_wp2_with fail
      go_ret
      exact ⟨rfl, HB.out⟩

/-- a load of several cells, in a region whose operations only read -/
theorem quiet_load_mid {P : Program} {o : Oper} {a : Act} {K : Act → Prop} (w : World) (ty : TypeId) (x : Operand) (ho : o.op = .load ty x) (b off : Nat) (hx : a.eval x = .pointer (some ⟨b, off, none⟩)) (cs : List Value) (d : TypeDesc) (hc : w.rangeAt b off cs)
    (hu : P.underlying ty = some d) (hd : d.isRow = true) (hi : (P.info? ty).map (·.size) = some cs.length) (hk : K (a.put o.dst (.agg cs.toArray))) : o.quiet P a (fun w' => ∃ n, w' = w.drewN n) K := by
  refine ⟨.agg cs.toArray, ?_, hk⟩
  rintro w' ⟨n, rfl⟩
  unfold Oper.quietAt execOp
  simp only [ho, hx, Instr.loadAt, Instr.sureAddr, Sem.run_bind, Sem.run_pure, Result.andThen_ok, run_loadVar_mid (w.drewN n) b off ty cs d hc hu hd hi]
  exact ⟨rfl, rfl⟩

/-- two boxes -/
structure OMid (w wr : World) (ca cb : Array Value) : Prop where
  below : Below w.heap.size w wr
  a : wr.heap[w.heap.size]? = some (.cells ca 60 (0, 0))
  b : wr.heap[w.heap.size + 1]? = some (.cells cb 60 (0, 0))
theorem OMid.go {w wr w2 : World} {ca cb : Array Value} (h : OMid w wr ca cb) (hb : Below wr.heap.size wr w2) : OMid w w2 ca cb :=
  ⟨h.below.trans (hb.mono h.below.size), (hb.block _ (lt_of_block h.a)).trans h.a, (hb.block _ (lt_of_block h.b)).trans h.b⟩
theorem OMid.drewN {w wr : World} {ca cb : Array Value} (h : OMid w wr ca cb) (j : Nat) : OMid w (wr.drewN j) ca cb :=
  h.go ⟨rfl, rfl, rfl, Nat.le_refl _, fun _ _ => rfl⟩

set_option maxRecDepth 100000 in
set_option maxHeartbeats 4000000 in
/-- two objects that are the same -/
theorem objects_same (o : Ob.Obj) (pc pd ps pr pc' pd' ps' pr' : Option Addr) (n kn d kd m km r kr kn' kd' km' kr' : Nat) (w : World) (h : ObjAt w pc pd ps pr n d m r o) (h' : ObjAt w pc' pd' ps' pr' n d m r o) :
    Calls Try.prog 29 #[objV pc pd ps pr n kn d kd m km r kr, objV pc' pd' ps' pr' n kn' d kd' m km' r kr'] w fun e w' => e = .returned (.bool true) ∧ Below w.heap.size w w' := by
  have hm0 : OMid w ((w.alloc (.cells #[.slice pc n kn, .slice pd d kd, .slice ps m km, .slice pr r kr] 60)).alloc (.cells #[.slice pc' n kn', .slice pd' d kd', .slice ps' m km', .slice pr' r kr'] 60)) #[.slice pc n kn, .slice pd d kd, .slice ps m km, .slice pr r kr] #[.slice pc' n kn', .slice pd' d kd', .slice ps' m km', .slice pr' r kr'] := by
    refine ⟨((Below.refl _ _).alloc (Nat.le_refl _) _).alloc (by simp) _, (Below.heap_alloc _ _ _ (by simp)).trans (heap_alloc_new _ _), ?_⟩
    have e : (w.alloc (.cells #[.slice pc n kn, .slice pd d kd, .slice ps m km, .slice pr r kr] 60)).heap.size = w.heap.size + 1 := by simp
    rw [← e]
    exact heap_alloc_new _ _
  have hn := h.nb
  have hd := h.db
  have hmb := h.mb
  have hr := h.rb
  have hw := words_same pd pd' d kd kd' o.data _ h.dl hd (h.data.below hm0.below) (h'.data.below hm0.below)
  have HW := Lib.hid hw
  have HM := Lib.hid hm0
  have HO := Lib.hid (And.intro h h')
  clear h h' hm0 hw
  unfold objV
  obtain ⟨y0, y1, y2, y3, yz⟩ := blk4 HM.out.a
  obtain ⟨z0, z1, z2, z3, zz⟩ := blk4 HM.out.b
  go_enter Try.func29, Try.ntmps29
  go_wp2_with fail
  refine HW.out.mono ?_
  rintro e w1 ⟨rfl, hb⟩
  have hm := HM.out.go hb
  clear y0 y1 y2 y3 yz z0 z1 z2 z3 zz HM HW hb
  obtain ⟨y0, y1, y2, y3, yz⟩ := blk4 hm.a
  obtain ⟨z0, z1, z2, z3, zz⟩ := blk4 hm.b
  have HM := Lib.hid hm
  clear hm
  go_wp2_with fail
  go_loopg [5] n (fun gk i wr => ∃ j : Nat, j ≤ n ∧ gk = n - j ∧ i = .int .i64 j ∧ OMid w wr #[.slice pc n kn, .slice pd d kd, .slice ps m km, .slice pr r kr] #[.slice pc' n kn', .slice pd' d kd', .slice ps' m km', .slice pr' r kr'])
  case atStart => exact ⟨0, by omega, rfl, rfl, HM.out⟩
  case round =>
    obtain ⟨j, hj, hgk, rfl, hm⟩ := hrel
    have HG := Lib.hid hgk
    clear y0 y1 y2 y3 yz z0 z1 z2 z3 zz HM hgk
    obtain ⟨y0, y1, y2, y3, yz⟩ := blk4 hm.a
    obtain ⟨z0, z1, z2, z3, zz⟩ := blk4 hm.b
    have HM := Lib.hid hm
    clear hm
    by_cases hlt : j < n
    · have hji : (j : Int) < n := by omega
      obtain ⟨x, c, co, c', co', rfl, rfl, k0, k1⟩ : ∃ x c co c' co', pc = some ⟨c, co, none⟩ ∧ pc' = some ⟨c', co', none⟩ ∧ wr.cell? ⟨c, co + j, none⟩ = some (.int .u32 x) ∧ wr.cell? ⟨c', co' + j, none⟩ = some (.int .u32 x) := by
        obtain ⟨c, co, e1, _, h1⟩ := (HO.out.1.below HM.out.below).word hlt
        obtain ⟨c', co', e2, _, h2⟩ := (HO.out.2.below HM.out.below).word hlt
        exact ⟨_, c, co, c', co', e1, e2, h1, h2⟩
      go_upto_region 6 with fail
      go_quiet (fail)
      go_wp2_with fail
      go_roundg (n - (j + 1))
      case measure => have := HG.out; omega
      case rel => exact ⟨j + 1, by omega, rfl, by go_num, HM.out.drewN _⟩
    · obtain rfl : n = j := by omega
      go_wp2_with fail
      go_loopg [6] m (fun gk i wr => ∃ j : Nat, j ≤ m ∧ gk = m - j ∧ i = .int .i64 j ∧ OMid w wr #[.slice pc n kn, .slice pd d kd, .slice ps m km, .slice pr r kr] #[.slice pc' n kn', .slice pd' d kd', .slice ps' m km', .slice pr' r kr'])
      case atStart => exact ⟨0, by omega, rfl, rfl, HM.out⟩
      case round =>
        obtain ⟨j, hj, hgk, rfl, hm⟩ := hrel
        have HG := Lib.hid hgk
        clear y0 y1 y2 y3 yz z0 z1 z2 z3 zz HM hgk
        obtain ⟨y0, y1, y2, y3, yz⟩ := blk4 hm.a
        obtain ⟨z0, z1, z2, z3, zz⟩ := blk4 hm.b
        have HM := Lib.hid hm
        clear hm
        by_cases hlt : j < m
        · have hji : (j : Int) < m := by omega
          obtain ⟨c, co, c', co', x, rfl, rfl, hr1, hr2⟩ : ∃ c co c' co' x, ps = some ⟨c, co, none⟩ ∧ ps' = some ⟨c', co', none⟩ ∧ wr.rangeAt c (co + j * 7) (symCells x) ∧ wr.rangeAt c' (co' + j * 7) (symCells x) := by
            obtain ⟨c, co, e1, _, hk, h1⟩ := (HO.out.1.below HM.out.below).sym hlt
            obtain ⟨c', co', e2, _, hk', h2⟩ := (HO.out.2.below HM.out.below).sym hlt
            exact ⟨c, co, c', co', _, e1, e2, h1, h2⟩
          have HR1 := Lib.hid hr1
          have HR2 := Lib.hid hr2
          clear hr1 hr2
          go_upto_region 11 with fail
          (refine wp_region_quiet_lit (by kernel_rfl) (by kernel_rfl) ?_; (repeat (first | (go_big_quiet_want; first | (refine quiet_load_mid wr 106 (.tmp 69) (by rfl) c (co + j * 7) (by rfl) [.string x.name, .int .i64 x.kind, .bool x.static, .int .i64 x.pos, .int .i64 x.size, .string x.sign, .int .i64 x.frame] _ HR1.out Try.underlying106 (by rfl) (by kernel_rfl) ?_; go_simp; go_big_quiet_on) | (refine quiet_load_mid wr 106 (.tmp 74) (by rfl) c' (co' + j * 7) (by rfl) [.string x.name, .int .i64 x.kind, .bool x.static, .int .i64 x.pos, .int .i64 x.size, .string x.sign, .int .i64 x.frame] _ HR2.out Try.underlying106 (by rfl) (by kernel_rfl) ?_; go_simp; go_big_quiet_on)) | (go_big_quiet_step (fail)))); refine wpQuiet_nil ?_; intro _ hw'; obtain ⟨nq, hw''⟩ := hw'; subst hw'')
          go_wp2_with fail
          go_roundg (m - (j + 1))
          case measure => have := HG.out; omega
          case rel => exact ⟨j + 1, by omega, rfl, by go_num, HM.out.drewN _⟩
        · obtain rfl : m = j := by omega
          go_wp2_with fail
          go_loopg [7] r (fun gk i wr => ∃ j : Nat, j ≤ r ∧ gk = r - j ∧ i = .int .i64 j ∧ OMid w wr #[.slice pc n kn, .slice pd d kd, .slice ps m km, .slice pr r kr] #[.slice pc' n kn', .slice pd' d kd', .slice ps' m km', .slice pr' r kr'])
          case atStart => exact ⟨0, by omega, rfl, rfl, HM.out⟩
          case round =>
            obtain ⟨j, hj, hgk, rfl, hm⟩ := hrel
            have HG := Lib.hid hgk
            clear y0 y1 y2 y3 yz z0 z1 z2 z3 zz HM hgk
            obtain ⟨y0, y1, y2, y3, yz⟩ := blk4 hm.a
            obtain ⟨z0, z1, z2, z3, zz⟩ := blk4 hm.b
            have HM := Lib.hid hm
            clear hm
            by_cases hlt : j < r
            · have hji : (j : Int) < r := by omega
              obtain ⟨c, co, c', co', x, rfl, rfl, hr1, hr2⟩ : ∃ c co c' co' x, pr = some ⟨c, co, none⟩ ∧ pr' = some ⟨c', co', none⟩ ∧ wr.rangeAt c (co + j * 3) (relCells x) ∧ wr.rangeAt c' (co' + j * 3) (relCells x) := by
                obtain ⟨c, co, e1, _, hk, h1⟩ := (HO.out.1.below HM.out.below).rel hlt
                obtain ⟨c', co', e2, _, hk', h2⟩ := (HO.out.2.below HM.out.below).rel hlt
                exact ⟨c, co, c', co', _, e1, e2, h1, h2⟩
              have HR1 := Lib.hid hr1
              have HR2 := Lib.hid hr2
              clear hr1 hr2
              go_upto_region 16 with fail
              (refine wp_region_quiet_lit (by kernel_rfl) (by kernel_rfl) ?_; (repeat (first | (go_big_quiet_want; first | (refine quiet_load_mid wr 110 (.tmp 87) (by rfl) c (co + j * 3) (by rfl) [.int .i64 x.pos, .int .i64 x.sym, .int .i64 x.add] _ HR1.out Try.underlying110 (by rfl) (by kernel_rfl) ?_; go_simp; go_big_quiet_on) | (refine quiet_load_mid wr 110 (.tmp 92) (by rfl) c' (co' + j * 3) (by rfl) [.int .i64 x.pos, .int .i64 x.sym, .int .i64 x.add] _ HR2.out Try.underlying110 (by rfl) (by kernel_rfl) ?_; go_simp; go_big_quiet_on)) | (go_big_quiet_step (fail)))); refine wpQuiet_nil ?_; intro _ hw'; obtain ⟨nq, hw''⟩ := hw'; subst hw'')
              go_wp2_with fail
              go_roundg (r - (j + 1))
              case measure => have := HG.out; omega
              case rel => exact ⟨j + 1, by omega, rfl, by go_num, HM.out.drewN _⟩
            · obtain rfl : r = j := by omega
              go_wp2_with fail
              go_ret
              exact ⟨rfl, HM.out.below⟩

end Go.Proofs.Ythnehhidlaggeaa

/-! scarfjointlaw.ObjectGets: the walk. -/
namespace Go.Proofs.Ythnehhidlaggeaa
set_option linter.unusedVariables false
set_option linter.unusedSimpArgs false
open Go.RowKit Ob

theorem SlcAt.up {w : World} {B B' : Nat} {a : Option Addr} {n c : Nat} {l : List UInt8} (h : SlcAt w B a n c l) (hB : B ≤ B') : SlcAt w B' a n c l :=
  ⟨h.len, h.cap, h.big, h.loc.imp id fun ⟨b, off, e, hlt, hc⟩ => ⟨b, off, e, by omega, hc⟩⟩

set_option maxRecDepth 100000 in
set_option maxHeartbeats 4000000 in
theorem gets_law (a : Option Addr) (n c : Nat) (mx : Int) (l : List UInt8) (w : World) (hs : SlcAt w w.heap.size a n c l) (hmx : w.cell? ⟨0, 0, none⟩ = some (.int .i64 mx)) :
    Calls Try.prog 8 #[.slice a n c] w fun e w' => e = .returned (.bool true) ∧ Below w.heap.size w w' := by
  have HG := Lib.hid (get_any a n c mx l w hs hmx)
  have HS := Lib.hid hs
  clear hs hmx
  go_enter Try.func8, Try.ntmps8
  go_wp2_with fail
  refine HG.out.mono ?_
  rintro e w1 ⟨pc, pd, ps, pr, m1, m2, m3, m4, m5, m6, m7, m8, rfl, hb1, ho1⟩
  obtain ⟨k, hk⟩ : ∃ k, (getR l).1 = k := ⟨_, rfl⟩
  rw [hk]
  have HK := Lib.hid hk
  unfold objV
  have hst : ∀ w : World, (storeCells ⟨w.heap.size, 0, none⟩ [.slice pc m1 m2, .slice pd m3 m4, .slice ps m5 m6, .slice pr m7 m8] 0).run Try.prog (w.alloc (.cells #[.slice none 0 0, .slice none 0 0, .slice none 0 0, .slice none 0 0] 60)) = .ok () (w.alloc (.cells #[.slice pc m1 m2, .slice pd m3 m4, .slice ps m5 m6, .slice pr m7 m8] 60)) :=
    fun w => run_storeCells_new (P := Try.prog) w 60 #[.slice none 0 0, .slice none 0 0, .slice none 0 0, .slice none 0 0] #[.slice pc m1 m2, .slice pd m3 m4, .slice ps m5 m6, .slice pr m7 m8] (by kernel_rfl) rfl (by kernel_rfl)
  obtain ⟨w2, hw2⟩ : ∃ w2, w2 = w1.alloc (.cells #[.slice pc m1 m2, .slice pd m3 m4, .slice ps m5 m6, .slice pr m7 m8] 60) := ⟨_, rfl⟩
  have hb2 : Below w.heap.size w w2 := by rw [hw2]; exact hb1.alloc hb1.size _
  have hbox : w2.heap[w1.heap.size]? = some (.cells #[.slice pc m1 m2, .slice pd m3 m4, .slice ps m5 m6, .slice pr m7 m8] 60 (0, 0)) := by rw [hw2]; exact heap_alloc_new w1 _
  have ho2 : ObjAt w2 pc pd ps pr m1 m3 m5 m7 (getR l).2 := by rw [hw2]; exact ho1.below ((Below.refl _ _).alloc (Nat.le_refl _) _)
  have hr := rget_any a n c l w2 ((HS.out.below hb2).up hb2.size)
  have HR := Lib.hid hr
  have HB2 := Lib.hid hb2
  have HO2 := Lib.hid ho2
  have HBOX := Lib.hid hbox
  clear hk hb1 ho1 hb2 ho2 hbox hr HG HS
  go_wp2_with fail
  rw [← hw2]
  clear hw2 hst
  refine HR.out.mono ?_
  rintro e w3 ⟨pc', pd', ps', pr', n1, n2, n3, n4, n5, n6, n7, n8, rfl, hb3, ho3⟩
  rw [HK.out]
  have hO2 := HO2.out.below hb3
  obtain rfl : n1 = m1 := by rw [← ho3.nl, hO2.nl]
  obtain rfl : n3 = m3 := by rw [← ho3.dl, hO2.dl]
  obtain rfl : n5 = m5 := by rw [← ho3.ml, hO2.ml]
  obtain rfl : n7 = m7 := by rw [← ho3.rl, hO2.rl]
  unfold objV
  have hbox3 := (hb3.block _ (lt_of_block HBOX.out)).trans HBOX.out
  obtain ⟨b1, hb1⟩ : ∃ b1, b1 = w1.heap.size := ⟨_, rfl⟩
  rw [← hb1] at hbox3 ⊢
  clear hb1
  have hst : ∀ w : World, (storeCells ⟨w.heap.size, 0, none⟩ [.slice pc' n1 n2, .slice pd' n3 n4, .slice ps' n5 n6, .slice pr' n7 n8] 0).run Try.prog (w.alloc (.cells #[.slice none 0 0, .slice none 0 0, .slice none 0 0, .slice none 0 0] 60)) = .ok () (w.alloc (.cells #[.slice pc' n1 n2, .slice pd' n3 n4, .slice ps' n5 n6, .slice pr' n7 n8] 60)) :=
    fun w => run_storeCells_new (P := Try.prog) w 60 #[.slice none 0 0, .slice none 0 0, .slice none 0 0, .slice none 0 0] #[.slice pc' n1 n2, .slice pd' n3 n4, .slice ps' n5 n6, .slice pr' n7 n8] (by kernel_rfl) rfl (by kernel_rfl)
  obtain ⟨w4, hw4⟩ : ∃ w4, w4 = w3.alloc (.cells #[.slice pc' n1 n2, .slice pd' n3 n4, .slice ps' n5 n6, .slice pr' n7 n8] 60) := ⟨_, rfl⟩
  have hn4 : Below w3.heap.size w3 w4 := by rw [hw4]; exact (Below.refl _ _).alloc (Nat.le_refl _) _
  have hbox4 := (hn4.block _ (lt_of_block hbox3)).trans hbox3
  have hbox5 : w4.heap[w3.heap.size]? = some (.cells #[.slice pc' n1 n2, .slice pd' n3 n4, .slice ps' n5 n6, .slice pr' n7 n8] 60 (0, 0)) := by rw [hw4]; exact heap_alloc_new w3 _
  have hc := objects_same (getR l).2 pc pd ps pr pc' pd' ps' pr' n1 m2 n3 m4 n5 m6 n7 m8 n2 n4 n6 n8 w4 (hO2.below hn4) (ho3.below hn4)
  unfold objV at hc
  have HC := Lib.hid hc
  have HB4 := Lib.hid (HB2.out.trans ((hb3.trans (hn4.mono hb3.size)).mono HB2.out.size))
  clear hc hn4 hO2 ho3 hb3 HO2 HBOX HB2 HR hbox3
  go_upto_region 3 with fail
  rw [← hw4]
  clear hw4 hst
  obtain ⟨b2, hb2⟩ : ∃ b2, b2 = w3.heap.size := ⟨_, rfl⟩
  rw [← hb2] at hbox5 ⊢
  clear hb2
  obtain ⟨y0, y1, y2, y3, yz⟩ := blk4 hbox4
  obtain ⟨z0, z1, z2, z3, zz⟩ := blk4 hbox5
  clear hbox4 hbox5
  go_wp2_with fail
  refine HC.out.mono ?_
  rintro e w5 ⟨rfl, hb5⟩
  clear y0 y1 y2 y3 yz z0 z1 z2 z3 zz
  go_wp2_with fail
  go_ret
  exact ⟨rfl, HB4.out.trans (hb5.mono HB4.out.size)⟩

end Go.Proofs.Ythnehhidlaggeaa
