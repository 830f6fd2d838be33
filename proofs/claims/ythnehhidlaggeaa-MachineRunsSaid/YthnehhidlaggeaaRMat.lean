/- The reference's machine in memory: what its cells hold, and how that turns. -/
import Derived.Test.YthnehhidlaggeaaMat
import Derived.Laws.CopyOwn
namespace Go.Proofs.Ythnehhidlaggeaa
set_option linter.unusedVariables false
set_option linter.unusedSimpArgs false
open Go.RowKit Mc

/-- the reference's machine, cell by cell -/
def rcells (m : Mach) (cv iv ov : Value) (g : Nat) (low : Int) : Array Value :=
  ([cv, iv, .slice (some ⟨g, 0, none⟩) m.words.length m.words.length, .int .i64 low] ++ (m.R.map (Value.int .i32) ++ [.int .i64 m.pc, ov, .int .i64 m.fin, .int .i32 m.value, .int .i64 m.steps])).toArray
/-- it lies in block x, its words in block g, what it told in a row of its own -/
structure RefAt (w : World) (B x g : Nat) (cv iv : Value) (low : Int) (ov : Value) (m : Mach) : Prop where
  mach : w.heap[x]? = some (.cells (rcells m cv iv ov g low) 55 (0, 0))
  mem : w.heap[g]? = some (.cells (m.words.map (Value.int .i32)).toArray 21 (0, 0))
  outs : w.ownsRow B 21 1 ov m.out.length (m.out.map (Value.int .i32))
  apart : ov.ownBlock ≠ some g
  base : B ≤ x ∧ B ≤ g
  regs : m.R.length = 16

section
variable {w w' : World} {B x g : Nat} {cv iv : Value} {low : Int} {ov : Value} {m : Mach}
theorem RefAt.cell (h : RefAt w B x g cv iv low ov m) (o : Nat) : w.cell? ⟨x, o, none⟩ = (rcells m cv iv ov g low)[o]? := cell_of_row w x o _ _ _ h.mach
theorem RefAt.free (h : RefAt w B x g cv iv low ov m) (o : Nat) : w.frozen? ⟨x, o, none⟩ = false := by simp [World.frozen?, h.mach]
theorem RefAt.gfree (h : RefAt w B x g cv iv low ov m) (o : Nat) : w.frozen? ⟨g, o, none⟩ = false := by simp [World.frozen?, h.mem]
theorem RefAt.head (h : RefAt w B x g cv iv low ov m) : w.cell? ⟨x, 0, none⟩ = some cv ∧ w.cell? ⟨x, 1, none⟩ = some iv ∧ w.cell? ⟨x, 2, none⟩ = some (.slice (some ⟨g, 0, none⟩) m.words.length m.words.length) ∧ w.cell? ⟨x, 3, none⟩ = some (.int .i64 low) :=
  ⟨h.cell 0, h.cell 1, h.cell 2, h.cell 3⟩
theorem RefAt.reg (h : RefAt w B x g cv iv low ov m) (r : Nat) (hr : r < 16) : w.cell? ⟨x, 4 + r, none⟩ = some (.int .i32 (Mc.reg m r)) := by
  rw [h.cell, rcells, List.getElem?_toArray, List.getElem?_append_right (by simp), List.length_cons, List.length_cons, List.length_cons, List.length_cons, List.length_nil]
  rw [show 4 + r - (0 + 1 + 1 + 1 + 1) = r by omega, List.getElem?_append_left (by rw [List.length_map, h.regs]; exact hr), List.getElem?_map, Mc.reg, Int.toNat_natCast, List.getD_eq_getElem?_getD]
  rw [List.getElem?_eq_getElem (by rw [h.regs]; exact hr)]
  rfl
theorem RefAt.rest (h : RefAt w B x g cv iv low ov m) (j : Nat) : w.cell? ⟨x, 20 + j, none⟩ =
    [Value.int .i64 m.pc, ov, .int .i64 m.fin, .int .i32 m.value, .int .i64 m.steps][j]? := by
  rw [h.cell, rcells, List.getElem?_toArray, List.getElem?_append_right (by simp; omega), List.length_cons, List.length_cons, List.length_cons, List.length_cons, List.length_nil]
  rw [List.getElem?_append_right (by rw [List.length_map, h.regs]; omega), List.length_map, h.regs, show 20 + j - (0 + 1 + 1 + 1 + 1) - 16 = j by omega]
theorem RefAt.tail (h : RefAt w B x g cv iv low ov m) : w.cell? ⟨x, 20, none⟩ = some (.int .i64 m.pc) ∧ w.cell? ⟨x, 21, none⟩ = some ov ∧ w.cell? ⟨x, 22, none⟩ = some (.int .i64 m.fin) ∧ w.cell? ⟨x, 23, none⟩ = some (.int .i32 m.value) ∧
    w.cell? ⟨x, 24, none⟩ = some (.int .i64 m.steps) := ⟨h.rest 0, h.rest 1, h.rest 2, h.rest 3, h.rest 4⟩
theorem RefAt.word (h : RefAt w B x g cv iv low ov m) (a : Nat) (ha : a < m.words.length) : w.cell? ⟨g, a, none⟩ = some (.int .i32 (Mc.word m a)) := by
  rw [cell_of_row w g a _ _ _ h.mem, List.getElem?_toArray, List.getElem?_map, Mc.word, Int.toNat_natCast, List.getD_eq_getElem?_getD, List.getElem?_eq_getElem ha]
  rfl
theorem RefAt.ne (h : RefAt w B x g cv iv low ov m) : x ≠ g := by
  rintro rfl
  have := h.mach.symm.trans h.mem
  injection this with h1
  injection h1 with _ h2
  exact absurd h2 (by decide)
theorem RefAt.ovx (h : RefAt w B x g cv iv low ov m) : some x ≠ ov.ownBlock := own_ne h.outs h.mach (by decide)
theorem RefAt.lt (h : RefAt w B x g cv iv low ov m) : x < w.heap.size ∧ g < w.heap.size := ⟨lt_of_block h.mach, lt_of_block h.mem⟩
theorem RefAt.below (h : RefAt w B x g cv iv low ov m) (hb : Below w.heap.size w w') : RefAt w' B x g cv iv low ov m :=
  ⟨(hb.block x h.lt.1).trans h.mach, (hb.block g h.lt.2).trans h.mem,
   h.outs.kept (row := none) ⟨hb.os, hb.tape, hb.output, hb.size, fun k hk _ => hb.block k hk⟩ (by cases hv : ov.ownBlock <;> simp), h.apart, h.base, h.regs⟩
theorem RefAt.drewN (h : RefAt w B x g cv iv low ov m) (k : Nat) : RefAt (w.drewN k) B x g cv iv low ov m := h.below (below_drewN (Below.refl _ _) k)
/-- a cell of the machine's own is turned -/
theorem RefAt.cells_set (h : RefAt w B x g cv iv low ov m) (o : Nat) (u : Value) {m' : Mach} {cv' iv' : Value} (hm : (rcells m cv iv ov g low).setIfInBounds o u = rcells m' cv' iv' ov g low)
    (hw : m'.words = m.words) (ho : m'.out = m.out) (hr : m'.R.length = 16) : RefAt (w.setCell ⟨x, o, none⟩ u) B x g cv' iv' low ov m' := by
  refine ⟨?_, ?_, ?_, h.apart, h.base, hr⟩
  · rw [← hm]
    have hb := h.mach
    simp only [World.setCell, Array.getElem?_modify, hb]
    simp
  · rw [Below.heap_setCell _ _ _ _ (fun e => h.ne e.symm), hw]; exact h.mem
  · rw [ho]
    exact h.outs.kept (row := some x) ⟨rfl, rfl, rfl, by simp [World.setCell], fun k _ hk => Below.heap_setCell w ⟨x, o, none⟩ u k (fun e => hk (by rw [e]))⟩ (by
      cases hv : ov.ownBlock with
      | none => exact .inl rfl
      | some k => exact .inr (by rw [← hv]; exact fun e => h.ovx e.symm))
theorem rcells_reg (m : Mach) (cv iv ov : Value) (g : Nat) (low : Int) (r : Nat) (hr : r < 16) (h16 : m.R.length = 16) (v : Int) :
    (rcells m cv iv ov g low).setIfInBounds (4 + r) (.int .i32 v) = rcells { m with R := m.R.set r v } cv iv ov g low := by
  simp only [rcells, List.setIfInBounds_toArray]
  rw [List.set_append_right _ _ (by simp), List.length_cons, List.length_cons, List.length_cons, List.length_cons, List.length_nil, show 4 + r - (0 + 1 + 1 + 1 + 1) = r by omega]
  rw [List.set_append_left _ _ (by rw [List.length_map, h16]; exact hr), List.map_set]
theorem rcells_rest (m m' : Mach) (cv iv ov ov' : Value) (g : Nat) (low : Int) (j : Nat) (u : Value) (h16 : m.R.length = 16) (hR : m'.R = m.R) (hW : m'.words.length = m.words.length)
    (hl : [Value.int .i64 m.pc, ov, .int .i64 m.fin, .int .i32 m.value, .int .i64 m.steps].set j u = [Value.int .i64 m'.pc, ov', .int .i64 m'.fin, .int .i32 m'.value, .int .i64 m'.steps]) :
    (rcells m cv iv ov g low).setIfInBounds (20 + j) u = rcells m' cv iv ov' g low := by
  simp only [rcells, List.setIfInBounds_toArray]
  rw [List.set_append_right _ _ (by simp; omega), List.length_cons, List.length_cons, List.length_cons, List.length_cons, List.length_nil, show 20 + j - (0 + 1 + 1 + 1 + 1) = 16 + j by omega]
  rw [List.set_append_right _ _ (by rw [List.length_map, h16]; omega), List.length_map, h16, Nat.add_sub_cancel_left, hl, hR, hW]
theorem RefAt.setReg (h : RefAt w B x g cv iv low ov m) (r : Nat) (hr : r < 16) (v : Int) : RefAt (w.setCell ⟨x, 4 + r, none⟩ (.int .i32 v)) B x g cv iv low ov { m with R := m.R.set r v } :=
  h.cells_set (4 + r) _ (rcells_reg m cv iv ov g low r hr h.regs v) rfl rfl (by rw [List.length_set]; exact h.regs)
theorem RefAt.setPC (h : RefAt w B x g cv iv low ov m) (p : Int) : RefAt (w.setCell ⟨x, 20, none⟩ (.int .i64 p)) B x g cv iv low ov { m with pc := p } :=
  h.cells_set 20 _ (rcells_rest m { m with pc := p } cv iv ov ov g low 0 _ h.regs rfl rfl rfl) rfl rfl h.regs
theorem RefAt.setFin (h : RefAt w B x g cv iv low ov m) (e : Int) : RefAt (w.setCell ⟨x, 22, none⟩ (.int .i64 e)) B x g cv iv low ov { m with fin := e } :=
  h.cells_set 22 _ (rcells_rest m { m with fin := e } cv iv ov ov g low 2 _ h.regs rfl rfl rfl) rfl rfl h.regs
theorem RefAt.setValue (h : RefAt w B x g cv iv low ov m) (v : Int) : RefAt (w.setCell ⟨x, 23, none⟩ (.int .i32 v)) B x g cv iv low ov { m with value := v } :=
  h.cells_set 23 _ (rcells_rest m { m with value := v } cv iv ov ov g low 3 _ h.regs rfl rfl rfl) rfl rfl h.regs
theorem RefAt.setSteps (h : RefAt w B x g cv iv low ov m) (s : Nat) : RefAt (w.setCell ⟨x, 24, none⟩ (.int .i64 s)) B x g cv iv low ov { m with steps := s } :=
  h.cells_set 24 _ (rcells_rest m { m with steps := s } cv iv ov ov g low 4 _ h.regs rfl rfl rfl) rfl rfl h.regs
theorem RefAt.setCode (h : RefAt w B x g cv iv low ov m) (v : Value) : RefAt (w.setCell ⟨x, 0, none⟩ v) B x g v iv low ov m :=
  h.cells_set 0 _ (by simp [rcells]) rfl rfl h.regs
theorem RefAt.setIs (h : RefAt w B x g cv iv low ov m) (v : Value) : RefAt (w.setCell ⟨x, 1, none⟩ v) B x g cv v low ov m :=
  h.cells_set 1 _ (by simp [rcells]) rfl rfl h.regs
theorem RefAt.setWord (h : RefAt w B x g cv iv low ov m) (a : Nat) (v : Int) : RefAt (w.setCell ⟨g, a, none⟩ (.int .i32 v)) B x g cv iv low ov { m with words := m.words.set a v } := by
  refine ⟨?_, ?_, ?_, h.apart, h.base, h.regs⟩
  · rw [Below.heap_setCell _ _ _ _ h.ne]
    have e : rcells { m with words := m.words.set a v } cv iv ov g low = rcells m cv iv ov g low := by simp [rcells]
    rw [e]; exact h.mach
  · have hb := h.mem
    simp only [World.setCell, Array.getElem?_modify, hb]
    simp [List.map_set]
  · exact h.outs.kept (row := some g) ⟨rfl, rfl, rfl, by simp [World.setCell], fun k _ hk => Below.heap_setCell w ⟨g, a, none⟩ _ k (fun e => hk (by rw [e]))⟩ (.inr h.apart)
/-- what it told lies in another row -/
theorem RefAt.setOut (h : RefAt w B x g cv iv low ov m) {w1 : World} {v' : Value} {l : List Int} (hg : w.grownBy w1 ov.ownBlock)
    (ho : w1.ownsRow B 21 1 v' l.length (l.map (Value.int .i32))) (hv : v'.ownBlock ≠ some g) : RefAt (w1.setCell ⟨x, 21, none⟩ v') B x g cv iv low v' { m with out := l } := by
  have hx1 : w1.heap[x]? = some (.cells (rcells m cv iv ov g low) 55 (0, 0)) := (hg.block x h.lt.1 h.ovx).trans h.mach
  have hg1 : w1.heap[g]? = some (.cells (m.words.map (Value.int .i32)).toArray 21 (0, 0)) := (hg.block g h.lt.2 (fun e => h.apart e.symm)).trans h.mem
  refine ⟨?_, ?_, ?_, hv, h.base, h.regs⟩
  · rw [← rcells_rest m { m with out := l } cv iv ov v' g low 1 v' h.regs rfl rfl rfl]
    simp only [World.setCell, Array.getElem?_modify, hx1]
    simp
  · rw [Below.heap_setCell _ _ _ _ (fun e => h.ne e.symm)]; exact hg1
  · exact ho.kept (row := some x) ⟨rfl, rfl, rfl, by simp [World.setCell], fun k _ hk => Below.heap_setCell w1 ⟨x, 21, none⟩ v' k (fun e => hk (by rw [e]))⟩ (by
      have hne := own_ne ho hx1 (by decide)
      cases hv : v'.ownBlock with
      | none => exact .inl rfl
      | some k => exact .inr (by rw [← hv]; exact fun e => hne e.symm))
/-- other blocks grew -/
theorem RefAt.grown (h : RefAt w B x g cv iv low ov m) {row : Option Nat} (hg : w.grownBy w' row) (h1 : row ≠ some x) (h2 : row ≠ some g) (h3 : ov.ownBlock = none ∨ ov.ownBlock ≠ row) : RefAt w' B x g cv iv low ov m :=
  ⟨(hg.block x h.lt.1 h1.symm).trans h.mach, (hg.block g h.lt.2 h2.symm).trans h.mem, h.outs.kept hg h3, h.apart, h.base, h.regs⟩
end

/-- the reference's machine at work, in a world that has kept what Fr speaks of -/
def RefW (W : World) (B : Nat) (Fr : Nat → Prop) (x g : Nat) (cv iv : Value) (low : Int) (m : Mach) (w : World) : Prop := ∃ ov, RefAt w B x g cv iv low ov m ∧ Kept Fr x g W w ov.ownBlock
section
variable {W w w' : World} {B x g : Nat} {cv iv : Value} {low : Int} {ov : Value} {m : Mach} {Fr : Nat → Prop}
theorem RefW.below (h : RefW W B Fr x g cv iv low m w) (hb : Below w.heap.size w w') : RefW W B Fr x g cv iv low m w' := by
  obtain ⟨ov, h1, h2⟩ := h
  exact ⟨ov, h1.below hb, h2.below hb⟩
theorem RefW.alloc (h : RefW W B Fr x g cv iv low m w) (o : Obj) : RefW W B Fr x g cv iv low m (w.alloc o) := h.below ((Below.refl _ _).alloc (Nat.le_refl _) _)
theorem RefW.drew (h : RefW W B Fr x g cv iv low m w) : RefW W B Fr x g cv iv low m w.drew := h.below (Below.refl _ _).drew
theorem RefW.drewN (h : RefW W B Fr x g cv iv low m w) (k : Nat) : RefW W B Fr x g cv iv low m (w.drewN k) := h.below (below_drewN (Below.refl _ _) k)
theorem RefW.setReg (h : RefW W B Fr x g cv iv low m w) (r : Nat) (hr : r < 16) (v : Int) : RefW W B Fr x g cv iv low { m with R := m.R.set r v } (w.setCell ⟨x, 4 + r, none⟩ (.int .i32 v)) := by
  obtain ⟨ov, h1, h2⟩ := h
  exact ⟨ov, h1.setReg r hr v, h2.set h2.free.1 _ _⟩
theorem RefW.setPC (h : RefW W B Fr x g cv iv low m w) (p : Int) : RefW W B Fr x g cv iv low { m with pc := p } (w.setCell ⟨x, 20, none⟩ (.int .i64 p)) := by
  obtain ⟨ov, h1, h2⟩ := h
  exact ⟨ov, h1.setPC p, h2.set h2.free.1 _ _⟩
theorem RefW.setFin (h : RefW W B Fr x g cv iv low m w) (p : Int) : RefW W B Fr x g cv iv low { m with fin := p } (w.setCell ⟨x, 22, none⟩ (.int .i64 p)) := by
  obtain ⟨ov, h1, h2⟩ := h
  exact ⟨ov, h1.setFin p, h2.set h2.free.1 _ _⟩
theorem RefW.setValue (h : RefW W B Fr x g cv iv low m w) (p : Int) : RefW W B Fr x g cv iv low { m with value := p } (w.setCell ⟨x, 23, none⟩ (.int .i32 p)) := by
  obtain ⟨ov, h1, h2⟩ := h
  exact ⟨ov, h1.setValue p, h2.set h2.free.1 _ _⟩
theorem RefW.setSteps (h : RefW W B Fr x g cv iv low m w) (p : Nat) : RefW W B Fr x g cv iv low { m with steps := p } (w.setCell ⟨x, 24, none⟩ (.int .i64 p)) := by
  obtain ⟨ov, h1, h2⟩ := h
  exact ⟨ov, h1.setSteps p, h2.set h2.free.1 _ _⟩
theorem RefW.setWord (h : RefW W B Fr x g cv iv low m w) (a : Nat) (v : Int) : RefW W B Fr x g cv iv low { m with words := m.words.set a v } (w.setCell ⟨g, a, none⟩ (.int .i32 v)) := by
  obtain ⟨ov, h1, h2⟩ := h
  exact ⟨ov, h1.setWord a v, h2.set h2.free.2 _ _⟩
end

end Go.Proofs.Ythnehhidlaggeaa
