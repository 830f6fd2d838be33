/- The machine in memory: what its cells hold, and how that turns. -/
import Derived.Test.YthnehhidlaggeaaMkit
import Derived.Test.YthnehhidlaggeaaMachPlain
namespace Go.Proofs.Ythnehhidlaggeaa
set_option linter.unusedVariables false
set_option linter.unusedSimpArgs false
open Go.RowKit Mc

/-- the program's machine, cell by cell -/
def cellsOf (m : Mach) (endv : Int) (ov : Value) (g : Nat) (n low : Int) : Array Value :=
  (m.R.map (Value.int .i32) ++ [.int .i64 m.pc, .int .i64 endv, .int .i32 m.value, ov, .int .i64 m.steps, .int .i64 n, .int .i64 low, .slice (some ⟨g, 0, none⟩) m.words.length m.words.length]).toArray
/-- the machine lies in block x, its words in block g, what it told in a row of its own -/
structure MachAt (w : World) (B x g : Nat) (n low endv : Int) (ov : Value) (m : Mach) : Prop where
  mach : w.heap[x]? = some (.cells (cellsOf m endv ov g n low) 99 (0, 0))
  mem : w.heap[g]? = some (.cells (m.words.map (Value.int .i32)).toArray 21 (0, 0))
  outs : w.ownsRow B 21 1 ov m.out.length (m.out.map (Value.int .i32))
  apart : ov.ownBlock ≠ some g
  base : B ≤ x ∧ B ≤ g
  regs : m.R.length = 16

section
variable {w w' : World} {B x g : Nat} {n low endv : Int} {ov : Value} {m : Mach}
theorem MachAt.cell (h : MachAt w B x g n low endv ov m) (o : Nat) : w.cell? ⟨x, o, none⟩ = (cellsOf m endv ov g n low)[o]? := cell_of_row w x o _ _ _ h.mach
theorem MachAt.free (h : MachAt w B x g n low endv ov m) (o : Nat) : w.frozen? ⟨x, o, none⟩ = false := by simp [World.frozen?, h.mach]
theorem MachAt.gfree (h : MachAt w B x g n low endv ov m) (o : Nat) : w.frozen? ⟨g, o, none⟩ = false := by simp [World.frozen?, h.mem]
theorem MachAt.reg (h : MachAt w B x g n low endv ov m) (r : Nat) (hr : r < 16) : w.cell? ⟨x, r, none⟩ = some (.int .i32 (Mc.reg m r)) := by
  rw [h.cell, cellsOf, List.getElem?_toArray, List.getElem?_append_left (by rw [List.length_map, h.regs]; exact hr), List.getElem?_map, Mc.reg, Int.toNat_natCast, List.getD_eq_getElem?_getD]
  rw [List.getElem?_eq_getElem (by rw [h.regs]; exact hr)]
  rfl
theorem MachAt.rest (h : MachAt w B x g n low endv ov m) (j : Nat) : w.cell? ⟨x, 16 + j, none⟩ =
    [Value.int .i64 m.pc, .int .i64 endv, .int .i32 m.value, ov, .int .i64 m.steps, .int .i64 n, .int .i64 low, .slice (some ⟨g, 0, none⟩) m.words.length m.words.length][j]? := by
  rw [h.cell, cellsOf, List.getElem?_toArray, List.getElem?_append_right (by rw [List.length_map, h.regs]; omega), List.length_map, h.regs, Nat.add_sub_cancel_left]
theorem MachAt.tail (h : MachAt w B x g n low endv ov m) : w.cell? ⟨x, 16, none⟩ = some (.int .i64 m.pc) ∧ w.cell? ⟨x, 17, none⟩ = some (.int .i64 endv) ∧ w.cell? ⟨x, 18, none⟩ = some (.int .i32 m.value) ∧
    w.cell? ⟨x, 19, none⟩ = some ov ∧ w.cell? ⟨x, 20, none⟩ = some (.int .i64 m.steps) ∧ w.cell? ⟨x, 21, none⟩ = some (.int .i64 n) ∧ w.cell? ⟨x, 22, none⟩ = some (.int .i64 low) ∧
    w.cell? ⟨x, 23, none⟩ = some (.slice (some ⟨g, 0, none⟩) m.words.length m.words.length) :=
  ⟨h.rest 0, h.rest 1, h.rest 2, h.rest 3, h.rest 4, h.rest 5, h.rest 6, h.rest 7⟩
theorem MachAt.word (h : MachAt w B x g n low endv ov m) (a : Nat) (ha : a < m.words.length) : w.cell? ⟨g, a, none⟩ = some (.int .i32 (Mc.word m a)) := by
  rw [cell_of_row w g a _ _ _ h.mem, List.getElem?_toArray, List.getElem?_map, Mc.word, Int.toNat_natCast, List.getD_eq_getElem?_getD, List.getElem?_eq_getElem ha]
  rfl
theorem MachAt.ne (h : MachAt w B x g n low endv ov m) : x ≠ g := by
  rintro rfl
  have := h.mach.symm.trans h.mem
  injection this with h1
  injection h1 with _ h2
  exact absurd h2 (by decide)
theorem MachAt.ovx (h : MachAt w B x g n low endv ov m) : some x ≠ ov.ownBlock := own_ne h.outs h.mach (by decide)
theorem MachAt.lt (h : MachAt w B x g n low endv ov m) : x < w.heap.size ∧ g < w.heap.size := ⟨lt_of_block h.mach, lt_of_block h.mem⟩
/-- nothing that was there has turned -/
theorem MachAt.below (h : MachAt w B x g n low endv ov m) (hb : Below w.heap.size w w') : MachAt w' B x g n low endv ov m :=
  ⟨(hb.block x h.lt.1).trans h.mach, (hb.block g h.lt.2).trans h.mem,
   h.outs.kept (row := none) ⟨hb.os, hb.tape, hb.output, hb.size, fun k hk _ => hb.block k hk⟩ (by cases hv : ov.ownBlock <;> simp), h.apart, h.base, h.regs⟩
theorem MachAt.drewN (h : MachAt w B x g n low endv ov m) (k : Nat) : MachAt (w.drewN k) B x g n low endv ov m := h.below (below_drewN (Below.refl _ _) k)
/-- a cell of the machine's own is turned -/
theorem MachAt.cells_set (h : MachAt w B x g n low endv ov m) (o : Nat) (u : Value) {m' : Mach} {endv' : Int} (hm : (cellsOf m endv ov g n low).setIfInBounds o u = cellsOf m' endv' ov g n low)
    (hw : m'.words = m.words) (ho : m'.out = m.out) (hr : m'.R.length = 16) : MachAt (w.setCell ⟨x, o, none⟩ u) B x g n low endv' ov m' := by
  refine ⟨?_, ?_, ?_, h.apart, h.base, hr⟩
  · rw [← hm]
    have hb := h.mach
    simp only [World.setCell, Array.getElem?_modify, hb]
    simp
  · rw [Below.heap_setCell _ _ _ _ (fun e => h.ne e.symm), hw]; exact h.mem
  · rw [ho]
    exact h.outs.kept (row := some x) ⟨rfl, rfl, rfl, by simp [World.setCell], fun k _ hk => Below.heap_setCell w ⟨x, o, none⟩ u k (fun e => hk (by rw [e]))⟩ (by
      cases hv : ov.ownBlock with
      | none => exact .inl rfl
      | some k => exact .inr (by rw [← hv]; exact fun e => h.ovx e.symm))
theorem cells_reg (m : Mach) (endv : Int) (ov : Value) (g : Nat) (n low : Int) (r : Nat) (hr : r < 16) (h16 : m.R.length = 16) (v : Int) :
    (cellsOf m endv ov g n low).setIfInBounds r (.int .i32 v) = cellsOf { m with R := m.R.set r v } endv ov g n low := by
  simp only [cellsOf, List.setIfInBounds_toArray]
  rw [List.set_append_left _ _ (by rw [List.length_map, h16]; exact hr), List.map_set]
theorem cells_rest (m m' : Mach) (endv endv' : Int) (ov : Value) (g : Nat) (n low : Int) (j : Nat) (u : Value) (h16 : m.R.length = 16) (hR : m'.R = m.R)
    (hl : [Value.int .i64 m.pc, .int .i64 endv, .int .i32 m.value, ov, .int .i64 m.steps, .int .i64 n, .int .i64 low, .slice (some ⟨g, 0, none⟩) m.words.length m.words.length].set j u =
      [Value.int .i64 m'.pc, .int .i64 endv', .int .i32 m'.value, ov, .int .i64 m'.steps, .int .i64 n, .int .i64 low, .slice (some ⟨g, 0, none⟩) m'.words.length m'.words.length]) :
    (cellsOf m endv ov g n low).setIfInBounds (16 + j) u = cellsOf m' endv' ov g n low := by
  simp only [cellsOf, List.setIfInBounds_toArray]
  rw [List.set_append_right _ _ (by rw [List.length_map, h16]; omega), List.length_map, h16, Nat.add_sub_cancel_left, hl, hR]
theorem MachAt.setReg (h : MachAt w B x g n low endv ov m) (r : Nat) (hr : r < 16) (v : Int) : MachAt (w.setCell ⟨x, r, none⟩ (.int .i32 v)) B x g n low endv ov { m with R := m.R.set r v } :=
  h.cells_set r _ (cells_reg m endv ov g n low r hr h.regs v) rfl rfl (by rw [List.length_set]; exact h.regs)
theorem MachAt.setPC (h : MachAt w B x g n low endv ov m) (p : Int) : MachAt (w.setCell ⟨x, 16, none⟩ (.int .i64 p)) B x g n low endv ov { m with pc := p } :=
  h.cells_set 16 _ (cells_rest m { m with pc := p } endv endv ov g n low 0 _ h.regs rfl rfl) rfl rfl h.regs
theorem MachAt.setEnd (h : MachAt w B x g n low endv ov m) (e : Int) : MachAt (w.setCell ⟨x, 17, none⟩ (.int .i64 e)) B x g n low e ov m :=
  h.cells_set 17 _ (cells_rest m m endv e ov g n low 1 _ h.regs rfl rfl) rfl rfl h.regs
theorem MachAt.setValue (h : MachAt w B x g n low endv ov m) (v : Int) : MachAt (w.setCell ⟨x, 18, none⟩ (.int .i32 v)) B x g n low endv ov { m with value := v } :=
  h.cells_set 18 _ (cells_rest m { m with value := v } endv endv ov g n low 2 _ h.regs rfl rfl) rfl rfl h.regs
theorem MachAt.setSteps (h : MachAt w B x g n low endv ov m) (s : Nat) : MachAt (w.setCell ⟨x, 20, none⟩ (.int .i64 s)) B x g n low endv ov { m with steps := s } :=
  h.cells_set 20 _ (cells_rest m { m with steps := s } endv endv ov g n low 4 _ h.regs rfl rfl) rfl rfl h.regs
theorem MachAt.setWord (h : MachAt w B x g n low endv ov m) (a : Nat) (v : Int) : MachAt (w.setCell ⟨g, a, none⟩ (.int .i32 v)) B x g n low endv ov { m with words := m.words.set a v } := by
  refine ⟨?_, ?_, ?_, h.apart, h.base, h.regs⟩
  · rw [Below.heap_setCell _ _ _ _ h.ne]
    have e : cellsOf { m with words := m.words.set a v } endv ov g n low = cellsOf m endv ov g n low := by simp [cellsOf]
    rw [e]; exact h.mach
  · have hb := h.mem
    simp only [World.setCell, Array.getElem?_modify, hb]
    simp [List.map_set]
  · exact h.outs.kept (row := some g) ⟨rfl, rfl, rfl, by simp [World.setCell], fun k _ hk => Below.heap_setCell w ⟨g, a, none⟩ _ k (fun e => hk (by rw [e]))⟩ (.inr h.apart)

theorem MachAt.fin (h : MachAt w B x g n low endv ov m) (f : Int) : MachAt w B x g n low endv ov { m with fin := f } := ⟨h.mach, h.mem, h.outs, h.apart, h.base, h.regs⟩

/-- what it told lies in another row -/
theorem MachAt.setOut (h : MachAt w B x g n low endv ov m) {w1 : World} {v' : Value} {l : List Int} (hg : w.grownBy w1 ov.ownBlock)
    (ho : w1.ownsRow B 21 1 v' l.length (l.map (Value.int .i32))) (hv : v'.ownBlock ≠ some g) : MachAt (w1.setCell ⟨x, 19, none⟩ v') B x g n low endv v' { m with out := l } := by
  have hx1 : w1.heap[x]? = some (.cells (cellsOf m endv ov g n low) 99 (0, 0)) := (hg.block x h.lt.1 h.ovx).trans h.mach
  have hg1 : w1.heap[g]? = some (.cells (m.words.map (Value.int .i32)).toArray 21 (0, 0)) := (hg.block g h.lt.2 (fun e => h.apart e.symm)).trans h.mem
  refine ⟨?_, ?_, ?_, hv, h.base, h.regs⟩
  · have hc : (cellsOf m endv ov g n low).setIfInBounds 19 v' = cellsOf { m with out := l } endv v' g n low := by
      simp only [cellsOf, List.setIfInBounds_toArray]
      rw [show 19 = 16 + 3 from rfl, List.set_append_right _ _ (by rw [List.length_map, h.regs]; omega), List.length_map, h.regs]
      rfl
    rw [← hc]
    simp only [World.setCell, Array.getElem?_modify, hx1]
    simp
  · rw [Below.heap_setCell _ _ _ _ (fun e => h.ne e.symm)]; exact hg1
  · exact ho.kept (row := some x) ⟨rfl, rfl, rfl, by simp [World.setCell], fun k _ hk => Below.heap_setCell w1 ⟨x, 19, none⟩ v' k (fun e => hk (by rw [e]))⟩ (by
      have hne := own_ne ho hx1 (by decide)
      cases hv : v'.ownBlock with
      | none => exact .inl rfl
      | some k => exact .inr (by rw [← hv]; exact fun e => hne e.symm))
end

/-- what Fr speaks of has stayed; the machine's own blocks are not among it -/
structure Kept (Fr : Nat → Prop) (x g : Nat) (W w : World) (ob : Option Nat) : Prop where
  os : w.os = W.os
  tape : w.tape = W.tape
  output : w.output = W.output
  size : W.heap.size ≤ w.heap.size
  block : ∀ k, Fr k → w.heap[k]? = W.heap[k]?
  free : ¬ Fr x ∧ ¬ Fr g
  row : ∀ k, ob = some k → ¬ Fr k
  old : ∀ k, Fr k → k < W.heap.size
section
variable {Fr : Nat → Prop} {x g : Nat} {W w w' : World} {ob : Option Nat}
theorem Kept.below (h : Kept Fr x g W w ob) (hb : Below w.heap.size w w') : Kept Fr x g W w' ob :=
  ⟨hb.os.trans h.os, hb.tape.trans h.tape, hb.output.trans h.output, Nat.le_trans h.size hb.size, fun k hk => (hb.block k (Nat.lt_of_lt_of_le (h.old k hk) h.size)).trans (h.block k hk), h.free, h.row, h.old⟩
theorem Kept.set (h : Kept Fr x g W w ob) {b : Nat} (hb : ¬ Fr b) (o : Nat) (u : Value) : Kept Fr x g W (w.setCell ⟨b, o, none⟩ u) ob :=
  ⟨h.os, h.tape, h.output, by simpa [World.setCell] using h.size, fun k hk => (Below.heap_setCell w ⟨b, o, none⟩ u k (fun e => hb (by rw [← show k = b from e]; exact hk))).trans (h.block k hk), h.free, h.row, h.old⟩
theorem Kept.grow (h : Kept Fr x g W w ob) (hg : w.grownBy w' ob) {ob' : Option Nat} (hn : ob' = ob ∨ ob' = some w.heap.size) : Kept Fr x g W w' ob' := by
  refine ⟨hg.os.trans h.os, hg.tape.trans h.tape, hg.output.trans h.output, Nat.le_trans h.size hg.size, fun k hk => (hg.block k (Nat.lt_of_lt_of_le (h.old k hk) h.size) (fun e => h.row k e.symm hk)).trans (h.block k hk), h.free, ?_, h.old⟩
  intro k hk hf
  rcases hn with e | e
  · exact h.row k (e.symm.trans hk) hf
  · rw [e] at hk
    injection hk with hk
    have := h.old k hf
    have := h.size
    omega
end
section
variable {w w' : World} {B x g : Nat} {n low endv : Int} {ov : Value} {m : Mach} {Fr : Nat → Prop}

/-- a machine at work, in a world that has kept what Fr speaks of -/
def AtW (W : World) (B : Nat) (Fr : Nat → Prop) (x g : Nat) (n low endv : Int) (m : Mach) (w : World) : Prop := ∃ ov, MachAt w B x g n low endv ov m ∧ Kept Fr x g W w ov.ownBlock
variable {W : World}
theorem AtW.below (h : AtW W B Fr x g n low endv m w) (hb : Below w.heap.size w w') : AtW W B Fr x g n low endv m w' := by
  obtain ⟨ov, h1, h2⟩ := h
  exact ⟨ov, h1.below hb, h2.below hb⟩
theorem AtW.alloc (h : AtW W B Fr x g n low endv m w) (o : Obj) : AtW W B Fr x g n low endv m (w.alloc o) := h.below ((Below.refl _ _).alloc (Nat.le_refl _) _)
theorem AtW.drew (h : AtW W B Fr x g n low endv m w) : AtW W B Fr x g n low endv m w.drew := h.below (Below.refl _ _).drew
theorem AtW.fin (h : AtW W B Fr x g n low endv m w) (f : Int) : AtW W B Fr x g n low endv { m with fin := f } w := by
  obtain ⟨ov, h1, h2⟩ := h
  exact ⟨ov, h1.fin f, h2⟩
theorem grown_set (w : World) (x o : Nat) (u : Value) : w.grownBy (w.setCell ⟨x, o, none⟩ u) (some x) :=
  ⟨rfl, rfl, rfl, by simp [World.setCell], fun k _ hk => Below.heap_setCell w ⟨x, o, none⟩ u k (fun e => hk (by rw [e]))⟩
end

/-- a register is given a word, and the machine goes on -/
theorem give_ok {W w : World} {B : Nat} {Fr : Nat → Prop} {x g : Nat} {n low : Int} {m : Mach} (h : AtW W B Fr x g n low 0 m w) (r : Nat) (v : Int) (hr : r < 16) (v1 : -2147483648 ≤ v) (v2 : v ≤ 2147483647) (hf : (put low m r v).fin < 0) :
    Calls Try.prog 109 #[.pointer (some ⟨x, 0, none⟩), .int .i64 r, .int .i32 v] w fun e w' => e = .returned (.tuple #[]) ∧ AtW W B Fr x g n low 0 (put low m r v) w' ∧ w.grownBy w' (some x) := by
  obtain ⟨ov, h1, h2⟩ := h
  have hset := (h1.setReg r hr v).fin (put low m r v).fin
  have hat : AtW W B Fr x g n low 0 (put low m r v) (w.setCell ⟨x, r, none⟩ (.int .i32 v)) := ⟨ov, by simpa [put] using hset, h2.set h2.free.1 _ _⟩
  by_cases h13 : r = 13
  · subst h13
    have hs : spEnd low v m.words.length < 0 := by simpa [put] using hf
    have hb : low ≤ v ∧ v ≤ m.words.length := by
      unfold spEnd at hs
      split at hs
      · omega
      · split at hs <;> omega
    refine (give_sp x g v (reg m 13) low m.words.length m.words.length w v1 v2 (h1.reg 13 (by omega)) h1.tail.2.2.2.2.2.2.1 h1.tail.2.2.2.2.2.2.2 h1.free hb.1 hb.2).mono ?_
    rintro e w' ⟨rfl, rfl⟩
    exact ⟨rfl, hat, grown_set _ _ _ _⟩
  · refine (give_reg x r v _ w hr h13 (h1.reg r hr) h1.free).mono ?_
    rintro e w' ⟨rfl, rfl⟩
    exact ⟨rfl, hat, grown_set _ _ _ _⟩

/-- the stack's register is given a word that ends the machine -/
theorem give_ends {W w : World} {B : Nat} {Fr : Nat → Prop} {x g : Nat} {n low : Int} {m : Mach} (h : AtW W B Fr x g n low 0 m w) (r : Nat) (v : Int) (hr : r < 16) (v1 : -2147483648 ≤ v) (v2 : v ≤ 2147483647) (hf : 0 ≤ (put low m r v).fin) :
    Calls Try.prog 109 #[.pointer (some ⟨x, 0, none⟩), .int .i64 r, .int .i32 v] w fun e w' => e = thrown (put low m r v).fin ∧ AtW W B Fr x g n low 0 (put low m r v) w' := by
  obtain ⟨ov, h1, h2⟩ := h
  have hset := (h1.setReg r hr v).fin (put low m r v).fin
  have hat : AtW W B Fr x g n low 0 (put low m r v) (w.setCell ⟨x, r, none⟩ (.int .i32 v)) := ⟨ov, by simpa [put] using hset, h2.set h2.free.1 _ _⟩
  have h13 : r = 13 := by
    by_cases e : (r : Int) = 13
    · omega
    · simp [put, e] at hf
  subst h13
  have hs : 0 ≤ spEnd low v m.words.length := by simpa [put] using hf
  have he : (put low m ((13 : Nat) : Int) v).fin = spEnd low v m.words.length := by simp [put]
  rw [he]
  by_cases hl : v < low
  · have e3 : spEnd low v m.words.length = 3 := by unfold spEnd; rw [if_pos hl]
    rw [e3]
    refine (give_full x g v (reg m 13) low w v1 v2 (h1.reg 13 (by omega)) h1.tail.2.2.2.2.2.2.1 h1.free hl).mono ?_
    rintro e w' ⟨rfl, rfl⟩
    exact ⟨rfl, hat⟩
  · have hM : (m.words.length : Int) < v := by
      unfold spEnd at hs
      rw [if_neg hl] at hs
      split at hs <;> omega
    have e4 : spEnd low v m.words.length = 4 := by unfold spEnd; rw [if_neg hl, if_pos hM]
    rw [e4]
    refine (give_wrong x g v (reg m 13) low m.words.length m.words.length w v1 v2 (h1.reg 13 (by omega)) h1.tail.2.2.2.2.2.2.1 h1.tail.2.2.2.2.2.2.2 h1.free (by omega) hM).mono ?_
    rintro e w' ⟨rfl, rfl⟩
    exact ⟨rfl, hat⟩

end Go.Proofs.Ythnehhidlaggeaa
