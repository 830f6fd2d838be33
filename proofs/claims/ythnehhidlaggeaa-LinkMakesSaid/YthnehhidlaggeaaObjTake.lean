/- rows.take, speaks: the walks. -/
import Derived.Test.YthnehhidlaggeaaDec2
import Derived.Test.YthnehhidlaggeaaObjPlain
import Derived.Test.YthnehhidlaggeaaMkit
import Derived.Deep.QuietTactic
import Derived.RegionTactic
import Derived.Deep.WholeRow
namespace Go.Proofs.Ythnehhidlaggeaa
set_option linter.unusedVariables false
set_option linter.unusedSimpArgs false
open Go.RowKit Ob

theorem retb {a b : Bool} (h : a = b) : Ending.returned (.bool a) = Ending.returned (.bool b) := by rw [h]
/-- how far functions and variables lie, in memory -/
def RowsBlk (w : World) (x : Nat) (c d : Int) : Prop := w.heap[x]? = some (.cells #[.int .i64 c, .int .i64 d] 117 (0, 0))
def symV (s : Sym) : Value := .agg #[.string s.name, .int .i64 s.kind, .bool s.static, .int .i64 s.pos, .int .i64 s.size, .string s.sign, .int .i64 s.frame]
theorem blk2 {w : World} {b : Nat} {t : TypeId} {v0 v1 : Value} (h : w.heap[b]? = some (.cells #[v0, v1] t (0, 0))) : w.cell? ⟨b, 0, none⟩ = some v0 ∧ w.cell? ⟨b, 1, none⟩ = some v1 ∧ ∀ o, w.frozen? ⟨b, o, none⟩ = false :=
  ⟨cell_of_row w b 0 _ _ _ h, cell_of_row w b 1 _ _ _ h, fun o => by simp [World.frozen?, h]⟩
theorem grown_drewN {a w : World} {row : Option Nat} (h : a.grownBy w row) (n : Nat) : a.grownBy (w.drewN n) row := ⟨h.os, h.tape, h.output, h.size, h.block⟩
theorem grown_drew {a w : World} {row : Option Nat} (h : a.grownBy w row) : a.grownBy w.drew row := ⟨h.os, h.tape, h.output, h.size, h.block⟩
theorem grown_alloc {a w : World} {row : Option Nat} (h : a.grownBy w row) (o : Go.Obj) : a.grownBy (w.alloc o) row :=
  ⟨h.os, h.tape, h.output, Nat.le_trans h.size (by simp), fun i hi hne => (Below.heap_alloc w o i (Nat.lt_of_lt_of_le hi h.size)).trans (h.block i hi hne)⟩
theorem grown_setCell {a w : World} {g : Nat} (h : a.grownBy w (some g)) {p : Addr} (hp : p.block = g ∨ a.heap.size ≤ p.block) (u : Value) : a.grownBy (w.setCell p u) (some g) :=
  ⟨h.os, h.tape, h.output, by simpa [World.setCell] using h.size, fun i hi hne => (Below.heap_setCell w p u i (by
    rintro rfl
    rcases hp with hp | hp
    · exact hne (by rw [hp])
    · omega)).trans (h.block i hi hne)⟩
theorem blk_set2 {w : World} {b i : Nat} {t : TypeId} {cs : Array Value} (h : w.heap[b]? = some (.cells cs t (0, 0))) (u : Value) : (w.setCell ⟨b, i, none⟩ u).heap[b]? = some (.cells (cs.setIfInBounds i u) t (0, 0)) := by
  simp [World.setCell, Array.getElem?_modify, h]

/-- a whole aggregate goes into the block that was made last -/
theorem wpList_store_new {P : Program} {ops : Array Oper} {rest : List Oper} {op : Oper} {a : Act} {w : World} {Q : Exit → Act → World → Prop} {c c' : Array Value} (hgd : op.guard = none) (ty : TypeId) (x y : Operand) (ho : op.op = .store ty x y)
    (hx : a.eval x = .pointer (some ⟨w.heap.size, 0, none⟩)) (hy : a.eval y = .agg c') (hi : (P.info? ty).map (·.size) = some c'.size) (hs : c.size = c'.size) (h1 : c'.all (·.oneCell') = true)
    (h : wpList P ops Q rest (a.put op.dst undef) (w.alloc (.cells c' ty))) : wpList P ops Q (op :: rest) a (w.alloc (.cells c ty)) :=
  wpList_plain hgd fun K hK => by
    unfold Oper.wp execOp
    simp only [ho, hx, hy, Sem.run_bind, run_storeAt_new w ty c c' hi hs h1, Result.andThen_ok, Sem.run_pure]
    exact hK _ _ h

set_option maxRecDepth 100000 in
set_option maxHeartbeats 2000000 in
theorem speaks_any (n : Int) (w : World) (h0 : 0 ≤ n) (h1 : n ≤ 4294967295) :
    Calls Try.prog 51 #[.int .u32 n] w fun e w' => e = .returned (.bool (speaksB n)) ∧ Below w.heap.size w w' := by
  have H : Hid (∀ w', Calls Try.prog 11 #[.int .u32 n] w' fun e w'' => e = .returned (.tuple #[Cp.decV (Cp.dec n), .bool (Cp.dec n).isSome]) ∧ Below w'.heap.size w' w'') := fun w' => decode_any n w' h0 h1
  clear h0 h1
  unfold speaksB
  rcases hd : Cp.dec n with _ | ⟨op, a, b, c, i⟩
  all_goals rw [hd] at H
  all_goals clear hd
  · simp only [Cp.decV, Cp.instrOf, Option.isSome_none] at H
    have hst : ∀ w : World, (storeCells ⟨w.heap.size, 0, none⟩ [.int .i64 0, .int .i64 0, .int .i64 0, .int .i64 0, .int .i64 0] 0).run Try.prog (w.alloc (.cells #[.int .i64 0, .int .i64 0, .int .i64 0, .int .i64 0, .int .i64 0] 24)) = .ok () (w.alloc (.cells #[.int .i64 0, .int .i64 0, .int .i64 0, .int .i64 0, .int .i64 0] 24)) := fun w => run_storeCells_new (P := Try.prog) w 24 #[.int .i64 0, .int .i64 0, .int .i64 0, .int .i64 0, .int .i64 0] #[.int .i64 0, .int .i64 0, .int .i64 0, .int .i64 0, .int .i64 0] (by kernel_rfl) rfl (by kernel_rfl)
    go_enter Try.func51, Try.ntmps51
    go_wp2_with fail
    refine (H.out _).mono ?_
    rintro e w1 ⟨rfl, hb⟩
    have HB := Lib.hid hb
    clear hb
    go_wp2_with fail
    go_ret
    exact ⟨rfl, HB.out.alloc HB.out.size _⟩
  · simp only [Cp.decV, Cp.instrOf, Option.isSome_some] at H
    by_cases h2 : op = 2 ∨ op = 19 ∨ op = 20 ∨ op = 21
    · have HV : Hid (((op == 2 || op == 19 || op == 20 || op == 21) && i == 0) = (i == 0)) := by
        show _ = _
        rcases h2 with rfl | rfl | rfl | rfl <;> rfl
      have hst : ∀ w : World, (storeCells ⟨w.heap.size, 0, none⟩ [.int .i64 op, .int .i64 a, .int .i64 b, .int .i64 c, .int .i64 i] 0).run Try.prog (w.alloc (.cells #[.int .i64 0, .int .i64 0, .int .i64 0, .int .i64 0, .int .i64 0] 24)) = .ok () (w.alloc (.cells #[.int .i64 op, .int .i64 a, .int .i64 b, .int .i64 c, .int .i64 i] 24)) := fun w => run_storeCells_new (P := Try.prog) w 24 #[.int .i64 0, .int .i64 0, .int .i64 0, .int .i64 0, .int .i64 0] #[.int .i64 op, .int .i64 a, .int .i64 b, .int .i64 c, .int .i64 i] (by kernel_rfl) rfl (by kernel_rfl)
      rcases h2 with rfl | rfl | rfl | rfl
      all_goals
        go_enter Try.func51, Try.ntmps51
        go_wp2_with fail
        refine (H.out _).mono ?_
        rintro e w1 ⟨rfl, hb⟩
        have HB := Lib.hid hb
        clear hb
        go_wp2_with fail
        go_ret
        exact ⟨retb HV.out.symm, HB.out.alloc HB.out.size _⟩
    · have e1 : (op == 2) = false := beq_eq_false_iff_ne.2 (by omega)
      have e2 : (op == 19) = false := beq_eq_false_iff_ne.2 (by omega)
      have e3 : (op == 20) = false := beq_eq_false_iff_ne.2 (by omega)
      have e4 : (op == 21) = false := beq_eq_false_iff_ne.2 (by omega)
      have HV : Hid (((op == 2 || op == 19 || op == 20 || op == 21) && i == 0) = false) := by
        show _ = _
        rw [e1, e2, e3, e4]
        rfl
      clear h2
      have hst : ∀ w : World, (storeCells ⟨w.heap.size, 0, none⟩ [.int .i64 op, .int .i64 a, .int .i64 b, .int .i64 c, .int .i64 i] 0).run Try.prog (w.alloc (.cells #[.int .i64 0, .int .i64 0, .int .i64 0, .int .i64 0, .int .i64 0] 24)) = .ok () (w.alloc (.cells #[.int .i64 op, .int .i64 a, .int .i64 b, .int .i64 c, .int .i64 i] 24)) := fun w => run_storeCells_new (P := Try.prog) w 24 #[.int .i64 0, .int .i64 0, .int .i64 0, .int .i64 0, .int .i64 0] #[.int .i64 op, .int .i64 a, .int .i64 b, .int .i64 c, .int .i64 i] (by kernel_rfl) rfl (by kernel_rfl)
      go_enter Try.func51, Try.ntmps51
      go_wp2_with fail
      refine (H.out _).mono ?_
      rintro e w1 ⟨rfl, hb⟩
      have HB := Lib.hid hb
      clear hb
      go_wp2_with fail
      go_ret
      exact ⟨retb HV.out.symm, HB.out.alloc HB.out.size _⟩

section
variable (x : Nat) (c d kind pos size frame : Int) (static : Bool) (name sign : ByteArray) (w : World)
set_option maxRecDepth 100000 in
set_option maxHeartbeats 2000000 in
theorem take_out (h : RowsBlk w x c d) (hk : kind = 3 ∨ kind = 4) :
    Calls Try.prog 50 #[.pointer (some ⟨x, 0, none⟩), .agg #[.string name, .int .i64 kind, .bool static, .int .i64 pos, .int .i64 size, .string sign, .int .i64 frame]] w fun e w' => e = .returned (.bool (decide (pos = 0 ∧ size = 0 ∧ frame = 0 ∧ static = false))) ∧ w.alloc (.cells #[.string name, .int .i64 kind, .bool static, .int .i64 pos, .int .i64 size, .string sign, .int .i64 frame] 106) = w' := by
  have HV : Hid (decide (pos = 0 ∧ size = 0 ∧ frame = 0 ∧ static = false) = (((pos == 0) && (size == 0)) && (frame == 0) && !static)) := by
    show _ = _
    rw [Bool.eq_iff_iff]
    cases static <;> simp [and_assoc]
  rw [HV.out]
  clear HV
  rcases hk with rfl | rfl
  all_goals
  by_cases p0 : pos = 0
  · have q0 : (pos == 0) = true := beq_iff_eq.2 p0
    clear p0
    by_cases p1 : size = 0
    · have q1 : (size == 0) = true := beq_iff_eq.2 p1
      clear p1
      by_cases p2 : frame = 0
      · have q2 : (frame == 0) = true := beq_iff_eq.2 p2
        clear p2
        rw [q0, q1, q2]
        have hc := blk2 h
        obtain ⟨c0, c1, cf⟩ := hc
        have hlt : x < w.heap.size := lt_of_block h
        have hne : ¬ x = w.heap.size := by omega
        have H := Lib.hid h
        clear h
        go_enter Try.func50, Try.ntmps50
        go_wp2_with fail
        go_ret
        exact ⟨by simp, rfl⟩
      · have q2 : (frame == 0) = false := beq_eq_false_iff_ne.2 p2
        clear p2
        rw [q0, q1, q2]
        have hc := blk2 h
        obtain ⟨c0, c1, cf⟩ := hc
        have hlt : x < w.heap.size := lt_of_block h
        have hne : ¬ x = w.heap.size := by omega
        have H := Lib.hid h
        clear h
        go_enter Try.func50, Try.ntmps50
        go_wp2_with fail
        go_ret
        exact ⟨rfl, rfl⟩
    · have q1 : (size == 0) = false := beq_eq_false_iff_ne.2 p1
      clear p1
      rw [q0, q1]
      have hc := blk2 h
      obtain ⟨c0, c1, cf⟩ := hc
      have hlt : x < w.heap.size := lt_of_block h
      have hne : ¬ x = w.heap.size := by omega
      have H := Lib.hid h
      clear h
      go_enter Try.func50, Try.ntmps50
      go_wp2_with fail
      go_ret
      exact ⟨rfl, rfl⟩
  · have q0 : (pos == 0) = false := beq_eq_false_iff_ne.2 p0
    clear p0
    rw [q0]
    have hc := blk2 h
    obtain ⟨c0, c1, cf⟩ := hc
    have hlt : x < w.heap.size := lt_of_block h
    have hne : ¬ x = w.heap.size := by omega
    have H := Lib.hid h
    clear h
    go_enter Try.func50, Try.ntmps50
    go_wp2_with fail
    go_ret
    exact ⟨rfl, rfl⟩

set_option maxRecDepth 100000 in
set_option maxHeartbeats 2000000 in
theorem take_fun_no (h : RowsBlk w x c d) (hn : pos ≠ c ∨ size < 1 ∨ 16000 < size ∨ frame < 0 ∨ 16000 < frame) :
    Calls Try.prog 50 #[.pointer (some ⟨x, 0, none⟩), .agg #[.string name, .int .i64 1, .bool static, .int .i64 pos, .int .i64 size, .string sign, .int .i64 frame]] w fun e w' => e = .returned (.bool false) ∧ w.grownBy w' (some x) := by
  by_cases p0 : pos ≠ c
  · have q0 : (pos != c) = true := bne_iff_ne.2 p0
    clear hn p0
    have hc := blk2 h
    obtain ⟨c0, c1, cf⟩ := hc
    have hlt : x < w.heap.size := lt_of_block h
    have hne : ¬ x = w.heap.size := by omega
    have H := Lib.hid h
    clear h
    go_enter Try.func50, Try.ntmps50
    go_wp2_with fail
    go_quiet (fail)
    go_wp2_with fail
    go_ret
    exact ⟨rfl, grown_drewN (grown_alloc (World.grownBy.refl w _) _) _⟩
  have q0 : (pos != c) = false := by simpa using p0
  by_cases p1 : size < 1
  · have q1 : decide (size < 1) = true := decide_eq_true p1
    clear hn
    have hc := blk2 h
    obtain ⟨c0, c1, cf⟩ := hc
    have hlt : x < w.heap.size := lt_of_block h
    have hne : ¬ x = w.heap.size := by omega
    have H := Lib.hid h
    clear h
    go_enter Try.func50, Try.ntmps50
    go_wp2_with fail
    go_quiet (fail)
    go_wp2_with fail
    go_ret
    exact ⟨rfl, grown_drewN (grown_alloc (World.grownBy.refl w _) _) _⟩
  have q1 : decide (size < 1) = false := decide_eq_false p1
  by_cases p2 : 16000 < size
  · have q2 : decide (16000 < size) = true := decide_eq_true p2
    clear hn
    have hc := blk2 h
    obtain ⟨c0, c1, cf⟩ := hc
    have hlt : x < w.heap.size := lt_of_block h
    have hne : ¬ x = w.heap.size := by omega
    have H := Lib.hid h
    clear h
    go_enter Try.func50, Try.ntmps50
    go_wp2_with fail
    go_quiet (fail)
    go_wp2_with fail
    go_ret
    exact ⟨rfl, grown_drewN (grown_alloc (World.grownBy.refl w _) _) _⟩
  have q2 : decide (16000 < size) = false := decide_eq_false p2
  by_cases p3 : frame < 0
  · have q3 : decide (frame < 0) = true := decide_eq_true p3
    clear hn
    have hc := blk2 h
    obtain ⟨c0, c1, cf⟩ := hc
    have hlt : x < w.heap.size := lt_of_block h
    have hne : ¬ x = w.heap.size := by omega
    have H := Lib.hid h
    clear h
    go_enter Try.func50, Try.ntmps50
    go_wp2_with fail
    go_quiet (fail)
    go_wp2_with fail
    go_ret
    exact ⟨rfl, grown_drewN (grown_alloc (World.grownBy.refl w _) _) _⟩
  have q3 : decide (frame < 0) = false := decide_eq_false p3
  have p4 : 16000 < frame := by omega
  have q4 : decide (16000 < frame) = true := decide_eq_true p4
  clear hn
  have hc := blk2 h
  obtain ⟨c0, c1, cf⟩ := hc
  have hlt : x < w.heap.size := lt_of_block h
  have hne : ¬ x = w.heap.size := by omega
  have H := Lib.hid h
  clear h
  go_enter Try.func50, Try.ntmps50
  go_wp2_with fail
  go_quiet (fail)
  go_wp2_with fail
  go_ret
  exact ⟨rfl, grown_drewN (grown_alloc (World.grownBy.refl w _) _) _⟩
set_option maxRecDepth 100000 in
set_option maxHeartbeats 2000000 in
theorem take_fun_yes (h : RowsBlk w x c d) (hr : -1000000000 ≤ c ∧ c ≤ 1000000000) (p0 : pos = c) (p1 : 1 ≤ size) (p2 : size ≤ 16000) (p3 : 0 ≤ frame) (p4 : frame ≤ 16000) :
    Calls Try.prog 50 #[.pointer (some ⟨x, 0, none⟩), .agg #[.string name, .int .i64 1, .bool static, .int .i64 pos, .int .i64 size, .string sign, .int .i64 frame]] w fun e w' => e = .returned (.bool true) ∧ RowsBlk w' x (c + size) d ∧ w.grownBy w' (some x) := by
  have q0 : (pos != c) = false := by simpa using p0
  have q1 : decide (size < 1) = false := decide_eq_false (by omega)
  have q2 : decide (16000 < size) = false := decide_eq_false (by omega)
  have q3 : decide (frame < 0) = false := decide_eq_false (by omega)
  have q4 : decide (16000 < frame) = false := decide_eq_false (by omega)
  clear p0 
  have hc := blk2 h
  obtain ⟨c0, c1, cf⟩ := hc
  have hlt : x < w.heap.size := lt_of_block h
  have hne : ¬ x = w.heap.size := by omega
  have H := Lib.hid h
  clear h
  go_enter Try.func50, Try.ntmps50
  go_wp2_with fail
  go_quiet (fail)
  go_wp2_with fail
  go_region
  go_wp2_with fail
  go_ret
  refine ⟨rfl, ?_, grown_setCell (grown_drewN (grown_alloc (World.grownBy.refl w _) _) _) (.inl rfl) _⟩
  exact blk_set2 (b := x) (cs := #[.int .i64 c, .int .i64 d]) ((Below.heap_alloc w _ x hlt).trans H.out) _
set_option maxRecDepth 100000 in
set_option maxHeartbeats 2000000 in
theorem take_data_no (h : RowsBlk w x c d) (hn : pos ≠ d ∨ size < 1 ∨ 16000 < size ∨ frame < 0 ∨ 16000 < frame ∨ frame ≠ 0) :
    Calls Try.prog 50 #[.pointer (some ⟨x, 0, none⟩), .agg #[.string name, .int .i64 2, .bool static, .int .i64 pos, .int .i64 size, .string sign, .int .i64 frame]] w fun e w' => e = .returned (.bool false) ∧ w.grownBy w' (some x) := by
  by_cases p0 : pos ≠ d
  · have q0 : (pos != d) = true := bne_iff_ne.2 p0
    clear hn p0
    have hc := blk2 h
    obtain ⟨c0, c1, cf⟩ := hc
    have hlt : x < w.heap.size := lt_of_block h
    have hne : ¬ x = w.heap.size := by omega
    have H := Lib.hid h
    clear h
    go_enter Try.func50, Try.ntmps50
    go_wp2_with fail
    go_quiet (fail)
    go_wp2_with fail
    go_ret
    exact ⟨rfl, grown_drewN (grown_alloc (World.grownBy.refl w _) _) _⟩
  have q0 : (pos != d) = false := by simpa using p0
  by_cases p1 : size < 1
  · have q1 : decide (size < 1) = true := decide_eq_true p1
    clear hn
    have hc := blk2 h
    obtain ⟨c0, c1, cf⟩ := hc
    have hlt : x < w.heap.size := lt_of_block h
    have hne : ¬ x = w.heap.size := by omega
    have H := Lib.hid h
    clear h
    go_enter Try.func50, Try.ntmps50
    go_wp2_with fail
    go_quiet (fail)
    go_wp2_with fail
    go_ret
    exact ⟨rfl, grown_drewN (grown_alloc (World.grownBy.refl w _) _) _⟩
  have q1 : decide (size < 1) = false := decide_eq_false p1
  by_cases p2 : 16000 < size
  · have q2 : decide (16000 < size) = true := decide_eq_true p2
    clear hn
    have hc := blk2 h
    obtain ⟨c0, c1, cf⟩ := hc
    have hlt : x < w.heap.size := lt_of_block h
    have hne : ¬ x = w.heap.size := by omega
    have H := Lib.hid h
    clear h
    go_enter Try.func50, Try.ntmps50
    go_wp2_with fail
    go_quiet (fail)
    go_wp2_with fail
    go_ret
    exact ⟨rfl, grown_drewN (grown_alloc (World.grownBy.refl w _) _) _⟩
  have q2 : decide (16000 < size) = false := decide_eq_false p2
  by_cases p3 : frame < 0
  · have q3 : decide (frame < 0) = true := decide_eq_true p3
    clear hn
    have hc := blk2 h
    obtain ⟨c0, c1, cf⟩ := hc
    have hlt : x < w.heap.size := lt_of_block h
    have hne : ¬ x = w.heap.size := by omega
    have H := Lib.hid h
    clear h
    go_enter Try.func50, Try.ntmps50
    go_wp2_with fail
    go_quiet (fail)
    go_wp2_with fail
    go_ret
    exact ⟨rfl, grown_drewN (grown_alloc (World.grownBy.refl w _) _) _⟩
  have q3 : decide (frame < 0) = false := decide_eq_false p3
  by_cases p4 : 16000 < frame
  · have q4 : decide (16000 < frame) = true := decide_eq_true p4
    clear hn
    have hc := blk2 h
    obtain ⟨c0, c1, cf⟩ := hc
    have hlt : x < w.heap.size := lt_of_block h
    have hne : ¬ x = w.heap.size := by omega
    have H := Lib.hid h
    clear h
    go_enter Try.func50, Try.ntmps50
    go_wp2_with fail
    go_quiet (fail)
    go_wp2_with fail
    go_ret
    exact ⟨rfl, grown_drewN (grown_alloc (World.grownBy.refl w _) _) _⟩
  have q4 : decide (16000 < frame) = false := decide_eq_false p4
  have p5 : frame ≠ 0 := by omega
  have q5 : (frame != 0) = true := bne_iff_ne.2 p5
  clear hn p5
  have hc := blk2 h
  obtain ⟨c0, c1, cf⟩ := hc
  have hlt : x < w.heap.size := lt_of_block h
  have hne : ¬ x = w.heap.size := by omega
  have H := Lib.hid h
  clear h
  go_enter Try.func50, Try.ntmps50
  go_wp2_with fail
  go_quiet (fail)
  go_wp2_with fail
  go_ret
  exact ⟨rfl, grown_drewN (grown_alloc (World.grownBy.refl w _) _) _⟩
set_option maxRecDepth 100000 in
set_option maxHeartbeats 2000000 in
theorem take_data_yes (h : RowsBlk w x c d) (hr : -1000000000 ≤ d ∧ d ≤ 1000000000) (p0 : pos = d) (p1 : 1 ≤ size) (p2 : size ≤ 16000) (p3 : 0 ≤ frame) (p4 : frame ≤ 16000) (p5 : frame = 0) :
    Calls Try.prog 50 #[.pointer (some ⟨x, 0, none⟩), .agg #[.string name, .int .i64 2, .bool static, .int .i64 pos, .int .i64 size, .string sign, .int .i64 frame]] w fun e w' => e = .returned (.bool true) ∧ RowsBlk w' x c (d + size) ∧ w.grownBy w' (some x) := by
  have q0 : (pos != d) = false := by simpa using p0
  have q1 : decide (size < 1) = false := decide_eq_false (by omega)
  have q2 : decide (16000 < size) = false := decide_eq_false (by omega)
  have q3 : decide (frame < 0) = false := decide_eq_false (by omega)
  have q4 : decide (16000 < frame) = false := decide_eq_false (by omega)
  have q5 : (frame != 0) = false := by simpa using p5
  clear p0 p5
  have hc := blk2 h
  obtain ⟨c0, c1, cf⟩ := hc
  have hlt : x < w.heap.size := lt_of_block h
  have hne : ¬ x = w.heap.size := by omega
  have H := Lib.hid h
  clear h
  go_enter Try.func50, Try.ntmps50
  go_wp2_with fail
  go_quiet (fail)
  go_wp2_with fail
  go_region
  go_wp2_with fail
  go_ret
  refine ⟨rfl, ?_, grown_setCell (grown_drewN (grown_alloc (World.grownBy.refl w _) _) _) (.inl rfl) _⟩
  exact blk_set2 (b := x) (cs := #[.int .i64 c, .int .i64 d]) ((Below.heap_alloc w _ x hlt).trans H.out) _
end

end Go.Proofs.Ythnehhidlaggeaa
