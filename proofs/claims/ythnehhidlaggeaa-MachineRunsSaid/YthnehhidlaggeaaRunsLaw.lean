/- MachineRuns: the walk. -/
import Derived.Test.YthnehhidlaggeaaRStop
import Derived.Test.YthnehhidlaggeaaLonger
import Derived.Test.YthnehhidlaggeaaShown
import Derived.Test.YthnehhidlaggeaaMCheck
import Derived.Deep.MidRow
namespace Go.Proofs.Ythnehhidlaggeaa
set_option linter.unusedVariables false
set_option linter.unusedSimpArgs false
open Go.RowKit Mc

/-- what Shown tells of an image: registers, or what is wrong -/
def ShownTells (P : Program) (f : FuncId) (img : Value) (fuel k : Int) (CS : List Value) (w : World) : Prop :=
  Calls P f #[img, .int .i64 fuel] w fun en w' => en = .returned (.tuple #[.agg CS.toArray, .int .i64 k]) ∧ Below w.heap.size w w'
/-- registers as cells -/
structure RegCells (R : List Int) (pc : Int) (CS : List Value) : Prop where
  eq : CS = R.map (Value.int .i32) ++ [Value.int .i64 pc]
  len : R.length = 16
theorem RegCells.clen {R : List Int} {pc : Int} {CS : List Value} (h : RegCells R pc CS) : CS.length = 17 := by rw [h.eq, List.length_append, List.length_map, h.len]; rfl
theorem RegCells.one {R : List Int} {pc : Int} {CS : List Value} (h : RegCells R pc CS) : CS.toArray.all (·.oneCell') = true := by
  refine all_oneCell_toArray ?_
  intro v hv
  rw [h.eq] at hv
  rcases List.mem_append.1 hv with h | h
  · obtain ⟨y, _, rfl⟩ := List.mem_map.1 h
    rfl
  · simp only [List.mem_singleton] at h
    subst h
    rfl
theorem RegCells.info {R : List Int} {pc : Int} {CS : List Value} (h : RegCells R pc CS) : (Try.prog.info? 43).map (·.size) = some CS.length := by rw [h.clen]; kernel_rfl
theorem RegCells.eql {R : List Int} {pc : Int} {CS : List Value} (h : RegCells R pc CS) (w : World) : (binOp .eql 43 (.agg CS.toArray) (.agg CS.toArray)).run Try.prog w = .ok (.bool true) w := by
  have := eql_regs R pc h.len w
  rw [regsV, ← h.eq] at this
  exact this
/-- sixteen noughts, and nought -/
def zeroRegs : List Value := (List.replicate 16 (0 : Int)).map (Value.int .i32) ++ [Value.int .i64 0]
theorem zeroRegs_cells : RegCells (List.replicate 16 0) 0 zeroRegs := ⟨rfl, rfl⟩

/-- a load of a row, under a guard that holds -/
theorem wpList_load_guarded {P : Program} {ops : Array Oper} {rest : List Oper} {op : Oper} {a : Act} {w : World} {Q : Exit → Act → World → Prop} (hgd : Region.wanted op (yielded ops a.tmps) = true) (ty : TypeId) (x : Operand) (ho : op.op = .load ty x)
    (b o : Nat) (hx : a.eval x = .pointer (some ⟨b, o, none⟩)) (cs : List Value) (d : TypeDesc) (hc : w.rangeAt b o cs)
    (hu : P.underlying ty = some d) (hd : d.isRow = true) (hi : (P.info? ty).map (·.size) = some cs.length)
    (h : wpList P ops Q rest (a.put op.dst (.agg cs.toArray)) w) : wpList P ops Q (op :: rest) a w :=
  wpList_step fun K hK => by rw [if_pos hgd]; exact wp_load_mid ty x ho b o hx cs d hc hu hd hi (hK _ _ h)
theorem unfrozen {w : World} {b : Nat} {c : Array Value} {t : TypeId} (h : w.heap[b]? = some (.cells c t (0, 0))) (o : Nat) : w.frozen? ⟨b, o, none⟩ = false := by simp [World.frozen?, h]
/-- behind Run and Shown: the image's box, what Run told, the registers -/
structure RunsMid (w wx : World) (img V5 : Array Value) (b5 b7 : Nat) (CS : List Value) : Prop where
  below : Below w.heap.size w wx
  box : wx.heap[w.heap.size]? = some (.cells img 34 (0, 0))
  five : wx.heap[b5]? = some (.cells V5 36 (0, 0))
  regs : wx.rangeAt b7 0 CS
  lt : w.heap.size < wx.heap.size ∧ b5 < wx.heap.size ∧ b7 < wx.heap.size
theorem RunsMid.go {w wx wy : World} {img V5 : Array Value} {b5 b7 : Nat} {CS : List Value} (h : RunsMid w wx img V5 b5 b7 CS) (hb : Below wx.heap.size wx wy) : RunsMid w wy img V5 b5 b7 CS :=
  ⟨h.below.trans (hb.mono (by have := h.lt; omega)), (hb.block _ h.lt.1).trans h.box, (hb.block _ h.lt.2.1).trans h.five,
   fun j v hj => (hb.cell (p := ⟨b7, 0 + j, none⟩) h.lt.2.2).trans (h.regs j v hj), by have := h.lt; have := hb.size; omega⟩

section
variable (pc pd : Option Addr) (n kn d kd : Nat) (mem fuel : Int) (w : World)
set_option maxRecDepth 100000 in
set_option maxHeartbeats 2000000 in
/-- an image that may not be -/
theorem runs_refused (hm : ¬ mayImage n d mem) (hn : n ≤ 9223372036854775807) (hd : d ≤ 9223372036854775807) (m1 : -9223372036854775808 ≤ mem) (m2 : mem ≤ 9223372036854775807)
    (ha : ∀ w', RunRefuses Try.prog 14 (.agg #[.slice pc n kn, .slice pd d kd, .int .i64 mem]) fuel 1 w') (hb : ∀ w', ShownTells Try.prog 17 (.agg #[.slice pc n kn, .slice pd d kd, .int .i64 mem]) fuel 1 zeroRegs w') :
    Calls Try.prog 6 #[.agg #[.slice pc n kn, .slice pd d kd, .int .i64 mem], .int .i64 fuel] w fun e w' => e = .returned (.bool true) ∧ Below w.heap.size w w' := by
  have HC : Hid (∀ w', Calls Try.prog 18 #[.agg #[.slice pc n kn, .slice pd d kd, .int .i64 mem]] w' fun e w'' => e = .returned (.int .i64 1) ∧ w'.alloc (.cells #[.slice pc n kn, .slice pd d kd, .int .i64 mem] 34) = w'') := fun w' => mcheck_no pc pd n kn d kd mem w' hm
  have HMAY : Hid (∀ w', Calls Try.prog 19 #[.agg #[.slice pc n kn, .slice pd d kd, .int .i64 mem]] w' fun e w'' => e = .returned (.bool false) ∧ w'.alloc (.cells #[.slice pc n kn, .slice pd d kd, .int .i64 mem] 34) = w'') := by
    intro w'
    refine (rmay_any pc pd n kn d kd mem w' hn hd m1 m2).mono ?_
    rintro e w'' ⟨⟨t, rfl, ht⟩, rfl⟩
    cases t
    · exact ⟨rfl, rfl⟩
    · exact absurd (ht.2 rfl) hm
  have HSTOP : Hid (∀ w', Calls Try.prog 20 #[.agg #[.int .i64 0, .int .i32 0, .slice none 0 0, .int .i64 0], .agg #[.int .i64 0, .int .i32 0, .slice none 0 0, .int .i64 0]] w' fun en w'' => en = .returned (.bool true) ∧ Below w'.heap.size w' w'') :=
    fun w' => lstops_yes 0 0 0 none none [] 0 0 0 w' rfl (.inl rfl) (.inl rfl) (by omega)
  obtain ⟨CS, hCS⟩ : ∃ CS, CS = zeroRegs := ⟨_, rfl⟩
  have hcells : RegCells (List.replicate 16 0) 0 CS := by rw [hCS]; exact zeroRegs_cells
  rw [← hCS] at hb
  have heq : ∀ w, (binOp .eql 43 (.agg CS.toArray) (.agg #[.int .i32 0, .int .i32 0, .int .i32 0, .int .i32 0, .int .i32 0, .int .i32 0, .int .i32 0, .int .i32 0, .int .i32 0, .int .i32 0, .int .i32 0, .int .i32 0, .int .i32 0, .int .i32 0, .int .i32 0, .int .i32 0, .int .i64 0])).run Try.prog w = .ok (.bool true) w := by
    intro w
    have := hcells.eql w
    have e : CS.toArray = #[.int .i32 0, .int .i32 0, .int .i32 0, .int .i32 0, .int .i32 0, .int .i32 0, .int .i32 0, .int .i32 0, .int .i32 0, .int .i32 0, .int .i32 0, .int .i32 0, .int .i32 0, .int .i32 0, .int .i32 0, .int .i32 0, .int .i64 0] := by rw [hCS]; rfl
    rw [← e]
    exact this
  have HCELLS := Lib.hid hcells
  have HEQ := Lib.hid heq
  have HA := Lib.hid ha
  have HB := Lib.hid hb
  clear ha hb hm hCS hcells heq
  unfold RunRefuses at HA
  unfold ShownTells at HB
  go_enter Try.func6, Try.ntmps6
  go_wp2_with fail
  refine (HA.out _).mono ?_
  rintro e w1 ⟨rfl, hb1⟩
  have hbx := (hb1.block w.heap.size (by simp)).trans (heap_alloc_new w _)
  have cb := cell_of_row w1 _ 0 _ _ _ hbx
  have cb1 := cell_of_row w1 _ 1 _ _ _ hbx
  have cb2 := cell_of_row w1 _ 2 _ _ _ hbx
  simp only [List.getElem?_toArray, List.getElem?_cons_zero, List.getElem?_cons_succ] at cb cb1 cb2
  have hs1 : w.heap.size < w1.heap.size := by have := hb1.size; simp at this; omega
  have HBX := Lib.hid hbx
  have HBW : Hid (Below w.heap.size w w1) := ((Below.refl _ _).alloc (Nat.le_refl _) _).trans (hb1.mono (by simp))
  clear hb1 hbx
  have H5 : Hid (∀ w2, Below (w1.alloc (.cells #[.int .i64 0, .int .i32 0, .slice none 0 0, .int .i64 0] 36)).heap.size (w1.alloc (.cells #[.int .i64 0, .int .i32 0, .slice none 0 0, .int .i64 0] 36)) w2 → RunsMid w ((w2.alloc (.cells #[.int .i32 0, .int .i32 0, .int .i32 0, .int .i32 0, .int .i32 0, .int .i32 0, .int .i32 0, .int .i32 0, .int .i32 0, .int .i32 0, .int .i32 0, .int .i32 0, .int .i32 0, .int .i32 0, .int .i32 0, .int .i32 0, .int .i64 0] 43)).setCells w2.heap.size 0 CS) #[.slice pc n kn, .slice pd d kd, .int .i64 mem] #[.int .i64 0, .int .i32 0, .slice none 0 0, .int .i64 0] w1.heap.size w2.heap.size CS ∧ (w2.alloc (.cells #[.int .i32 0, .int .i32 0, .int .i32 0, .int .i32 0, .int .i32 0, .int .i32 0, .int .i32 0, .int .i32 0, .int .i32 0, .int .i32 0, .int .i32 0, .int .i32 0, .int .i32 0, .int .i32 0, .int .i32 0, .int .i32 0, .int .i64 0] 43)).there w2.heap.size 0 CS.length) := by
    intro w2 hb2
    have hs2 := hb2.size
    simp only [World.size_alloc] at hs2
    have bb2 := (hb2.block w.heap.size (by rw [World.size_alloc]; omega)).trans ((Below.heap_alloc _ _ _ (by omega)).trans HBX.out)
    have b5 := (hb2.block w1.heap.size (by rw [World.size_alloc]; omega)).trans (heap_alloc_new w1 _)
    have hth : (w2.alloc (.cells #[.int .i32 0, .int .i32 0, .int .i32 0, .int .i32 0, .int .i32 0, .int .i32 0, .int .i32 0, .int .i32 0, .int .i32 0, .int .i32 0, .int .i32 0, .int .i32 0, .int .i32 0, .int .i32 0, .int .i32 0, .int .i32 0, .int .i64 0] 43)).there w2.heap.size 0 CS.length := by
      intro j hj
      rw [HCELLS.out.clen] at hj
      have hI := heap_alloc_new w2 (.cells #[.int .i32 0, .int .i32 0, .int .i32 0, .int .i32 0, .int .i32 0, .int .i32 0, .int .i32 0, .int .i32 0, .int .i32 0, .int .i32 0, .int .i32 0, .int .i32 0, .int .i32 0, .int .i32 0, .int .i32 0, .int .i32 0, .int .i64 0] 43)
      refine ⟨?_, unfrozen hI _⟩
      rw [cell_of_row _ _ _ _ _ _ hI]
      simp
      omega
    have hsz : ∀ (vs : List Value) (o : Nat) (u : World), (u.setCells w2.heap.size o vs).heap.size = u.heap.size := by
      intro vs
      induction vs with
      | nil => intro o u; rfl
      | cons v r ih => intro o u; rw [World.setCells, ih]; simp [World.setCell]
    have hne : ∀ (k : Nat) (vs : List Value) (o : Nat) (u : World), k ≠ w2.heap.size → (u.setCells w2.heap.size o vs).heap[k]? = u.heap[k]? := by
      intro k vs
      induction vs with
      | nil => intro o u _; rfl
      | cons v r ih => intro o u hk; rw [World.setCells, ih _ _ hk, Below.heap_setCell _ _ _ _ hk]
    refine ⟨⟨?_, ?_, ?_, World.rangeAt_setCells_same _ _ _ _ hth, ?_⟩, hth⟩
    · exact below_cells (by omega) _ _ (((HBW.out.alloc (by omega) _).trans (hb2.mono (by simp; omega))).alloc (by omega) _)
    · rw [hne _ _ _ _ (by omega)]
      exact (Below.heap_alloc _ _ _ (by omega)).trans bb2
    · rw [hne _ _ _ _ (by omega)]
      exact (Below.heap_alloc _ _ _ (by omega)).trans b5
    · rw [hsz]
      simp
      omega
  go_upto_region 2 with fail
  go_cut [7, 8] from 18 to 23 (fun v7 v8 wx => ∃ b7, v7 = .pointer (some ⟨b7, 0, none⟩) ∧ v8 = .int .i64 1 ∧ RunsMid w wx #[.slice pc n kn, .slice pd d kd, .int .i64 mem] #[.int .i64 0, .int .i32 0, .slice none 0 0, .int .i64 0] w1.heap.size b7 CS)
  case first =>
    go_wp2_with fail
    refine (HB.out _).mono ?_
    rintro e w2 ⟨rfl, hb2⟩
    obtain ⟨hmid, hth⟩ := H5.out w2 hb2
    have HMID := Lib.hid hmid
    have HTH := Lib.hid hth
    clear hb2 hmid hth
    go_wp2_with (refine wpList_store_mid (by rfl) 43 (.tmp 7) (.tmp 22) (by rfl) w2.heap.size 0 CS.toArray (by rfl) (by rfl) (by rw [List.size_toArray]; exact HTH.out) (by rw [List.size_toArray]; exact HCELLS.out.info) HCELLS.out.one ?_)
    go_meet
    exact ⟨_, rfl, rfl, HMID.out⟩
  case rest =>
  obtain ⟨b7, rfl, rfl, hmid⟩ := hcut
  clear H5 HBX HBW cb cb1 cb2
  have cb := cell_of_row wc _ 0 _ _ _ hmid.box
  have cb1 := cell_of_row wc _ 1 _ _ _ hmid.box
  have cb2 := cell_of_row wc _ 2 _ _ _ hmid.box
  simp only [List.getElem?_toArray, List.getElem?_cons_zero, List.getElem?_cons_succ] at cb cb1 cb2
  have hl0 := hmid.lt.1
  have HMID := Lib.hid hmid
  clear hmid
  go_wp2_with fail
  refine (HC.out _).mono ?_
  rintro e w2 ⟨rfl, rfl⟩
  go_wp2_with fail
  refine (HMAY.out _).mono ?_
  rintro e w2 ⟨rfl, rfl⟩
  go_upto_region 5 with fail
  obtain ⟨wy, hwy⟩ : ∃ wy, wy = (wc.alloc (.cells #[.slice pc n kn, .slice pd d kd, .int .i64 mem] 34)).alloc (.cells #[.slice pc n kn, .slice pd d kd, .int .i64 mem] 34) := ⟨_, rfl⟩
  have hmid : RunsMid w wy #[.slice pc n kn, .slice pd d kd, .int .i64 mem] #[.int .i64 0, .int .i32 0, .slice none 0 0, .int .i64 0] w1.heap.size b7 CS := by
    rw [hwy]
    exact HMID.out.go (((Below.refl _ _).alloc (Nat.le_refl _) _).alloc (by simp) _)
  rw [← hwy]
  clear hwy HMID cb cb1 cb2 hl0
  obtain ⟨f0, f1, f2, f3, fz⟩ := blk4 hmid.five
  have HMID := Lib.hid hmid
  clear hmid
  go_wp2_with fail
  refine (HSTOP.out _).mono ?_
  rintro e w2 ⟨rfl, hb2⟩
  have HMID2 := Lib.hid (HMID.out.go hb2)
  clear hb2
  have heq := HEQ.out
  go_wp2_with (refine wpList_load_guarded (by rfl) 43 (.tmp 7) (by rfl) b7 0 (by rfl) CS _ HMID2.out.regs Try.underlying43 (by rfl) HCELLS.out.info ?_)
  go_ret
  exact ⟨rfl, HMID2.out.below⟩
set_option maxRecDepth 100000 in
set_option maxHeartbeats 2000000 in
/-- a fuel below nought -/
theorem runs_low (hm : mayImage n d mem) (hf : fuel < 0) (hn : n ≤ 9223372036854775807) (hd : d ≤ 9223372036854775807) (m1 : -9223372036854775808 ≤ mem) (m2 : mem ≤ 9223372036854775807)
    (ha : ∀ w', RunRefuses Try.prog 14 (.agg #[.slice pc n kn, .slice pd d kd, .int .i64 mem]) fuel 6 w') (hb : ∀ w', ShownTells Try.prog 17 (.agg #[.slice pc n kn, .slice pd d kd, .int .i64 mem]) fuel 6 zeroRegs w') :
    Calls Try.prog 6 #[.agg #[.slice pc n kn, .slice pd d kd, .int .i64 mem], .int .i64 fuel] w fun e w' => e = .returned (.bool true) ∧ Below w.heap.size w w' := by
  have HC : Hid (∀ w', Calls Try.prog 18 #[.agg #[.slice pc n kn, .slice pd d kd, .int .i64 mem]] w' fun e w'' => e = .returned (.int .i64 0) ∧ w'.alloc (.cells #[.slice pc n kn, .slice pd d kd, .int .i64 mem] 34) = w'') := fun w' => mcheck_yes pc pd n kn d kd mem w' hm
  have HMAY : Hid (∀ w', Calls Try.prog 19 #[.agg #[.slice pc n kn, .slice pd d kd, .int .i64 mem]] w' fun e w'' => e = .returned (.bool true) ∧ w'.alloc (.cells #[.slice pc n kn, .slice pd d kd, .int .i64 mem] 34) = w'') := by
    intro w'
    refine (rmay_any pc pd n kn d kd mem w' hn hd m1 m2).mono ?_
    rintro e w'' ⟨⟨t, rfl, ht⟩, rfl⟩
    cases t
    · have := ht.1 hm
      simp at this
    · exact ⟨rfl, rfl⟩
  have HSTOP : Hid (∀ w', Calls Try.prog 20 #[.agg #[.int .i64 0, .int .i32 0, .slice none 0 0, .int .i64 0], .agg #[.int .i64 0, .int .i32 0, .slice none 0 0, .int .i64 0]] w' fun en w'' => en = .returned (.bool true) ∧ Below w'.heap.size w' w'') :=
    fun w' => lstops_yes 0 0 0 none none [] 0 0 0 w' rfl (.inl rfl) (.inl rfl) (by omega)
  obtain ⟨CS, hCS⟩ : ∃ CS, CS = zeroRegs := ⟨_, rfl⟩
  have hcells : RegCells (List.replicate 16 0) 0 CS := by rw [hCS]; exact zeroRegs_cells
  rw [← hCS] at hb
  have heq : ∀ w, (binOp .eql 43 (.agg CS.toArray) (.agg #[.int .i32 0, .int .i32 0, .int .i32 0, .int .i32 0, .int .i32 0, .int .i32 0, .int .i32 0, .int .i32 0, .int .i32 0, .int .i32 0, .int .i32 0, .int .i32 0, .int .i32 0, .int .i32 0, .int .i32 0, .int .i32 0, .int .i64 0])).run Try.prog w = .ok (.bool true) w := by
    intro w
    have := hcells.eql w
    have e : CS.toArray = #[.int .i32 0, .int .i32 0, .int .i32 0, .int .i32 0, .int .i32 0, .int .i32 0, .int .i32 0, .int .i32 0, .int .i32 0, .int .i32 0, .int .i32 0, .int .i32 0, .int .i32 0, .int .i32 0, .int .i32 0, .int .i32 0, .int .i64 0] := by rw [hCS]; rfl
    rw [← e]
    exact this
  have HCELLS := Lib.hid hcells
  have HEQ := Lib.hid heq
  have HA := Lib.hid ha
  have HB := Lib.hid hb
  clear ha hb hm hCS hcells heq
  unfold RunRefuses at HA
  unfold ShownTells at HB
  go_enter Try.func6, Try.ntmps6
  go_wp2_with fail
  refine (HA.out _).mono ?_
  rintro e w1 ⟨rfl, hb1⟩
  have hbx := (hb1.block w.heap.size (by simp)).trans (heap_alloc_new w _)
  have cb := cell_of_row w1 _ 0 _ _ _ hbx
  have cb1 := cell_of_row w1 _ 1 _ _ _ hbx
  have cb2 := cell_of_row w1 _ 2 _ _ _ hbx
  simp only [List.getElem?_toArray, List.getElem?_cons_zero, List.getElem?_cons_succ] at cb cb1 cb2
  have hs1 : w.heap.size < w1.heap.size := by have := hb1.size; simp at this; omega
  have HBX := Lib.hid hbx
  have HBW : Hid (Below w.heap.size w w1) := ((Below.refl _ _).alloc (Nat.le_refl _) _).trans (hb1.mono (by simp))
  clear hb1 hbx
  have H5 : Hid (∀ w2, Below (w1.alloc (.cells #[.int .i64 0, .int .i32 0, .slice none 0 0, .int .i64 0] 36)).heap.size (w1.alloc (.cells #[.int .i64 0, .int .i32 0, .slice none 0 0, .int .i64 0] 36)) w2 → RunsMid w ((w2.alloc (.cells #[.int .i32 0, .int .i32 0, .int .i32 0, .int .i32 0, .int .i32 0, .int .i32 0, .int .i32 0, .int .i32 0, .int .i32 0, .int .i32 0, .int .i32 0, .int .i32 0, .int .i32 0, .int .i32 0, .int .i32 0, .int .i32 0, .int .i64 0] 43)).setCells w2.heap.size 0 CS) #[.slice pc n kn, .slice pd d kd, .int .i64 mem] #[.int .i64 0, .int .i32 0, .slice none 0 0, .int .i64 0] w1.heap.size w2.heap.size CS ∧ (w2.alloc (.cells #[.int .i32 0, .int .i32 0, .int .i32 0, .int .i32 0, .int .i32 0, .int .i32 0, .int .i32 0, .int .i32 0, .int .i32 0, .int .i32 0, .int .i32 0, .int .i32 0, .int .i32 0, .int .i32 0, .int .i32 0, .int .i32 0, .int .i64 0] 43)).there w2.heap.size 0 CS.length) := by
    intro w2 hb2
    have hs2 := hb2.size
    simp only [World.size_alloc] at hs2
    have bb2 := (hb2.block w.heap.size (by rw [World.size_alloc]; omega)).trans ((Below.heap_alloc _ _ _ (by omega)).trans HBX.out)
    have b5 := (hb2.block w1.heap.size (by rw [World.size_alloc]; omega)).trans (heap_alloc_new w1 _)
    have hth : (w2.alloc (.cells #[.int .i32 0, .int .i32 0, .int .i32 0, .int .i32 0, .int .i32 0, .int .i32 0, .int .i32 0, .int .i32 0, .int .i32 0, .int .i32 0, .int .i32 0, .int .i32 0, .int .i32 0, .int .i32 0, .int .i32 0, .int .i32 0, .int .i64 0] 43)).there w2.heap.size 0 CS.length := by
      intro j hj
      rw [HCELLS.out.clen] at hj
      have hI := heap_alloc_new w2 (.cells #[.int .i32 0, .int .i32 0, .int .i32 0, .int .i32 0, .int .i32 0, .int .i32 0, .int .i32 0, .int .i32 0, .int .i32 0, .int .i32 0, .int .i32 0, .int .i32 0, .int .i32 0, .int .i32 0, .int .i32 0, .int .i32 0, .int .i64 0] 43)
      refine ⟨?_, unfrozen hI _⟩
      rw [cell_of_row _ _ _ _ _ _ hI]
      simp
      omega
    have hsz : ∀ (vs : List Value) (o : Nat) (u : World), (u.setCells w2.heap.size o vs).heap.size = u.heap.size := by
      intro vs
      induction vs with
      | nil => intro o u; rfl
      | cons v r ih => intro o u; rw [World.setCells, ih]; simp [World.setCell]
    have hne : ∀ (k : Nat) (vs : List Value) (o : Nat) (u : World), k ≠ w2.heap.size → (u.setCells w2.heap.size o vs).heap[k]? = u.heap[k]? := by
      intro k vs
      induction vs with
      | nil => intro o u _; rfl
      | cons v r ih => intro o u hk; rw [World.setCells, ih _ _ hk, Below.heap_setCell _ _ _ _ hk]
    refine ⟨⟨?_, ?_, ?_, World.rangeAt_setCells_same _ _ _ _ hth, ?_⟩, hth⟩
    · exact below_cells (by omega) _ _ (((HBW.out.alloc (by omega) _).trans (hb2.mono (by simp; omega))).alloc (by omega) _)
    · rw [hne _ _ _ _ (by omega)]
      exact (Below.heap_alloc _ _ _ (by omega)).trans bb2
    · rw [hne _ _ _ _ (by omega)]
      exact (Below.heap_alloc _ _ _ (by omega)).trans b5
    · rw [hsz]
      simp
      omega
  go_upto_region 2 with fail
  go_cut [7, 8] from 18 to 23 (fun v7 v8 wx => ∃ b7, v7 = .pointer (some ⟨b7, 0, none⟩) ∧ v8 = .int .i64 6 ∧ RunsMid w wx #[.slice pc n kn, .slice pd d kd, .int .i64 mem] #[.int .i64 0, .int .i32 0, .slice none 0 0, .int .i64 0] w1.heap.size b7 CS)
  case first =>
    go_wp2_with fail
    refine (HB.out _).mono ?_
    rintro e w2 ⟨rfl, hb2⟩
    obtain ⟨hmid, hth⟩ := H5.out w2 hb2
    have HMID := Lib.hid hmid
    have HTH := Lib.hid hth
    clear hb2 hmid hth
    go_wp2_with (refine wpList_store_mid (by rfl) 43 (.tmp 7) (.tmp 22) (by rfl) w2.heap.size 0 CS.toArray (by rfl) (by rfl) (by rw [List.size_toArray]; exact HTH.out) (by rw [List.size_toArray]; exact HCELLS.out.info) HCELLS.out.one ?_)
    go_meet
    exact ⟨_, rfl, rfl, HMID.out⟩
  case rest =>
  obtain ⟨b7, rfl, rfl, hmid⟩ := hcut
  clear H5 HBX HBW cb cb1 cb2
  have cb := cell_of_row wc _ 0 _ _ _ hmid.box
  have cb1 := cell_of_row wc _ 1 _ _ _ hmid.box
  have cb2 := cell_of_row wc _ 2 _ _ _ hmid.box
  simp only [List.getElem?_toArray, List.getElem?_cons_zero, List.getElem?_cons_succ] at cb cb1 cb2
  have hl0 := hmid.lt.1
  have HMID := Lib.hid hmid
  clear hmid
  go_wp2_with fail
  refine (HC.out _).mono ?_
  rintro e w2 ⟨rfl, rfl⟩
  go_wp2_with fail
  refine (HMAY.out _).mono ?_
  rintro e w2 ⟨rfl, rfl⟩
  go_upto_region 9 with fail
  obtain ⟨wy, hwy⟩ : ∃ wy, wy = (wc.alloc (.cells #[.slice pc n kn, .slice pd d kd, .int .i64 mem] 34)).alloc (.cells #[.slice pc n kn, .slice pd d kd, .int .i64 mem] 34) := ⟨_, rfl⟩
  have hmid : RunsMid w wy #[.slice pc n kn, .slice pd d kd, .int .i64 mem] #[.int .i64 0, .int .i32 0, .slice none 0 0, .int .i64 0] w1.heap.size b7 CS := by
    rw [hwy]
    exact HMID.out.go (((Below.refl _ _).alloc (Nat.le_refl _) _).alloc (by simp) _)
  rw [← hwy]
  clear hwy HMID cb cb1 cb2 hl0
  obtain ⟨f0, f1, f2, f3, fz⟩ := blk4 hmid.five
  have HMID := Lib.hid hmid
  clear hmid
  go_wp2_with fail
  refine (HSTOP.out _).mono ?_
  rintro e w2 ⟨rfl, hb2⟩
  have HMID2 := Lib.hid (HMID.out.go hb2)
  clear hb2
  have heq := HEQ.out
  go_wp2_with (refine wpList_load_guarded (by rfl) 43 (.tmp 7) (by rfl) b7 0 (by rfl) CS _ HMID2.out.regs Try.underlying43 (by rfl) HCELLS.out.info ?_)
  go_ret
  exact ⟨rfl, HMID2.out.below⟩
set_option maxRecDepth 100000 in
set_option maxHeartbeats 2000000 in
/-- too much fuel -/
theorem runs_high (hm : mayImage n d mem) (hf : 300000 < fuel) (hn : n ≤ 9223372036854775807) (hd : d ≤ 9223372036854775807) (m1 : -9223372036854775808 ≤ mem) (m2 : mem ≤ 9223372036854775807)
    (ha : ∀ w', RunRefuses Try.prog 14 (.agg #[.slice pc n kn, .slice pd d kd, .int .i64 mem]) fuel 6 w') (hb : ∀ w', ShownTells Try.prog 17 (.agg #[.slice pc n kn, .slice pd d kd, .int .i64 mem]) fuel 6 zeroRegs w') :
    Calls Try.prog 6 #[.agg #[.slice pc n kn, .slice pd d kd, .int .i64 mem], .int .i64 fuel] w fun e w' => e = .returned (.bool true) ∧ Below w.heap.size w w' := by
  have HC : Hid (∀ w', Calls Try.prog 18 #[.agg #[.slice pc n kn, .slice pd d kd, .int .i64 mem]] w' fun e w'' => e = .returned (.int .i64 0) ∧ w'.alloc (.cells #[.slice pc n kn, .slice pd d kd, .int .i64 mem] 34) = w'') := fun w' => mcheck_yes pc pd n kn d kd mem w' hm
  have HMAY : Hid (∀ w', Calls Try.prog 19 #[.agg #[.slice pc n kn, .slice pd d kd, .int .i64 mem]] w' fun e w'' => e = .returned (.bool true) ∧ w'.alloc (.cells #[.slice pc n kn, .slice pd d kd, .int .i64 mem] 34) = w'') := by
    intro w'
    refine (rmay_any pc pd n kn d kd mem w' hn hd m1 m2).mono ?_
    rintro e w'' ⟨⟨t, rfl, ht⟩, rfl⟩
    cases t
    · have := ht.1 hm
      simp at this
    · exact ⟨rfl, rfl⟩
  have HSTOP : Hid (∀ w', Calls Try.prog 20 #[.agg #[.int .i64 0, .int .i32 0, .slice none 0 0, .int .i64 0], .agg #[.int .i64 0, .int .i32 0, .slice none 0 0, .int .i64 0]] w' fun en w'' => en = .returned (.bool true) ∧ Below w'.heap.size w' w'') :=
    fun w' => lstops_yes 0 0 0 none none [] 0 0 0 w' rfl (.inl rfl) (.inl rfl) (by omega)
  obtain ⟨CS, hCS⟩ : ∃ CS, CS = zeroRegs := ⟨_, rfl⟩
  have hcells : RegCells (List.replicate 16 0) 0 CS := by rw [hCS]; exact zeroRegs_cells
  rw [← hCS] at hb
  have heq : ∀ w, (binOp .eql 43 (.agg CS.toArray) (.agg #[.int .i32 0, .int .i32 0, .int .i32 0, .int .i32 0, .int .i32 0, .int .i32 0, .int .i32 0, .int .i32 0, .int .i32 0, .int .i32 0, .int .i32 0, .int .i32 0, .int .i32 0, .int .i32 0, .int .i32 0, .int .i32 0, .int .i64 0])).run Try.prog w = .ok (.bool true) w := by
    intro w
    have := hcells.eql w
    have e : CS.toArray = #[.int .i32 0, .int .i32 0, .int .i32 0, .int .i32 0, .int .i32 0, .int .i32 0, .int .i32 0, .int .i32 0, .int .i32 0, .int .i32 0, .int .i32 0, .int .i32 0, .int .i32 0, .int .i32 0, .int .i32 0, .int .i32 0, .int .i64 0] := by rw [hCS]; rfl
    rw [← e]
    exact this
  have hf0 : ¬ fuel < 0 := by omega
  have HCELLS := Lib.hid hcells
  have HEQ := Lib.hid heq
  have HA := Lib.hid ha
  have HB := Lib.hid hb
  clear ha hb hm hCS hcells heq
  unfold RunRefuses at HA
  unfold ShownTells at HB
  go_enter Try.func6, Try.ntmps6
  go_wp2_with fail
  refine (HA.out _).mono ?_
  rintro e w1 ⟨rfl, hb1⟩
  have hbx := (hb1.block w.heap.size (by simp)).trans (heap_alloc_new w _)
  have cb := cell_of_row w1 _ 0 _ _ _ hbx
  have cb1 := cell_of_row w1 _ 1 _ _ _ hbx
  have cb2 := cell_of_row w1 _ 2 _ _ _ hbx
  simp only [List.getElem?_toArray, List.getElem?_cons_zero, List.getElem?_cons_succ] at cb cb1 cb2
  have hs1 : w.heap.size < w1.heap.size := by have := hb1.size; simp at this; omega
  have HBX := Lib.hid hbx
  have HBW : Hid (Below w.heap.size w w1) := ((Below.refl _ _).alloc (Nat.le_refl _) _).trans (hb1.mono (by simp))
  clear hb1 hbx
  have H5 : Hid (∀ w2, Below (w1.alloc (.cells #[.int .i64 0, .int .i32 0, .slice none 0 0, .int .i64 0] 36)).heap.size (w1.alloc (.cells #[.int .i64 0, .int .i32 0, .slice none 0 0, .int .i64 0] 36)) w2 → RunsMid w ((w2.alloc (.cells #[.int .i32 0, .int .i32 0, .int .i32 0, .int .i32 0, .int .i32 0, .int .i32 0, .int .i32 0, .int .i32 0, .int .i32 0, .int .i32 0, .int .i32 0, .int .i32 0, .int .i32 0, .int .i32 0, .int .i32 0, .int .i32 0, .int .i64 0] 43)).setCells w2.heap.size 0 CS) #[.slice pc n kn, .slice pd d kd, .int .i64 mem] #[.int .i64 0, .int .i32 0, .slice none 0 0, .int .i64 0] w1.heap.size w2.heap.size CS ∧ (w2.alloc (.cells #[.int .i32 0, .int .i32 0, .int .i32 0, .int .i32 0, .int .i32 0, .int .i32 0, .int .i32 0, .int .i32 0, .int .i32 0, .int .i32 0, .int .i32 0, .int .i32 0, .int .i32 0, .int .i32 0, .int .i32 0, .int .i32 0, .int .i64 0] 43)).there w2.heap.size 0 CS.length) := by
    intro w2 hb2
    have hs2 := hb2.size
    simp only [World.size_alloc] at hs2
    have bb2 := (hb2.block w.heap.size (by rw [World.size_alloc]; omega)).trans ((Below.heap_alloc _ _ _ (by omega)).trans HBX.out)
    have b5 := (hb2.block w1.heap.size (by rw [World.size_alloc]; omega)).trans (heap_alloc_new w1 _)
    have hth : (w2.alloc (.cells #[.int .i32 0, .int .i32 0, .int .i32 0, .int .i32 0, .int .i32 0, .int .i32 0, .int .i32 0, .int .i32 0, .int .i32 0, .int .i32 0, .int .i32 0, .int .i32 0, .int .i32 0, .int .i32 0, .int .i32 0, .int .i32 0, .int .i64 0] 43)).there w2.heap.size 0 CS.length := by
      intro j hj
      rw [HCELLS.out.clen] at hj
      have hI := heap_alloc_new w2 (.cells #[.int .i32 0, .int .i32 0, .int .i32 0, .int .i32 0, .int .i32 0, .int .i32 0, .int .i32 0, .int .i32 0, .int .i32 0, .int .i32 0, .int .i32 0, .int .i32 0, .int .i32 0, .int .i32 0, .int .i32 0, .int .i32 0, .int .i64 0] 43)
      refine ⟨?_, unfrozen hI _⟩
      rw [cell_of_row _ _ _ _ _ _ hI]
      simp
      omega
    have hsz : ∀ (vs : List Value) (o : Nat) (u : World), (u.setCells w2.heap.size o vs).heap.size = u.heap.size := by
      intro vs
      induction vs with
      | nil => intro o u; rfl
      | cons v r ih => intro o u; rw [World.setCells, ih]; simp [World.setCell]
    have hne : ∀ (k : Nat) (vs : List Value) (o : Nat) (u : World), k ≠ w2.heap.size → (u.setCells w2.heap.size o vs).heap[k]? = u.heap[k]? := by
      intro k vs
      induction vs with
      | nil => intro o u _; rfl
      | cons v r ih => intro o u hk; rw [World.setCells, ih _ _ hk, Below.heap_setCell _ _ _ _ hk]
    refine ⟨⟨?_, ?_, ?_, World.rangeAt_setCells_same _ _ _ _ hth, ?_⟩, hth⟩
    · exact below_cells (by omega) _ _ (((HBW.out.alloc (by omega) _).trans (hb2.mono (by simp; omega))).alloc (by omega) _)
    · rw [hne _ _ _ _ (by omega)]
      exact (Below.heap_alloc _ _ _ (by omega)).trans bb2
    · rw [hne _ _ _ _ (by omega)]
      exact (Below.heap_alloc _ _ _ (by omega)).trans b5
    · rw [hsz]
      simp
      omega
  go_upto_region 2 with fail
  go_cut [7, 8] from 18 to 23 (fun v7 v8 wx => ∃ b7, v7 = .pointer (some ⟨b7, 0, none⟩) ∧ v8 = .int .i64 6 ∧ RunsMid w wx #[.slice pc n kn, .slice pd d kd, .int .i64 mem] #[.int .i64 0, .int .i32 0, .slice none 0 0, .int .i64 0] w1.heap.size b7 CS)
  case first =>
    go_wp2_with fail
    refine (HB.out _).mono ?_
    rintro e w2 ⟨rfl, hb2⟩
    obtain ⟨hmid, hth⟩ := H5.out w2 hb2
    have HMID := Lib.hid hmid
    have HTH := Lib.hid hth
    clear hb2 hmid hth
    go_wp2_with (refine wpList_store_mid (by rfl) 43 (.tmp 7) (.tmp 22) (by rfl) w2.heap.size 0 CS.toArray (by rfl) (by rfl) (by rw [List.size_toArray]; exact HTH.out) (by rw [List.size_toArray]; exact HCELLS.out.info) HCELLS.out.one ?_)
    go_meet
    exact ⟨_, rfl, rfl, HMID.out⟩
  case rest =>
  obtain ⟨b7, rfl, rfl, hmid⟩ := hcut
  clear H5 HBX HBW cb cb1 cb2
  have cb := cell_of_row wc _ 0 _ _ _ hmid.box
  have cb1 := cell_of_row wc _ 1 _ _ _ hmid.box
  have cb2 := cell_of_row wc _ 2 _ _ _ hmid.box
  simp only [List.getElem?_toArray, List.getElem?_cons_zero, List.getElem?_cons_succ] at cb cb1 cb2
  have hl0 := hmid.lt.1
  have HMID := Lib.hid hmid
  clear hmid
  go_wp2_with fail
  refine (HC.out _).mono ?_
  rintro e w2 ⟨rfl, rfl⟩
  go_wp2_with fail
  refine (HMAY.out _).mono ?_
  rintro e w2 ⟨rfl, rfl⟩
  go_upto_region 9 with fail
  obtain ⟨wy, hwy⟩ : ∃ wy, wy = (wc.alloc (.cells #[.slice pc n kn, .slice pd d kd, .int .i64 mem] 34)).alloc (.cells #[.slice pc n kn, .slice pd d kd, .int .i64 mem] 34) := ⟨_, rfl⟩
  have hmid : RunsMid w wy #[.slice pc n kn, .slice pd d kd, .int .i64 mem] #[.int .i64 0, .int .i32 0, .slice none 0 0, .int .i64 0] w1.heap.size b7 CS := by
    rw [hwy]
    exact HMID.out.go (((Below.refl _ _).alloc (Nat.le_refl _) _).alloc (by simp) _)
  rw [← hwy]
  clear hwy HMID cb cb1 cb2 hl0
  obtain ⟨f0, f1, f2, f3, fz⟩ := blk4 hmid.five
  have HMID := Lib.hid hmid
  clear hmid
  go_wp2_with fail
  refine (HSTOP.out _).mono ?_
  rintro e w2 ⟨rfl, hb2⟩
  have HMID2 := Lib.hid (HMID.out.go hb2)
  clear hb2
  have heq := HEQ.out
  go_wp2_with (refine wpList_load_guarded (by rfl) 43 (.tmp 7) (by rfl) b7 0 (by rfl) CS _ HMID2.out.regs Try.underlying43 (by rfl) HCELLS.out.info ?_)
  go_ret
  exact ⟨rfl, HMID2.out.below⟩
end

end Go.Proofs.Ythnehhidlaggeaa
