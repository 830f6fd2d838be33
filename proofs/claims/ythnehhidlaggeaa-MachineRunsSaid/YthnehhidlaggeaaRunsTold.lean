/- MachineRuns: the walk, where the machine runs. -/
import Derived.Test.YthnehhidlaggeaaRunsLaw
namespace Go.Proofs.Ythnehhidlaggeaa
set_option linter.unusedVariables false
set_option linter.unusedSimpArgs false
open Go.RowKit Mc

/-! What operations of the last region yield. -/
theorem ex_eql0 (ev : Operand → Value) (o : Oper) (x y : Operand) (ho : o.op = .binOp .eql 28 x y 28) (hx : ev x = .int .i64 0) (hy : ev y = .int .i64 0) (w : World) : (execOp ev o).run Try.prog w = .ok (.value (.bool true)) w := by
  unfold execOp
  simp only [ho, hx, hy]
  go_simp
theorem ex_nil (ev : Operand → Value) (o : Oper) (x : Operand) {p : Addr} (ho : o.op = .nilCheck x) (hx : ev x = .pointer (some p)) (w : World) : (execOp ev o).run Try.prog w = .ok (.value (.pointer (some p))) w := by
  unfold execOp
  simp only [ho, hx]
  go_simp
theorem ex_fa4 (ev : Operand → Value) (o : Oper) (x : Operand) {b : Nat} (ho : o.op = .fieldAddr 55 x 4) (hx : ev x = .pointer (some ⟨b, 0, none⟩)) (w : World) : (execOp ev o).run Try.prog w = .ok (.value (.pointer (some ⟨b, 4, none⟩))) w := by
  unfold execOp
  simp only [ho, hx]
  go_simp
theorem ex_fa5 (ev : Operand → Value) (o : Oper) (x : Operand) {b : Nat} (ho : o.op = .fieldAddr 55 x 5) (hx : ev x = .pointer (some ⟨b, 0, none⟩)) (w : World) : (execOp ev o).run Try.prog w = .ok (.value (.pointer (some ⟨b, 20, none⟩))) w := by
  unfold execOp
  simp only [ho, hx]
  go_simp
theorem ex_load1 (ev : Operand → Value) (o : Oper) (x : Operand) {b k : Nat} {v : Int} {w : World} (ho : o.op = .load 3 x) (hx : ev x = .pointer (some ⟨b, k, none⟩)) (h0 : w.cell? ⟨b, k, none⟩ = some (.int .i64 v)) : (execOp ev o).run Try.prog w = .ok (.value (.int .i64 v)) w := by
  unfold execOp
  simp only [ho, hx]
  go_simp
theorem ex_load4 (ev : Operand → Value) (o : Oper) (x : Operand) {b : Nat} {v0 v3 v1 : Int} {p : Option Addr} {n c : Nat} {w : World} (ho : o.op = .load 36 x) (hx : ev x = .pointer (some ⟨b, 0, none⟩)) (h0 : w.cell? ⟨b, 0, none⟩ = some (.int .i64 v0)) (h1 : w.cell? ⟨b, 1, none⟩ = some (.int .i32 v1))
    (h2 : w.cell? ⟨b, 2, none⟩ = some (.slice p n c)) (h3 : w.cell? ⟨b, 3, none⟩ = some (.int .i64 v3)) : (execOp ev o).run Try.prog w = .ok (.value (.agg #[.int .i64 v0, .int .i32 v1, .slice p n c, .int .i64 v3])) w := by
  unfold execOp
  simp only [ho, hx]
  go_simp
theorem ex_buildR (ev : Operand → Value) (o : Oper) (x y : Operand) {rs cs : Array Value} {pc : Int} {w : World} (ho : o.op = .build 43 #[(0, x), (1, y)]) (hx : ev x = .agg rs) (hy : ev y = .int .i64 pc)
    (h : (Instr.build 43 #[(0, .agg rs), (1, .int .i64 pc)]).run Try.prog w = .ok (.agg cs) w) : (execOp ev o).run Try.prog w = .ok (.value (.agg cs)) w := by
  unfold execOp
  simp only [ho, hx, hy, List.map_toArray, List.map_cons, List.map_nil, Sem.run_bind, h, Result.andThen_ok, Sem.run_pure]
theorem ex_eqlR (ev : Operand → Value) (o : Oper) (x y : Operand) {cs : Array Value} {w : World} (ho : o.op = .binOp .eql 43 x y 43) (hx : ev x = .agg cs) (hy : ev y = .agg cs)
    (h : (binOp .eql 43 (.agg cs) (.agg cs)).run Try.prog w = .ok (.bool true) w) : (execOp ev o).run Try.prog w = .ok (.value (.bool true)) w := by
  unfold execOp
  have hg : (eqGuard .eql 43 x y (.agg cs) (.agg cs)).run Try.prog w = .ok () w := by go_simp
  simp only [ho, hx, hy, Sem.run_bind, hg, h, Result.andThen_ok, Sem.run_pure]

section
variable (pc pd : Option Addr) (n kn d kd : Nat) (mem fuel : Int) (w : World)
set_option maxRecDepth 100000 in
set_option maxHeartbeats 2000000 in
/-- the machine runs -/
theorem runs_told (hm : mayImage n d mem) (hf0 : ¬ fuel < 0) (hf : ¬ 300000 < fuel) (hn : n ≤ 9223372036854775807) (hd : d ≤ 9223372036854775807) (m1 : -9223372036854775808 ≤ mem) (m2 : mem ≤ 9223372036854775807)
    (m : Mach) (low : Int) (CS : List Value) (hcells : RegCells m.R m.pc CS) (ha : ∀ w', Below w.heap.size w w' → RunTells Try.prog 14 (.agg #[.slice pc n kn, .slice pd d kd, .int .i64 mem]) fuel (endOf m) m.value m.out m.steps w') (hb : ∀ w', Below w.heap.size w w' → ShownTells Try.prog 17 (.agg #[.slice pc n kn, .slice pd d kd, .int .i64 mem]) fuel 0 CS w')
    (hr : ∀ w', Below w.heap.size w w' → Calls Try.prog 21 #[.agg #[.slice pc n kn, .slice pd d kd, .int .i64 mem], .int .i64 fuel] w' fun e w'' => ∃ x, e = .returned (.pointer (some ⟨x, 0, none⟩)) ∧ RRanAt w' w'' x low m) :
    Calls Try.prog 6 #[.agg #[.slice pc n kn, .slice pd d kd, .int .i64 mem], .int .i64 fuel] w fun e w' => e = .returned (.bool true) ∧ Below w.heap.size w w' := by
  have HC : Hid (∀ w', Calls Try.prog 18 #[.agg #[.slice pc n kn, .slice pd d kd, .int .i64 mem]] w' fun e w'' => e = .returned (.int .i64 0) ∧ w'.alloc (.cells #[.slice pc n kn, .slice pd d kd, .int .i64 mem] 34) = w'') := fun w' => mcheck_yes pc pd n kn d kd mem w' hm
  have HMAY : Hid (∀ w', Calls Try.prog 19 #[.agg #[.slice pc n kn, .slice pd d kd, .int .i64 mem]] w' fun e w'' => e = .returned (.bool true) ∧ w'.alloc (.cells #[.slice pc n kn, .slice pd d kd, .int .i64 mem] 34) = w'') := by
    intro w'
    refine (rmay_any pc pd n kn d kd mem w' hn hd m1 m2).mono ?_
    rintro e w'' ⟨⟨t, rfl, ht⟩, rfl⟩
    cases t
    · have := ht.1 hm
      simp at this
    · exact ⟨rfl, rfl⟩
  have HCELLS := Lib.hid hcells
  have HA := Lib.hid ha
  have HB := Lib.hid hb
  have HR := Lib.hid hr
  clear ha hb hr hm hcells
  unfold RunTells at HA
  unfold ShownTells at HB
  go_enter Try.func6, Try.ntmps6
  go_wp2_with fail
  refine (HA.out _ ((Below.refl _ _).alloc (Nat.le_refl _) _)).mono ?_
  rintro e w1 ⟨ova, rfl, hb1, hoa⟩
  obtain ⟨pa, ca, rfl⟩ := own_slice hoa
  have HOA := Lib.hid (own_words hoa)
  clear hoa
  have hbx := (hb1.block w.heap.size (by simp)).trans (heap_alloc_new w _)
  have cb := cell_of_row w1 _ 0 _ _ _ hbx
  have cb1 := cell_of_row w1 _ 1 _ _ _ hbx
  have cb2 := cell_of_row w1 _ 2 _ _ _ hbx
  simp only [List.getElem?_toArray, List.getElem?_cons_zero, List.getElem?_cons_succ] at cb cb1 cb2
  have hs1 : w.heap.size < w1.heap.size := by have := hb1.size; simp at this; omega
  have HBX := Lib.hid hbx
  have HBW : Hid (Below w.heap.size w w1) := ((Below.refl _ _).alloc (Nat.le_refl _) _).trans (hb1.mono (by simp))
  clear hb1 hbx
  have H5 : Hid (∀ w2, Below (w1.alloc (.cells #[.int .i64 (endOf m), .int .i32 m.value, .slice pa m.out.length ca, .int .i64 m.steps] 36)).heap.size (w1.alloc (.cells #[.int .i64 (endOf m), .int .i32 m.value, .slice pa m.out.length ca, .int .i64 m.steps] 36)) w2 → RunsMid w ((w2.alloc (.cells #[.int .i32 0, .int .i32 0, .int .i32 0, .int .i32 0, .int .i32 0, .int .i32 0, .int .i32 0, .int .i32 0, .int .i32 0, .int .i32 0, .int .i32 0, .int .i32 0, .int .i32 0, .int .i32 0, .int .i32 0, .int .i32 0, .int .i64 0] 43)).setCells w2.heap.size 0 CS) #[.slice pc n kn, .slice pd d kd, .int .i64 mem] #[.int .i64 (endOf m), .int .i32 m.value, .slice pa m.out.length ca, .int .i64 m.steps] w1.heap.size w2.heap.size CS ∧ (w2.alloc (.cells #[.int .i32 0, .int .i32 0, .int .i32 0, .int .i32 0, .int .i32 0, .int .i32 0, .int .i32 0, .int .i32 0, .int .i32 0, .int .i32 0, .int .i32 0, .int .i32 0, .int .i32 0, .int .i32 0, .int .i32 0, .int .i32 0, .int .i64 0] 43)).there w2.heap.size 0 CS.length ∧ Below w1.heap.size w1 ((w2.alloc (.cells #[.int .i32 0, .int .i32 0, .int .i32 0, .int .i32 0, .int .i32 0, .int .i32 0, .int .i32 0, .int .i32 0, .int .i32 0, .int .i32 0, .int .i32 0, .int .i32 0, .int .i32 0, .int .i32 0, .int .i32 0, .int .i32 0, .int .i64 0] 43)).setCells w2.heap.size 0 CS)) := by
    intro w2 hb2
    have hs2 := hb2.size
    simp only [World.size_alloc] at hs2
    have bb2 := (hb2.block w.heap.size (by rw [World.size_alloc]; omega)).trans ((Below.heap_alloc _ _ _ (by omega)).trans HBX.out)
    have b5 := (hb2.block w1.heap.size (by rw [World.size_alloc]; omega)).trans (heap_alloc_new w1 _)
    have hth : (w2.alloc (.cells #[.int .i32 0, .int .i32 0, .int .i32 0, .int .i32 0, .int .i32 0, .int .i32 0, .int .i32 0, .int .i32 0, .int .i32 0, .int .i32 0, .int .i32 0, .int .i32 0, .int .i32 0, .int .i32 0, .int .i32 0, .int .i32 0, .int .i64 0] 43)).there w2.heap.size 0 CS.length := by
      intro j hj
      rw [HCELLS.out.clen] at hj
      have hI := heap_alloc_new w2 (.cells #[.int .i32 0, .int .i32 0, .int .i32 0, .int .i32 0, .int .i32 0, .int .i32 0, .int .i32 0, .int .i32 0, .int .i32 0, .int .i32 0, .int .i32 0, .int .i32 0, .int .i32 0, .int .i32 0, .int .i32 0, .int .i32 0, .int .i64 0] 43)
      refine ⟨?_, unfrozen hI _⟩
      rw [cell_of_row _ _ _ _ _ _ hI]
      simp
      omega
    have hsz : ∀ (vs : List Value) (o : Nat) (u : World), (u.setCells w2.heap.size o vs).heap.size = u.heap.size := by
      intro vs
      induction vs with
      | nil => intro o u; rfl
      | cons v r ih => intro o u; rw [World.setCells, ih]; simp [World.setCell]
    have hne : ∀ (k : Nat) (vs : List Value) (o : Nat) (u : World), k ≠ w2.heap.size → (u.setCells w2.heap.size o vs).heap[k]? = u.heap[k]? := by
      intro k vs
      induction vs with
      | nil => intro o u _; rfl
      | cons v r ih => intro o u hk; rw [World.setCells, ih _ _ hk, Below.heap_setCell _ _ _ _ hk]
    refine ⟨⟨?_, ?_, ?_, World.rangeAt_setCells_same _ _ _ _ hth, ?_⟩, hth, below_cells (by omega) _ _ ((((Below.refl _ _).alloc (Nat.le_refl _) _).trans (hb2.mono (by simp))).alloc (by omega) _)⟩
    · exact below_cells (by omega) _ _ (((HBW.out.alloc (by omega) _).trans (hb2.mono (by simp; omega))).alloc (by omega) _)
    · rw [hne _ _ _ _ (by omega)]
      exact (Below.heap_alloc _ _ _ (by omega)).trans bb2
    · rw [hne _ _ _ _ (by omega)]
      exact (Below.heap_alloc _ _ _ (by omega)).trans b5
    · rw [hsz]
      simp
      omega
  go_upto_region 2 with fail
  go_cut [7, 8] from 18 to 23 (fun v7 v8 wx => ∃ b7, v7 = .pointer (some ⟨b7, 0, none⟩) ∧ v8 = .int .i64 0 ∧ RunsMid w wx #[.slice pc n kn, .slice pd d kd, .int .i64 mem] #[.int .i64 (endOf m), .int .i32 m.value, .slice pa m.out.length ca, .int .i64 m.steps] w1.heap.size b7 CS ∧ Below w1.heap.size w1 wx)
  case first =>
    go_wp2_with fail
    refine (HB.out _ (HBW.out.alloc (by omega) _)).mono ?_
    rintro e w2 ⟨rfl, hb2⟩
    obtain ⟨hmid, hth, hbx5⟩ := H5.out w2 hb2
    have HBX5 := Lib.hid hbx5
    have HMID := Lib.hid hmid
    have HTH := Lib.hid hth
    clear hb2 hmid hth hbx5
    go_wp2_with (refine wpList_store_mid (by rfl) 43 (.tmp 7) (.tmp 22) (by rfl) w2.heap.size 0 CS.toArray (by rfl) (by rfl) (by rw [List.size_toArray]; exact HTH.out) (by rw [List.size_toArray]; exact HCELLS.out.info) HCELLS.out.one ?_)
    go_meet
    exact ⟨_, rfl, rfl, HMID.out, HBX5.out⟩
  case rest =>
  obtain ⟨b7, rfl, rfl, hmid, hb1c⟩ := hcut
  have HSA : Hid (SliceAt wc .i32 pa m.out) := by
    obtain ⟨pa', ca', e1, e2, e3, e4⟩ := HOA.out
    injection e1 with e1 _ e5
    subst e1 e5
    exact e4.below hb1c
  have HLN : Hid (m.out.length ≤ 9223372036854775807) := by
    obtain ⟨pa', ca', e1, e2, e3, e4⟩ := HOA.out
    exact e3
  clear hb1c HOA
  clear H5 HBX HBW cb cb1 cb2
  have cb := cell_of_row wc _ 0 _ _ _ hmid.box
  have cb1 := cell_of_row wc _ 1 _ _ _ hmid.box
  have cb2 := cell_of_row wc _ 2 _ _ _ hmid.box
  simp only [List.getElem?_toArray, List.getElem?_cons_zero, List.getElem?_cons_succ] at cb cb1 cb2
  have hl0 := hmid.lt.1
  have HMID := Lib.hid hmid
  clear hmid
  go_wp2_with fail
  refine (HC.out _).mono ?_
  rintro e w2 ⟨rfl, rfl⟩
  go_wp2_with fail
  refine (HMAY.out _).mono ?_
  rintro e w2 ⟨rfl, rfl⟩
  go_upto_region 10 with fail
  obtain ⟨wy, hwy⟩ : ∃ wy, wy = (wc.alloc (.cells #[.slice pc n kn, .slice pd d kd, .int .i64 mem] 34)).alloc (.cells #[.slice pc n kn, .slice pd d kd, .int .i64 mem] 34) := ⟨_, rfl⟩
  have hmid : RunsMid w wy #[.slice pc n kn, .slice pd d kd, .int .i64 mem] #[.int .i64 (endOf m), .int .i32 m.value, .slice pa m.out.length ca, .int .i64 m.steps] w1.heap.size b7 CS := by
    rw [hwy]
    exact HMID.out.go (((Below.refl _ _).alloc (Nat.le_refl _) _).alloc (by simp) _)
  have HSA2 : Hid (SliceAt wy .i32 pa m.out) := by
    rw [hwy]
    exact HSA.out.below (((Below.refl _ _).alloc (Nat.le_refl _) _).alloc (by simp) _)
  rw [← hwy]
  clear hwy HMID HSA cb cb1 cb2 hl0
  have cb := cell_of_row wy _ 0 _ _ _ hmid.box
  have cb1 := cell_of_row wy _ 1 _ _ _ hmid.box
  have cb2 := cell_of_row wy _ 2 _ _ _ hmid.box
  simp only [List.getElem?_toArray, List.getElem?_cons_zero, List.getElem?_cons_succ] at cb cb1 cb2
  have HMID := Lib.hid hmid
  clear hmid
  go_wp2_with fail
  refine (HR.out _ HMID.out.below).mono ?_
  rintro e w2 ⟨x, rfl, B, g, cv, iv, ov, hB, hb2, hX⟩
  have HMID2 := Lib.hid (HMID.out.go hb2)
  have HX := Lib.hid hX
  have HSA3 := Lib.hid (HSA2.out.below hb2)
  clear hb2 hX hB cb cb1 cb2 HMID HSA2
  go_wp2_with fail
  refine (rstop_any HX.out).mono ?_
  rintro e w3 ⟨rfl, hb3⟩
  obtain ⟨pb, cb', rfl⟩ := own_slice HX.out.outs
  have HMID3 := Lib.hid (HMID2.out.go hb3)
  have HX3 := Lib.hid (HX.out.below hb3)
  have HSA4 := Lib.hid (HSA3.out.below hb3)
  clear hb3 HMID2 HX HSA3 HA HB HR HC HMAY hf0 hf hn hd m1 m2
  go_upto_region 12 with fail
  obtain ⟨RS, hRS⟩ : ∃ RS, RS = m.R.map (Value.int .i32) := ⟨_, rfl⟩
  have hbuild : ∀ w, (Instr.build 43 #[(0, .agg RS.toArray), (1, .int .i64 m.pc)]).run Try.prog w = .ok (.agg CS.toArray) w := by
    intro w
    rw [HCELLS.out.eq, hRS]
    obtain ⟨r0, r1, r2, r3, r4, r5, r6, r7, r8, r9, r10, r11, r12, r13, r14, r15, e⟩ := list16 HCELLS.out.len
    rw [e]
    exact run_build w 43 _ _ (by kernel_rfl)
  have HBUILD := Lib.hid hbuild
  clear hbuild
  have hi16 : (Try.prog.info? 41).map (·.size) = some RS.length := by rw [hRS, List.length_map, HCELLS.out.len]; kernel_rfl
  have HST : Hid (∀ w', Below w3.heap.size w3 w' → Calls Try.prog 20 #[.agg #[.int .i64 (endOf m), .int .i32 m.value, .slice pa m.out.length ca, .int .i64 m.steps], .agg #[.int .i64 (endOf m), .int .i32 m.value, .slice pb m.out.length cb', .int .i64 m.steps]] w' fun en w'' => en = .returned (.bool true) ∧ Below w'.heap.size w' w'') := by
    intro w' hb'
    obtain ⟨pb', cb2', e1, e2, e3, e4⟩ := own_words HX3.out.outs
    injection e1 with e1 _ e5
    subst e1 e5
    exact lstops_yes _ _ _ pa pb m.out m.out.length ca cb' w' rfl (HSA4.out.below hb') (e4.below hb') HLN.out
  have HS0 : Hid (∀ w', Below (w3.alloc (.cells #[(.int .i64 (endOf m)), (.int .i32 m.value), (.slice pb m.out.length cb'), (.int .i64 m.steps)] 36)).heap.size (w3.alloc (.cells #[(.int .i64 (endOf m)), (.int .i32 m.value), (.slice pb m.out.length cb'), (.int .i64 m.steps)] 36)) w' → ((fun w' => w'.rangeAt b7 0 CS ∧ w'.rangeAt x 4 RS ∧ w'.cell? ⟨x, 20, none⟩ = some (.int .i64 m.pc) ∧ w'.cell? ⟨w1.heap.size, 0, none⟩ = some (.int .i64 (endOf m)) ∧ w'.cell? ⟨w1.heap.size, 1, none⟩ = some (.int .i32 m.value) ∧ w'.cell? ⟨w1.heap.size, 2, none⟩ = some (.slice pa m.out.length ca) ∧ w'.cell? ⟨w1.heap.size, 3, none⟩ = some (.int .i64 m.steps) ∧ w'.cell? ⟨w3.heap.size, 0, none⟩ = some (.int .i64 (endOf m)) ∧ w'.cell? ⟨w3.heap.size, 1, none⟩ = some (.int .i32 m.value) ∧ w'.cell? ⟨w3.heap.size, 2, none⟩ = some (.slice pb m.out.length cb') ∧ w'.cell? ⟨w3.heap.size, 3, none⟩ = some (.int .i64 m.steps)) w')) := by
    intro w' hb'
    have hm1 := (HMID3.out.go ((Below.refl _ _).alloc (Nat.le_refl _) _)).go hb'
    have hx1 := (HX3.out.below ((Below.refl _ _).alloc (Nat.le_refl _) _)).below hb'
    have hn := (hb'.block w3.heap.size (by simp)).trans (heap_alloc_new w3 _)
    obtain ⟨f0, f1, f2, f3, fz⟩ := blk4 hm1.five
    obtain ⟨g0, g1, g2, g3, gz⟩ := blk4 hn
    refine ⟨hm1.regs, ?_, hx1.tail.1, f0, f1, f2, f3, g0, g1, g2, g3⟩
    rw [hRS]
    intro j v hj
    rw [List.getElem?_map] at hj
    have hj16 : j < 16 := by
      rcases Nat.lt_or_ge j 16 with h | h
      · exact h
      · rw [List.getElem?_eq_none (by rw [hx1.regs]; exact h)] at hj
        simp at hj
    rw [hx1.reg j hj16, ← hj, Mc.reg, Int.toNat_natCast, List.getD_eq_getElem?_getD, List.getElem?_eq_getElem (by rw [hx1.regs]; exact hj16)]
    rfl
  have HRS := Lib.hid hRS
  clear hRS
  refine wp_region_held_drew (S := fun w' => w'.rangeAt b7 0 CS ∧ w'.rangeAt x 4 RS ∧ w'.cell? ⟨x, 20, none⟩ = some (.int .i64 m.pc) ∧ w'.cell? ⟨w1.heap.size, 0, none⟩ = some (.int .i64 (endOf m)) ∧ w'.cell? ⟨w1.heap.size, 1, none⟩ = some (.int .i32 m.value) ∧ w'.cell? ⟨w1.heap.size, 2, none⟩ = some (.slice pa m.out.length ca) ∧ w'.cell? ⟨w1.heap.size, 3, none⟩ = some (.int .i64 m.steps) ∧ w'.cell? ⟨w3.heap.size, 0, none⟩ = some (.int .i64 (endOf m)) ∧ w'.cell? ⟨w3.heap.size, 1, none⟩ = some (.int .i32 m.value) ∧ w'.cell? ⟨w3.heap.size, 2, none⟩ = some (.slice pb m.out.length cb') ∧ w'.cell? ⟨w3.heap.size, 3, none⟩ = some (.int .i64 m.steps)) mixed (HS0.out _ ((Below.refl _ _).drew)) (fun hHeld => ?_)
  refine' wpAnyH_take (i := 0) (v := (.int .i64 0)) rfl (by kernel_rfl) (by kernel_rfl) (by kernel_rfl) (fun _ _ _ h => h) (Or.inl ⟨by kernel_rfl, ?hy1⟩) (by assumption) ?rest1
  case hy1 => exact fun _ _ => by kernel_rfl
  simp only [Act.put, List.getElem_toArray, List.getElem_cons_zero, List.getElem_cons_succ, List.setIfInBounds_toArray, List.set_cons_zero, List.set_cons_succ]
  refine' wpAnyH_take (i := 1) (v := (.bool true)) rfl (by kernel_rfl) (by kernel_rfl) (by kernel_rfl) (fun _ _ _ h => h) (Or.inl ⟨by kernel_rfl, ?hy2⟩) (by assumption) ?rest2
  case hy2 => exact fun w h => ex_eql0 _ _ _ _ (by rfl) (by kernel_rfl) (by kernel_rfl) w
  simp only [Act.put, List.getElem_toArray, List.getElem_cons_zero, List.getElem_cons_succ, List.setIfInBounds_toArray, List.set_cons_zero, List.set_cons_succ]
  refine' wpAnyH_take (i := 2) (v := (.bool true)) rfl (by kernel_rfl) (by kernel_rfl) (by kernel_rfl) (fun _ _ _ h => h) (Or.inl ⟨by kernel_rfl, ?hy3⟩) (by assumption) ?rest3
  case hy3 => exact fun _ _ => by kernel_rfl
  simp only [Act.put, List.getElem_toArray, List.getElem_cons_zero, List.getElem_cons_succ, List.setIfInBounds_toArray, List.set_cons_zero, List.set_cons_succ]
  refine' wpAnyH_take (i := 3) (v := (.int .i64 0)) rfl (by kernel_rfl) (by kernel_rfl) (by kernel_rfl) (fun _ _ _ h => h) (Or.inl ⟨by kernel_rfl, ?hy4⟩) (by assumption) ?rest4
  case hy4 => exact fun _ _ => by kernel_rfl
  simp only [Act.put, List.getElem_toArray, List.getElem_cons_zero, List.getElem_cons_succ, List.setIfInBounds_toArray, List.set_cons_zero, List.set_cons_succ]
  refine' wpAnyH_take (i := 4) (v := (.bool true)) rfl (by kernel_rfl) (by kernel_rfl) (by kernel_rfl) (fun _ _ _ h => h) (Or.inl ⟨by kernel_rfl, ?hy5⟩) (by assumption) ?rest5
  case hy5 => exact fun w h => ex_eql0 _ _ _ _ (by rfl) (by kernel_rfl) (by kernel_rfl) w
  simp only [Act.put, List.getElem_toArray, List.getElem_cons_zero, List.getElem_cons_succ, List.setIfInBounds_toArray, List.set_cons_zero, List.set_cons_succ]
  refine' wpAnyH_take (i := 5) (v := (.bool true)) rfl (by kernel_rfl) (by kernel_rfl) (by kernel_rfl) (fun _ _ _ h => h) (Or.inl ⟨by kernel_rfl, ?hy6⟩) (by assumption) ?rest6
  case hy6 => exact fun _ _ => by kernel_rfl
  simp only [Act.put, List.getElem_toArray, List.getElem_cons_zero, List.getElem_cons_succ, List.setIfInBounds_toArray, List.set_cons_zero, List.set_cons_succ]
  refine' wpAnyH_take (i := 6) (v := (.bool true)) rfl (by kernel_rfl) (by kernel_rfl) (by kernel_rfl) (fun _ _ _ h => h) (Or.inl ⟨by kernel_rfl, ?hy7⟩) (by assumption) ?rest7
  case hy7 => exact fun _ _ => by kernel_rfl
  simp only [Act.put, List.getElem_toArray, List.getElem_cons_zero, List.getElem_cons_succ, List.setIfInBounds_toArray, List.set_cons_zero, List.set_cons_succ]
  refine' wpAnyH_take (i := 7) (v := (.agg #[.int .i64 (endOf m), .int .i32 m.value, .slice pa m.out.length ca, .int .i64 m.steps])) rfl (by kernel_rfl) (by kernel_rfl) (by kernel_rfl) (fun _ _ _ h => h) (Or.inl ⟨by kernel_rfl, ?hy8⟩) (by assumption) ?rest8
  case hy8 => exact fun w h => ex_load4 _ _ _ (by rfl) (by kernel_rfl) h.2.2.2.1 h.2.2.2.2.1 h.2.2.2.2.2.1 h.2.2.2.2.2.2.1
  simp only [Act.put, List.getElem_toArray, List.getElem_cons_zero, List.getElem_cons_succ, List.setIfInBounds_toArray, List.set_cons_zero, List.set_cons_succ]
  refine' wpAnyH_take (i := 8) (v := (.agg #[.int .i64 (endOf m), .int .i32 m.value, .slice pb m.out.length cb', .int .i64 m.steps])) rfl (by kernel_rfl) (by kernel_rfl) (by kernel_rfl) (fun _ _ _ h => h) (Or.inl ⟨by kernel_rfl, ?hy9⟩) (by assumption) ?rest9
  case hy9 => exact fun w h => ex_load4 _ _ _ (by rfl) (by kernel_rfl) h.2.2.2.2.2.2.2.1 h.2.2.2.2.2.2.2.2.1 h.2.2.2.2.2.2.2.2.2.1 h.2.2.2.2.2.2.2.2.2.2
  simp only [Act.put, List.getElem_toArray, List.getElem_cons_zero, List.getElem_cons_succ, List.setIfInBounds_toArray, List.set_cons_zero, List.set_cons_succ]
  refine wpAnyH_ready (rs := [9]) (by kernel_rfl) (by simp) ?_
  refine AllReadyH.cons rfl (fun KA hKA => ?_) AllReadyH.nil
  go_simp
  refine (HST.out _ (((Below.refl _ _).alloc (Nat.le_refl _) _).drew)).mono ?_
  rintro en w4 ⟨rfl, hb4⟩
  go_simp
  refine hKA.out _ _ (HS0.out _ ((Below.refl _ _).drew.trans hb4)) (fun hHeld2 => ?_)
  clear hKA KA hHeld
  have HMID4 := Lib.hid ((HMID3.out.go ((Below.refl _ _).alloc (Nat.le_refl _) _)).go ((Below.refl _ _).drew.trans hb4))
  clear hb4
  refine' wpAnyH_take (i := 10) (v := (.bool true)) rfl (by kernel_rfl) (by kernel_rfl) (by kernel_rfl) (fun _ _ _ h => h) (Or.inl ⟨by kernel_rfl, ?hy10⟩) (by assumption) ?rest10
  case hy10 => exact fun _ _ => by kernel_rfl
  simp only [Act.put, List.getElem_toArray, List.getElem_cons_zero, List.getElem_cons_succ, List.setIfInBounds_toArray, List.set_cons_zero, List.set_cons_succ]
  refine' wpAnyH_take (i := 11) (v := (.bool true)) rfl (by kernel_rfl) (by kernel_rfl) (by kernel_rfl) (fun _ _ _ h => h) (Or.inl ⟨by kernel_rfl, ?hy11⟩) (by assumption) ?rest11
  case hy11 => exact fun _ _ => by kernel_rfl
  simp only [Act.put, List.getElem_toArray, List.getElem_cons_zero, List.getElem_cons_succ, List.setIfInBounds_toArray, List.set_cons_zero, List.set_cons_succ]
  refine' wpAnyH_take (i := 12) (v := .agg CS.toArray) rfl (by kernel_rfl) (by kernel_rfl) (by kernel_rfl) (fun _ _ _ h => h) (yieldsIf_load_mid (by kernel_rfl) 43 (.tmp 7) (by kernel_rfl) b7 0 (by kernel_rfl) CS _ (fun w h => h.1) Try.underlying43 (by kernel_rfl) HCELLS.out.info) (by assumption) ?rest112
  simp only [Act.put, List.getElem_toArray, List.getElem_cons_zero, List.getElem_cons_succ, List.setIfInBounds_toArray, List.set_cons_zero, List.set_cons_succ]
  refine' wpAnyH_take (i := 13) (v := (.pointer (some ⟨x, 0, none⟩))) rfl (by kernel_rfl) (by kernel_rfl) (by kernel_rfl) (fun _ _ _ h => h) (Or.inl ⟨by kernel_rfl, ?hy12⟩) (by assumption) ?rest12
  case hy12 => exact fun _ _ => by kernel_rfl
  simp only [Act.put, List.getElem_toArray, List.getElem_cons_zero, List.getElem_cons_succ, List.setIfInBounds_toArray, List.set_cons_zero, List.set_cons_succ]
  refine' wpAnyH_take (i := 14) (v := (.pointer (some ⟨x, 0, none⟩))) rfl (by kernel_rfl) (by kernel_rfl) (by kernel_rfl) (fun _ _ _ h => h) (Or.inl ⟨by kernel_rfl, ?hy13⟩) (by assumption) ?rest13
  case hy13 => exact fun w h => ex_nil _ _ _ (by rfl) (by kernel_rfl) w
  simp only [Act.put, List.getElem_toArray, List.getElem_cons_zero, List.getElem_cons_succ, List.setIfInBounds_toArray, List.set_cons_zero, List.set_cons_succ]
  refine' wpAnyH_take (i := 15) (v := (.pointer (some ⟨x, 4, none⟩))) rfl (by kernel_rfl) (by kernel_rfl) (by kernel_rfl) (fun _ _ _ h => h) (Or.inl ⟨by kernel_rfl, ?hy14⟩) (by assumption) ?rest14
  case hy14 => exact fun w h => ex_fa4 _ _ _ (by rfl) (by kernel_rfl) w
  simp only [Act.put, List.getElem_toArray, List.getElem_cons_zero, List.getElem_cons_succ, List.setIfInBounds_toArray, List.set_cons_zero, List.set_cons_succ]
  refine' wpAnyH_take (i := 16) (v := .agg RS.toArray) rfl (by kernel_rfl) (by kernel_rfl) (by kernel_rfl) (fun _ _ _ h => h) (yieldsIf_load_mid (by kernel_rfl) 41 (.tmp 93) (by kernel_rfl) x 4 (by kernel_rfl) RS _ (fun w h => h.2.1) Try.underlying41 (by kernel_rfl) hi16) (by assumption) ?rest116
  simp only [Act.put, List.getElem_toArray, List.getElem_cons_zero, List.getElem_cons_succ, List.setIfInBounds_toArray, List.set_cons_zero, List.set_cons_succ]
  refine' wpAnyH_take (i := 17) (v := (.pointer (some ⟨x, 0, none⟩))) rfl (by kernel_rfl) (by kernel_rfl) (by kernel_rfl) (fun _ _ _ h => h) (Or.inl ⟨by kernel_rfl, ?hy15⟩) (by assumption) ?rest15
  case hy15 => exact fun _ _ => by kernel_rfl
  simp only [Act.put, List.getElem_toArray, List.getElem_cons_zero, List.getElem_cons_succ, List.setIfInBounds_toArray, List.set_cons_zero, List.set_cons_succ]
  refine' wpAnyH_take (i := 18) (v := (.pointer (some ⟨x, 0, none⟩))) rfl (by kernel_rfl) (by kernel_rfl) (by kernel_rfl) (fun _ _ _ h => h) (Or.inl ⟨by kernel_rfl, ?hy16⟩) (by assumption) ?rest16
  case hy16 => exact fun w h => ex_nil _ _ _ (by rfl) (by kernel_rfl) w
  simp only [Act.put, List.getElem_toArray, List.getElem_cons_zero, List.getElem_cons_succ, List.setIfInBounds_toArray, List.set_cons_zero, List.set_cons_succ]
  refine' wpAnyH_take (i := 19) (v := (.pointer (some ⟨x, 20, none⟩))) rfl (by kernel_rfl) (by kernel_rfl) (by kernel_rfl) (fun _ _ _ h => h) (Or.inl ⟨by kernel_rfl, ?hy17⟩) (by assumption) ?rest17
  case hy17 => exact fun w h => ex_fa5 _ _ _ (by rfl) (by kernel_rfl) w
  simp only [Act.put, List.getElem_toArray, List.getElem_cons_zero, List.getElem_cons_succ, List.setIfInBounds_toArray, List.set_cons_zero, List.set_cons_succ]
  refine' wpAnyH_take (i := 20) (v := (.int .i64 m.pc)) rfl (by kernel_rfl) (by kernel_rfl) (by kernel_rfl) (fun _ _ _ h => h) (Or.inl ⟨by kernel_rfl, ?hy18⟩) (by assumption) ?rest18
  case hy18 => exact fun w h => ex_load1 _ _ _ (by rfl) (by kernel_rfl) h.2.2.1
  simp only [Act.put, List.getElem_toArray, List.getElem_cons_zero, List.getElem_cons_succ, List.setIfInBounds_toArray, List.set_cons_zero, List.set_cons_succ]
  refine' wpAnyH_take (i := 21) (v := (.agg CS.toArray)) rfl (by kernel_rfl) (by kernel_rfl) (by kernel_rfl) (fun _ _ _ h => h) (Or.inl ⟨by kernel_rfl, ?hy19⟩) (by assumption) ?rest19
  case hy19 => exact fun w h => ex_buildR _ _ _ _ (by rfl) (by kernel_rfl) (by kernel_rfl) (HBUILD.out w)
  simp only [Act.put, List.getElem_toArray, List.getElem_cons_zero, List.getElem_cons_succ, List.setIfInBounds_toArray, List.set_cons_zero, List.set_cons_succ]
  refine' wpAnyH_take (i := 22) (v := (.bool true)) rfl (by kernel_rfl) (by kernel_rfl) (by kernel_rfl) (fun _ _ _ h => h) (Or.inl ⟨by kernel_rfl, ?hy20⟩) (by assumption) ?rest20
  case hy20 => exact fun w h => ex_eqlR _ _ _ _ (by rfl) (by kernel_rfl) (by kernel_rfl) (HCELLS.out.eql w)
  simp only [Act.put, List.getElem_toArray, List.getElem_cons_zero, List.getElem_cons_succ, List.setIfInBounds_toArray, List.set_cons_zero, List.set_cons_succ]
  refine' wpAnyH_take (i := 23) (v := (.bool true)) rfl (by kernel_rfl) (by kernel_rfl) (by kernel_rfl) (fun _ _ _ h => h) (Or.inl ⟨by kernel_rfl, ?hy21⟩) (by assumption) ?rest21
  case hy21 => exact fun _ _ => by kernel_rfl
  simp only [Act.put, List.getElem_toArray, List.getElem_cons_zero, List.getElem_cons_succ, List.setIfInBounds_toArray, List.set_cons_zero, List.set_cons_succ]
  refine' wpAnyH_take (i := 24) (v := (.bool true)) rfl (by kernel_rfl) (by kernel_rfl) (by kernel_rfl) (fun _ _ _ h => h) (Or.inl ⟨by kernel_rfl, ?hy22⟩) (by assumption) ?rest22
  case hy22 => exact fun _ _ => by kernel_rfl
  simp only [Act.put, List.getElem_toArray, List.getElem_cons_zero, List.getElem_cons_succ, List.setIfInBounds_toArray, List.set_cons_zero, List.set_cons_succ]
  refine wpAnyH_done (by kernel_rfl) ?_ _
  go_wp2_with fail
  go_ret
  exact ⟨rfl, HMID4.out.below⟩
end

end Go.Proofs.Ythnehhidlaggeaa
