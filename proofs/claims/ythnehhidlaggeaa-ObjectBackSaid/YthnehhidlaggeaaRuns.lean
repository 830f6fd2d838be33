/- machine.runs: what it does, with its deferred closure. -/
import Derived.Test.YthnehhidlaggeaaDoes
import Derived.Test.YthnehhidlaggeaaRec
import Derived.Test.YthnehhidlaggeaaMachStep
import Derived.Test.YthnehhidlaggeaaDec2
import Derived.Deep.LoopGhost
import Derived.Deep.DeepCutAuto
import Derived.BigQuiet
namespace Go.Proofs.Ythnehhidlaggeaa
set_option linter.unusedVariables false
set_option linter.unusedSimpArgs false
open Go.RowKit Mc

/-- every block that isn't the machine's -/
def Others (x g : Nat) (w : World) (ob : Option Nat) (k : Nat) : Prop := k ≠ x ∧ k ≠ g ∧ ob ≠ some k ∧ k < w.heap.size
section
variable {W w w' : World} {B x g : Nat} {n low : Int} {ov : Value} {m m' : Mach} {Fr : Nat → Prop}
theorem MachAt.others (h : MachAt w B x g n low 0 ov m) : AtW w B (Others x g w ov.ownBlock) x g n low 0 m w :=
  ⟨ov, h, ⟨rfl, rfl, rfl, Nat.le_refl _, fun _ _ => rfl, ⟨fun h => h.1 rfl, fun h => h.2.1 rfl⟩, fun k hk h => h.2.2.1 hk, fun k h => h.2.2.2⟩⟩
/-- what was kept beside the machine, is kept -/
theorem AtW.widen (h2 : Kept Fr x g W w ov.ownBlock) (h : AtW w B (Others x g w ov.ownBlock) x g n low 0 m' w') : AtW W B Fr x g n low 0 m' w' := by
  obtain ⟨ov', h3, h4⟩ := h
  have ho : ∀ k, Fr k → Others x g w ov.ownBlock k := fun k hk => ⟨fun e => h2.free.1 (e ▸ hk), fun e => h2.free.2 (e ▸ hk), fun e => h2.row k e hk, Nat.lt_of_lt_of_le (h2.old k hk) h2.size⟩
  exact ⟨ov', h3, ⟨h4.os.trans h2.os, h4.tape.trans h2.tape, h4.output.trans h2.output, Nat.le_trans h2.size h4.size, fun k hk => (h4.block k (ho k hk)).trans (h2.block k hk), h2.free, fun k hk hf => h4.row k hk (ho k hf), h2.old⟩⟩
theorem AtW.other (h : AtW w B (Others x g w ov.ownBlock) x g n low 0 m' w') {k : Nat} (hk : Others x g w ov.ownBlock k) : w'.heap[k]? = w.heap[k]? := by
  obtain ⟨ov', h3, h4⟩ := h
  exact h4.block k hk
theorem MachAt.box_other (h : MachAt w B x g n low 0 ov m) {b : Nat} {c : Array Value} {t : TypeId} (hb : w.heap[b]? = some (.cells c t (0, 0))) (h1 : t ≠ 99) (h2 : t ≠ 21) : Others x g w ov.ownBlock b := by
  refine ⟨?_, ?_, fun e => own_ne h.outs hb (Ne.symm h2) e.symm, lt_of_block hb⟩
  · rintro rfl
    have := h.mach.symm.trans hb
    injection this with h3
    injection h3 with _ h4
    exact h1 h4.symm
  · rintro rfl
    have := h.mem.symm.trans hb
    injection this with h3
    injection h3 with _ h4
    exact h2 h4.symm
end

/-- where a function hands nothing back, the way out asks nothing of the slots -/
theorem leaves_slots {P : Program} {fn : Func} {t t' : Array Value} {R : Ending → World → Prop} (h : results fn t = results fn t') : ∀ (ds : List Deferred) (u : FrameMode) (w : World), Leaves P fn t R ds u w → Leaves P fn t' R ds u w
  | [], .returning, w, hl => by
      obtain ⟨v, h1, h2⟩ := hl
      exact ⟨v, by rw [← h]; exact h1, h2⟩
  | [], .panicking chain, w, hl => hl
  | [], .run, _, hl => hl
  | d :: ds, u, w, hl => by
      obtain ⟨hu, fv, cap, f, args, h1, h2, h3⟩ := hl
      refine ⟨hu, fv, cap, f, args, h1, h2, h3.mono ?_⟩
      intro e u' w' he
      cases e with
      | returned v => exact leaves_slots h ds _ _ he
      | panicked c => exact leaves_slots h ds _ _ he
      | outgrown => exact he
theorem runs_slots {R : Ending → World → Prop} (chain : List PanicEntry) (a : Act) (d : Option Tmp) (v : Value) (w : World)
    (h : bodyPostD Try.prog Try.f73 R (.panic chain) (a.put d v) w) : bodyPostD Try.prog Try.f73 R (.panic chain) a w := by
  have e : (a.put d v).defers = a.defers := by cases d <;> rfl
  simp only [bodyPostD] at h ⊢
  rw [e] at h
  exact leaves_slots (by simp [results, Try.results73]) _ _ _ h

/-- the head of a round -/
structure RunAt (W : World) (B : Nat) (Fr : Nat → Prop) (x g : Nat) (n low : Int) (bx fuel : Nat) (m0 : Mach) (gk : Nat) (mm : Mach) (wr : World) : Prop where
  at_ : AtW W B Fr x g n low 0 mm wr
  box : wr.heap[bx]? = some (.cells #[.pointer (some ⟨x, 0, none⟩)] 95 (0, 0))
  ok : Ok mm
  fin : mm.fin < 0
  left : gk + mm.steps = fuel
  out : mm.out.length ≤ mm.steps
  len : n ≤ mm.words.length
  goes : run n low gk mm = run n low fuel m0

theorem run_stop {n low : Int} {m : Mach} (h : 0 ≤ m.fin) (k : Nat) : run n low k m = m := by
  cases k with
  | zero => rfl
  | succ k => unfold run; rw [if_neg (by omega)]
theorem run_step {n low : Int} {m : Mach} (h : m.fin < 0) (k : Nat) : run n low (k + 1) m = run n low k (Mc.step n low m) := by
  rw [run, if_pos (by omega)]

/-- a step behind the word -/
def goOn (n low : Int) (m : Mach) : Option (Int × Int × Int × Int × Int) → Mach
  | none => { m with steps := m.steps + 1, fin := 4 }
  | some (op, a, b, c, i) => act n low { m with steps := m.steps + 1 } op a b c i
theorem step_goOn {n low : Int} {m : Mach} (h1 : 0 ≤ m.pc) (h2 : m.pc < n) : Mc.step n low m = goOn n low m (Cp.dec (Wd.free (word m m.pc))) := by
  unfold Mc.step
  rw [if_neg (by omega)]
  rcases Cp.dec (Wd.free (word m m.pc)) with _ | ⟨op, a, b, c, i⟩ <;> rfl

/-- what is thrown goes through the door -/
theorem runs_door {W wz : World} {B : Nat} {Fr : Nat → Prop} {x g bx : Nat} {n low : Int} {mm : Mach} (k : Int) (hat : AtW W B Fr x g n low 0 mm wz) (hb : wz.heap[bx]? = some (.cells #[.pointer (some ⟨x, 0, none⟩)] 95 (0, 0))) (tmps : Array Value)
    {R : Ending → World → Prop} (hR : ∀ w', AtW W B Fr x g n low k mm w' → R (.returned (.tuple #[])) w') :
    bodyPostD Try.prog Try.f73 R (.panic [{ v := .iface 177 (.agg #[.int .i64 k]), recovered := false }]) { tmps := tmps, defers := [{ target := .fn (.func 96) #[.pointer (some ⟨bx, 0, none⟩)], args := #[] }] } wz := by
  obtain ⟨ov, hM, hK⟩ := hat
  refine leaves_cons (f := 96) (args := #[.pointer (some ⟨bx, 0, none⟩)]) (by simp) (by simp [go_sem]) ?_
  refine (rec_thrown bx x k (.int .i64 0) [] wz (cell_of_row wz _ 0 _ _ _ hb) hM.tail.2.1 hM.free).mono ?_
  rintro e u' w'' ⟨rfl, rfl, rfl⟩
  simp [Leaves, settle, results, Try.results73, go_sem]
  have h2 : AtW W B Fr x g n low k mm (wz.setCell ⟨x, 17, none⟩ (.int .i64 k)) := ⟨ov, hM.setEnd k, hK.set hK.free.1 _ _⟩
  obtain ⟨ov2, h3, h4⟩ := h2
  exact hR _ ⟨ov2, h3.below ((Below.refl _ _).alloc (Nat.le_refl _) _), h4.below ((Below.refl _ _).alloc (Nat.le_refl _) _)⟩

/-- how it ended -/
def endOf (m : Mach) : Int := if m.fin < 0 then 0 else m.fin

set_option maxRecDepth 100000 in
set_option maxHeartbeats 8000000 in
theorem runs_any {W w : World} {B : Nat} {Fr : Nat → Prop} {x g : Nat} {n low : Int} {m : Mach} (h : AtW W B Fr x g n low 0 m w) (ok : Ok m) (hn : 0 ≤ n) (hn2 : n ≤ 6000) (hn3 : n ≤ m.words.length) (hfin : m.fin < 0) (fuel : Nat) (hf : fuel ≤ 1000000) (hs : m.steps = 0) (ho : m.out.length = 0) :
    Calls Try.prog 73 #[.pointer (some ⟨x, 0, none⟩), .int .i64 fuel] w fun e w' => e = .returned (.tuple #[]) ∧ AtW W B Fr x g n low (endOf (run n low fuel m)) (run n low fuel m) w' := by
  have hmf : ∀ (fn : Fn) (first cap : Array Value) (w : World), (Instr.makeFunc fn first cap).run Try.prog w = .ok (.func fn first cap) w := fun _ _ _ _ => rfl
  have H0 : Hid (RunAt W B Fr x g n low w.heap.size fuel m fuel m (w.alloc (.cells #[.pointer (some ⟨x, 0, none⟩)] 95))) :=
    ⟨h.alloc _, heap_alloc_new w _, ok, hfin, by omega, by omega, hn3, rfl⟩
  clear h ok hfin hs ho hn3
  go_enter_defers Try.func73, Try.ntmps73
  go_wp2_with fail
  go_loopg [] fuel (fun gk wr => ∃ mm, RunAt W B Fr x g n low w.heap.size fuel m gk mm wr)
  case atStart => exact ⟨m, H0.out⟩
  case round =>
    clear H0
    obtain ⟨mm, hR⟩ := hrel
    obtain ⟨ov, hM, hK⟩ := hR.at_
    have t := hM.tail
    obtain ⟨t16, t17, t18, t19, t20, t21, t22, t23⟩ := t
    have tz := hM.free
    have bxo := hM.box_other hR.box (by decide) (by decide)
    have bc : wr.cell? ⟨w.heap.size, 0, none⟩ = some (.pointer (some ⟨x, 0, none⟩)) := (cell_of_row wr _ 0 _ _ _ hR.box)
    have bne : ¬ w.heap.size = x := bxo.1
    have bne2 : ¬ x = w.heap.size := fun e => bxo.1 e.symm
    have hleft := hR.left
    have HR := Lib.hid hR
    have HM := Lib.hid hM
    have HK := Lib.hid hK
    have BO := Lib.hid bxo
    clear hR hM hK bxo
    by_cases hlt : (mm.steps : Int) < fuel
    · obtain ⟨k, rfl⟩ : ∃ k, gk = k + 1 := ⟨gk - 1, by omega⟩
      have s1 : ((mm.steps : Int) + 1 ≤ 1000000) := by omega
      have HAT : Hid (∀ nq, AtW W B Fr x g n low 0 { mm with steps := mm.steps + 1 } ((wr.setCell ⟨x, 20, none⟩ (.int .i64 ((mm.steps : Int) + 1))).drewN nq)) := fun nq =>
        ⟨ov, (HM.out.setSteps (mm.steps + 1)).drewN nq, (HK.out.set HK.out.free.1 20 _).below (below_drewN (Below.refl _ _) nq)⟩
      have HBX : Hid (∀ nq, ((wr.setCell ⟨x, 20, none⟩ (.int .i64 ((mm.steps : Int) + 1))).drewN nq).heap[w.heap.size]? = some (.cells #[.pointer (some ⟨x, 0, none⟩)] 95 (0, 0))) := fun nq =>
        (((below_drewN (Below.refl _ (wr.setCell ⟨x, 20, none⟩ (.int .i64 ((mm.steps : Int) + 1)))) nq).block _ (by have := BO.out.2.2.2; simpa [World.setCell] using this)).trans (Below.heap_setCell wr _ _ _ bne)).trans HR.out.box
      have HW : Hid (mm.pc < 0 ∨ n ≤ mm.pc → run n low fuel m = { mm with steps := mm.steps + 1, fin := 4 }) := by
        intro hw
        rw [← HR.out.goes, run_step HR.out.fin, show Mc.step n low mm = { mm with steps := mm.steps + 1, fin := 4 } from by unfold Mc.step; rw [if_pos hw]]
        exact run_stop (by show (0 : Int) ≤ 4; omega) k
      by_cases hp0 : mm.pc < 0
      · go_wp2_with fail
        go_quiet (fail)
        go_wp2_with fail
        refine runs_door 4 (HAT.out _) (HBX.out _) _ ?_
        intro w2 h2
        rw [HW.out (.inl hp0)]
        exact ⟨rfl, h2.fin 4⟩
      · have hp0' : 0 ≤ mm.pc := by omega
        by_cases hpn : n ≤ mm.pc
        · go_wp2_with fail
          go_quiet (fail)
          go_wp2_with fail
          refine runs_door 4 (HAT.out _) (HBX.out _) _ ?_
          intro w2 h2
          rw [HW.out (.inr hpn)]
          exact ⟨rfl, h2.fin 4⟩
        · have hpn' : mm.pc < n := by omega
          have e0 : decide (mm.pc < 0) = false := decide_eq_false hp0
          have e1 : decide (n ≤ mm.pc) = false := decide_eq_false hpn
          have hp := Lib.hid hp0'
          have hpq := Lib.hid hpn'
          clear hp0 hp0' hpn hpn'
          go_wp2_with fail
          go_quiet (fail)
          go_upto_region 6 with fail
          -- the world as a variable
          obtain ⟨w1, hw1⟩ : ∃ w1, w1 = (wr.setCell ⟨x, 20, none⟩ (.int .i64 ((mm.steps : Int) + 1))).drewN nq := ⟨_, rfl⟩
          clear HAT HBX HW
          have hM1 : MachAt w1 B x g n low 0 ov { mm with steps := mm.steps + 1 } := by
            rw [hw1]
            exact (HM.out.setSteps (mm.steps + 1)).drewN nq
          have hK1 : Kept Fr x g W w1 ov.ownBlock := by
            rw [hw1]
            exact (HK.out.set HK.out.free.1 20 _).below (below_drewN (Below.refl _ _) nq)
          have hb1 : w1.heap[w.heap.size]? = some (.cells #[.pointer (some ⟨x, 0, none⟩)] 95 (0, 0)) := by
            rw [hw1]
            exact (((below_drewN (Below.refl _ (wr.setCell ⟨x, 20, none⟩ (.int .i64 ((mm.steps : Int) + 1)))) nq).block _ (by have := BO.out.2.2.2; simpa [World.setCell] using this)).trans (Below.heap_setCell wr _ _ _ bne)).trans HR.out.box
          rw [← hw1]
          clear hw1 t16 t17 t18 t19 t20 t21 t22 t23 tz bc
          clear e0 e1
          have hp0' := hp.out
          have hpn' := hpq.out
          clear hp hpq
          obtain ⟨q, hq⟩ : ∃ q : Nat, (q : Int) = mm.pc := ⟨mm.pc.toNat, by omega⟩
          have hlen := HR.out.len
          have hql : q < mm.words.length := by omega
          have hwd : word mm mm.pc = word mm q := by rw [hq]
          have hwb := HR.out.ok.word_in q
          have eu : IntKind.u32.wrap (word mm q) = Wd.free (word mm q) := Wd.wrap_u32 _ hwb.1 hwb.2
          have fb := Wd.free_bd _ hwb.1 hwb.2
          have FACTS : Hid (∀ w', Below w1.heap.size w1 w' → w'.cell? ⟨w.heap.size, 0, none⟩ = some (.pointer (some ⟨x, 0, none⟩)) ∧ w'.cell? ⟨x, 16, none⟩ = some (.int .i64 q) ∧
              w'.cell? ⟨x, 23, none⟩ = some (.slice (some ⟨g, 0, none⟩) mm.words.length mm.words.length) ∧ w'.cell? ⟨g, q, none⟩ = some (.int .i32 (word mm q))) := by
            intro w' hw'
            have h1 := hM1.below hw'
            refine ⟨cell_of_row w' _ 0 _ _ _ ((hw'.block _ (lt_of_block hb1)).trans hb1), ?_, h1.tail.2.2.2.2.2.2.2, h1.word q hql⟩
            rw [h1.tail.1, hq]
          obtain ⟨D, hD⟩ : ∃ D, D = Cp.dec (Wd.free (word mm q)) := ⟨_, rfl⟩
          have HDEC : Hid (∀ w', Calls Try.prog 11 #[.int .u32 (Wd.free (word mm q))] w' fun e w'' => e = .returned (.tuple #[Cp.decV D, .bool D.isSome]) ∧ Below w'.heap.size w' w'') := by
            intro w'
            rw [hD]
            exact decode_any _ w' fb.1 fb.2
          obtain ⟨d0, d1, d2, d3, d4, hd⟩ : ∃ d0 d1 d2 d3 d4, Cp.decV D = .agg #[.int .i64 d0, .int .i64 d1, .int .i64 d2, .int .i64 d3, .int .i64 d4] := by
            rcases D with _ | ⟨d0, d1, d2, d3, d4⟩
            · exact ⟨0, 0, 0, 0, 0, rfl⟩
            · exact ⟨d0, d1, d2, d3, d4, rfl⟩
          rw [hd] at HDEC
          have HM1 := Lib.hid hM1
          have HK1 := Lib.hid hK1
          have HB1 := Lib.hid hb1
          have HD := Lib.hid hD
          have HP : Hid (0 ≤ mm.pc ∧ mm.pc < n) := ⟨hp0', hpn'⟩
          have HDV := Lib.hid hd
          have HQ := Lib.hid hq
          clear hM1 hK1 hb1 hD hd hq hwd hwb hp0' hpn'
          go_cut [4, 5] from 7 to 69 (fun v4 v5 wx => ∃ ib, v4 = .pointer (some ⟨ib, 0, none⟩) ∧ v5 = .bool D.isSome ∧ Below w1.heap.size w1 wx ∧ wx.heap[ib]? = some (.cells #[.int .i64 d0, .int .i64 d1, .int .i64 d2, .int .i64 d3, .int .i64 d4] 24 (0, 0)))
          case first =>
            refine wp_region_held_drew (S := fun w' => Below w1.heap.size w1 w') mixed (Below.refl _ _).drew (fun hHeld => ?_)
            refine' wpAnyH_take (i := 0) (v := ?v1) rfl (by kernel_rfl) (by kernel_rfl) (by kernel_rfl) (fun _ _ _ h => runs_slots _ _ _ _ _ h) (Or.inl ⟨by rfl, ?hy1⟩) (by assumption) ?rest1
            case hy1 => (intro w hSw; obtain ⟨f1, f2, f3, f4⟩ := FACTS.out w hSw; clear hSw; (try dsimp only); go_simp; try with_reducible rfl)
            try simp only [Act.put, List.setIfInBounds_toArray, List.set_cons_zero, List.set_cons_succ]
            refine' wpAnyH_take (i := 1) (v := ?v2) rfl (by kernel_rfl) (by kernel_rfl) (by kernel_rfl) (fun _ _ _ h => runs_slots _ _ _ _ _ h) (Or.inl ⟨by rfl, ?hy2⟩) (by assumption) ?rest2
            case hy2 => (intro w hSw; obtain ⟨f1, f2, f3, f4⟩ := FACTS.out w hSw; clear hSw; (try dsimp only); go_simp; try with_reducible rfl)
            try simp only [Act.put, List.setIfInBounds_toArray, List.set_cons_zero, List.set_cons_succ]
            refine' wpAnyH_take (i := 2) (v := ?v3) rfl (by kernel_rfl) (by kernel_rfl) (by kernel_rfl) (fun _ _ _ h => runs_slots _ _ _ _ _ h) (Or.inl ⟨by rfl, ?hy3⟩) (by assumption) ?rest3
            case hy3 => (intro w hSw; obtain ⟨f1, f2, f3, f4⟩ := FACTS.out w hSw; clear hSw; (try dsimp only); go_simp; try with_reducible rfl)
            try simp only [Act.put, List.setIfInBounds_toArray, List.set_cons_zero, List.set_cons_succ]
            refine' wpAnyH_take (i := 3) (v := ?v4) rfl (by kernel_rfl) (by kernel_rfl) (by kernel_rfl) (fun _ _ _ h => runs_slots _ _ _ _ _ h) (Or.inl ⟨by rfl, ?hy4⟩) (by assumption) ?rest4
            case hy4 => (intro w hSw; obtain ⟨f1, f2, f3, f4⟩ := FACTS.out w hSw; clear hSw; (try dsimp only); go_simp; try with_reducible rfl)
            try simp only [Act.put, List.setIfInBounds_toArray, List.set_cons_zero, List.set_cons_succ]
            refine' wpAnyH_take (i := 4) (v := ?v5) rfl (by kernel_rfl) (by kernel_rfl) (by kernel_rfl) (fun _ _ _ h => runs_slots _ _ _ _ _ h) (Or.inl ⟨by rfl, ?hy5⟩) (by assumption) ?rest5
            case hy5 => (intro w hSw; obtain ⟨f1, f2, f3, f4⟩ := FACTS.out w hSw; clear hSw; (try dsimp only); go_simp; try with_reducible rfl)
            try simp only [Act.put, List.setIfInBounds_toArray, List.set_cons_zero, List.set_cons_succ]
            refine' wpAnyH_take (i := 5) (v := ?v6) rfl (by kernel_rfl) (by kernel_rfl) (by kernel_rfl) (fun _ _ _ h => runs_slots _ _ _ _ _ h) (Or.inl ⟨by rfl, ?hy6⟩) (by assumption) ?rest6
            case hy6 => (intro w hSw; obtain ⟨f1, f2, f3, f4⟩ := FACTS.out w hSw; clear hSw; (try dsimp only); go_simp; try with_reducible rfl)
            try simp only [Act.put, List.setIfInBounds_toArray, List.set_cons_zero, List.set_cons_succ]
            refine' wpAnyH_take (i := 6) (v := ?v7) rfl (by kernel_rfl) (by kernel_rfl) (by kernel_rfl) (fun _ _ _ h => runs_slots _ _ _ _ _ h) (Or.inl ⟨by rfl, ?hy7⟩) (by assumption) ?rest7
            case hy7 => (intro w hSw; obtain ⟨f1, f2, f3, f4⟩ := FACTS.out w hSw; clear hSw; (try dsimp only); go_simp; try with_reducible rfl)
            try simp only [Act.put, List.setIfInBounds_toArray, List.set_cons_zero, List.set_cons_succ]
            refine' wpAnyH_take (i := 7) (v := ?v8) rfl (by kernel_rfl) (by kernel_rfl) (by kernel_rfl) (fun _ _ _ h => runs_slots _ _ _ _ _ h) (Or.inl ⟨by rfl, ?hy8⟩) (by assumption) ?rest8
            case hy8 => (intro w hSw; obtain ⟨f1, f2, f3, f4⟩ := FACTS.out w hSw; clear hSw; (try dsimp only); go_simp; try with_reducible rfl)
            try simp only [Act.put, List.setIfInBounds_toArray, List.set_cons_zero, List.set_cons_succ]
            refine' wpAnyH_take (i := 8) (v := ?v9) rfl (by kernel_rfl) (by kernel_rfl) (by kernel_rfl) (fun _ _ _ h => runs_slots _ _ _ _ _ h) (Or.inl ⟨by rfl, ?hy9⟩) (by assumption) ?rest9
            case hy9 => (intro w hSw; obtain ⟨f1, f2, f3, f4⟩ := FACTS.out w hSw; clear hSw; (try dsimp only); go_simp; try with_reducible rfl)
            try simp only [Act.put, List.setIfInBounds_toArray, List.set_cons_zero, List.set_cons_succ]
            refine' wpAnyH_take (i := 9) (v := ?v10) rfl (by kernel_rfl) (by kernel_rfl) (by kernel_rfl) (fun _ _ _ h => runs_slots _ _ _ _ _ h) (Or.inl ⟨by rfl, ?hy10⟩) (by assumption) ?rest10
            case hy10 => (intro w hSw; obtain ⟨f1, f2, f3, f4⟩ := FACTS.out w hSw; clear hSw; (try dsimp only); go_simp; try with_reducible rfl)
            try simp only [Act.put, List.setIfInBounds_toArray, List.set_cons_zero, List.set_cons_succ]
            refine' wpAnyH_take (i := 10) (v := ?v11) rfl (by kernel_rfl) (by kernel_rfl) (by kernel_rfl) (fun _ _ _ h => runs_slots _ _ _ _ _ h) (Or.inl ⟨by rfl, ?hy11⟩) (by assumption) ?rest11
            case hy11 => (intro w hSw; obtain ⟨f1, f2, f3, f4⟩ := FACTS.out w hSw; clear hSw; (try dsimp only); go_simp; try with_reducible rfl)
            try simp only [Act.put, List.setIfInBounds_toArray, List.set_cons_zero, List.set_cons_succ]
            refine' wpAnyH_take (i := 11) (v := ?v12) rfl (by kernel_rfl) (by kernel_rfl) (by kernel_rfl) (fun _ _ _ h => runs_slots _ _ _ _ _ h) (Or.inl ⟨by rfl, ?hy12⟩) (by assumption) ?rest12
            case hy12 => (intro w hSw; obtain ⟨f1, f2, f3, f4⟩ := FACTS.out w hSw; clear hSw; (try dsimp only); go_simp; try with_reducible rfl)
            try simp only [Act.put, List.setIfInBounds_toArray, List.set_cons_zero, List.set_cons_succ]

            refine wpAnyH_ready (rs := [12, 16]) (by kernel_rfl) (by simp) ?_
            refine AllReadyH.cons rfl (fun KA hKA => ?_) ?_
            · go_simp
              refine (HDEC.out _).mono ?_
              rintro e w2 ⟨rfl, hb2⟩
              go_simp
              refine hKA.out _ _ (hHeld.trans (hb2.mono hHeld.size)) (fun hHeld2 => ?_)
              clear hKA KA hHeld
              refine' wpAnyH_take (i := 13) (v := ?v21) rfl (by kernel_rfl) (by kernel_rfl) (by kernel_rfl) (fun _ _ _ h => runs_slots _ _ _ _ _ h) (Or.inl ⟨by rfl, ?hy21⟩) (by assumption) ?rest21
              case hy21 => (intro w hSw; clear hSw; (try dsimp only); go_simp; try with_reducible rfl)
              try simp only [Act.put, List.setIfInBounds_toArray, List.set_cons_zero, List.set_cons_succ]
              refine' wpAnyH_take (i := 14) (v := ?v22) rfl (by kernel_rfl) (by kernel_rfl) (by kernel_rfl) (fun _ _ _ h => runs_slots _ _ _ _ _ h) (Or.inl ⟨by rfl, ?hy22⟩) (by assumption) ?rest22
              case hy22 => (intro w hSw; clear hSw; (try dsimp only); go_simp; try with_reducible rfl)
              try simp only [Act.put, List.setIfInBounds_toArray, List.set_cons_zero, List.set_cons_succ]
              refine' wpAnyH_take (i := 15) (v := ?v23) rfl (by kernel_rfl) (by kernel_rfl) (by kernel_rfl) (fun _ _ _ h => runs_slots _ _ _ _ _ h) (Or.inl ⟨by rfl, ?hy23⟩) (by assumption) ?rest23
              case hy23 => (intro w hSw; clear hSw; (try dsimp only); go_simp; try with_reducible rfl)
              try simp only [Act.put, List.setIfInBounds_toArray, List.set_cons_zero, List.set_cons_succ]

              refine wpAnyH_ready (rs := [16]) (by kernel_rfl) (by simp) ?_
              refine AllReadyH.cons rfl (fun KC hKC => ?_) AllReadyH.nil
              go_simp
              refine hKC.out _ _ (hHeld2.alloc hHeld2.size _) (fun hHeld3 => ?_)
              clear hKC KC
              refine wpAnyH_ready (rs := [17]) (by kernel_rfl) (by simp) ?_
              refine AllReadyH.cons rfl (fun KD hKD => ?_) AllReadyH.nil
              go_simp
              refine hKD.out _ _ (hHeld2.alloc hHeld2.size _) (fun hHeld4 => ?_)
              clear hKD KD hHeld3
              refine' wpAnyH_take (i := 18) (v := ?v24) rfl (by kernel_rfl) (by kernel_rfl) (by kernel_rfl) (fun _ _ _ h => runs_slots _ _ _ _ _ h) (Or.inl ⟨by rfl, ?hy24⟩) (by assumption) ?rest24
              case hy24 => (intro w hSw; clear hSw; (try dsimp only); go_simp; try with_reducible rfl)
              try simp only [Act.put, List.setIfInBounds_toArray, List.set_cons_zero, List.set_cons_succ]

              refine wpAnyH_done (by kernel_rfl) ?_ _
              go_step
              go_step
              simp only [Act.put, List.getElem_toArray, List.getElem_cons_zero, List.getElem_cons_succ, List.setIfInBounds_toArray, List.set_cons_zero, List.set_cons_succ]
              go_meet
              case rel => exact ⟨_, rfl, rfl, hHeld4, heap_alloc_new w2 _⟩
            · refine AllReadyH.cons rfl (fun KB hKB => ?_) AllReadyH.nil
              go_simp
              refine hKB.out _ _ (hHeld.alloc hHeld.size _) (fun hHeld2 => ?_)
              clear hKB KB
              refine wpAnyH_ready (rs := [12]) (by kernel_rfl) (by simp) ?_
              refine AllReadyH.cons rfl (fun KA hKA => ?_) AllReadyH.nil
              go_simp
              refine (HDEC.out _).mono ?_
              rintro e w2 ⟨rfl, hb2⟩
              go_simp
              have hz2 := (hb2.block w1.heap.size (by simp)).trans (heap_alloc_new w1 _)
              refine hKA.out _ _ (hHeld2.trans (hb2.mono hHeld2.size)) (fun hHeld3 => ?_)
              clear hKA KA hHeld2 hb2
              obtain ⟨z0, z1, z2, z3, z4, zz⟩ := blk5 hz2
              refine' wpAnyH_take (i := 13) (v := ?v31) rfl (by kernel_rfl) (by kernel_rfl) (by kernel_rfl) (fun _ _ _ h => runs_slots _ _ _ _ _ h) (Or.inl ⟨by rfl, ?hy31⟩) (by assumption) ?rest31
              case hy31 => (intro w hSw; clear hSw; (try dsimp only); go_simp; try with_reducible rfl)
              try simp only [Act.put, List.setIfInBounds_toArray, List.set_cons_zero, List.set_cons_succ]
              refine' wpAnyH_take (i := 14) (v := ?v32) rfl (by kernel_rfl) (by kernel_rfl) (by kernel_rfl) (fun _ _ _ h => runs_slots _ _ _ _ _ h) (Or.inl ⟨by rfl, ?hy32⟩) (by assumption) ?rest32
              case hy32 => (intro w hSw; clear hSw; (try dsimp only); go_simp; try with_reducible rfl)
              try simp only [Act.put, List.setIfInBounds_toArray, List.set_cons_zero, List.set_cons_succ]
              refine' wpAnyH_take (i := 15) (v := ?v33) rfl (by kernel_rfl) (by kernel_rfl) (by kernel_rfl) (fun _ _ _ h => runs_slots _ _ _ _ _ h) (Or.inl ⟨by rfl, ?hy33⟩) (by assumption) ?rest33
              case hy33 => (intro w hSw; clear hSw; (try dsimp only); go_simp; try with_reducible rfl)
              try simp only [Act.put, List.setIfInBounds_toArray, List.set_cons_zero, List.set_cons_succ]

              refine wpAnyH_ready (rs := [17]) (by kernel_rfl) (by simp) ?_
              refine AllReadyH.cons rfl (fun KD hKD => ?_) AllReadyH.nil
              go_simp
              refine hKD.out _ _ (((((hHeld3.setCell (Nat.le_refl _) _).setCell (Nat.le_refl _) _).setCell (Nat.le_refl _) _).setCell (Nat.le_refl _) _).setCell (Nat.le_refl _) _) (fun hHeld4 => ?_)
              clear hKD KD
              refine' wpAnyH_take (i := 18) (v := ?v34) rfl (by kernel_rfl) (by kernel_rfl) (by kernel_rfl) (fun _ _ _ h => runs_slots _ _ _ _ _ h) (Or.inl ⟨by rfl, ?hy34⟩) (by assumption) ?rest34
              case hy34 => (intro w hSw; clear hSw; (try dsimp only); go_simp; try with_reducible rfl)
              try simp only [Act.put, List.setIfInBounds_toArray, List.set_cons_zero, List.set_cons_succ]
              refine wpAnyH_done (by kernel_rfl) ?_ _
              go_step
              go_step
              simp only [Act.put, List.getElem_toArray, List.getElem_cons_zero, List.getElem_cons_succ, List.setIfInBounds_toArray, List.set_cons_zero, List.set_cons_succ]
              go_meet
              case rel => exact ⟨_, rfl, rfl, hHeld4, by simp [World.setCell, Array.getElem?_modify, hz2]⟩
          case rest =>
            obtain ⟨ib, rfl, rfl, hB6, hib⟩ := hcut
            have hMx := HM1.out.below hB6
            have hKx := HK1.out.below hB6
            have hbx := (hB6.block _ (lt_of_block HB1.out)).trans HB1.out
            have hstep : Mc.step n low mm = goOn n low mm D := by
              have hp := HP.out
              rw [HD.out, HQ.out]
              exact step_goOn hp.1 hp.2
            have hgo : run n low fuel m = run n low k (Mc.step n low mm) := by rw [← HR.out.goes, run_step HR.out.fin]
            rw [hstep] at hgo
            have hdd := HD.out
            have hdv := HDV.out
            clear HM1 HK1 HB1 HD HDV HDEC FACTS eu hstep hB6
            rcases D with _ | ⟨op, a, b, c, i⟩
            · have HGO := Lib.hid hgo
              have HMx := Lib.hid hMx
              have HKx := Lib.hid hKx
              have HBx := Lib.hid hbx
              clear hgo hMx hKx hbx hdd hdv fb hql hlen
              go_wp2_with fail
              refine runs_door 4 ⟨ov, HMx.out, HKx.out⟩ HBx.out _ ?_
              intro w2 h2
              have e1 : run n low fuel m = { mm with steps := mm.steps + 1, fin := 4 } := by
                rw [HGO.out]
                exact run_stop (by show (0 : Int) ≤ 4; omega) k
              rw [e1]
              exact ⟨rfl, h2.fin 4⟩
            · have hdv2 : op = d0 ∧ a = d1 ∧ b = d2 ∧ c = d3 ∧ i = d4 := by simpa [Cp.decV, Cp.instrOf] using hdv
              obtain ⟨rfl, rfl, rfl, rfl, rfl⟩ := hdv2
              have hmay := dec_ok hdd.symm fb.1 fb.2
              have bxo := (hMx.below (Below.refl _ _).drew).box_other (b := w.heap.size) hbx (by decide) (by decide)
              have bio := (hMx.below (Below.refl _ _).drew).box_other (b := ib) hib (by decide) (by decide)
              have ok1 : Ok { mm with steps := mm.steps + 1 } := ⟨HR.out.ok.regs, HR.out.ok.reg_in, HR.out.ok.word_in, HR.out.ok.mem⟩
              have hp := HP.out
              have hdo := does_any (hMx.below (Below.refl _ _).drew).others ok1 op a b c i hmay (by show 0 ≤ mm.pc; omega) (by show mm.pc < 6000; omega) hn (by show mm.out.length ≤ 1000000; have := HR.out.out; omega) HR.out.fin
              obtain ⟨_, _, _, _, _, _, _, _, i1, i2, _⟩ := Cp.ok_bounds op a b c i hmay
              have hact := ok1.act n low op a b c i i1 i2 (by show 0 ≤ mm.pc; omega) (by show mm.pc < 6000; omega)
              have hsame := act_same n low { mm with steps := mm.steps + 1 } op a b c i hn
              have hpc := act_pc n low { mm with steps := mm.steps + 1 } op a b c i
              obtain ⟨m2, hm2⟩ : ∃ m2, m2 = act n low { mm with steps := mm.steps + 1 } op a b c i := ⟨_, rfl⟩
              simp only [goOn] at hgo
              rw [← hm2] at hdo hact hsame hpc hgo
              clear hm2
              have hcb : wc.cell? ⟨w.heap.size, 0, none⟩ = some (.pointer (some ⟨x, 0, none⟩)) := cell_of_row wc _ 0 _ _ _ hbx
              obtain ⟨z0, z1, z2, z3, z4, zz⟩ := blk5 hib
              have c16 := hMx.tail.1
              have HGO := Lib.hid hgo
              have HMx := Lib.hid hMx
              have HKx := Lib.hid hKx
              have HBx := Lib.hid hbx
              have HIB := Lib.hid hib
              have HDO := Lib.hid hdo
              have HACT := Lib.hid hact
              have HSAME := Lib.hid hsame
              have HPC := Lib.hid hpc
              have BXO := Lib.hid bxo
              have BIO := Lib.hid bio
              clear hgo hMx hKx hbx hib hdo hact hsame hpc bxo bio hdd hdv hmay ok1 hp fb hql hlen i1 i2
              go_upto_region 9 with fail
              refine wp_region_held_drew (S := fun w' => w'.cell? ⟨w.heap.size, 0, none⟩ = some (.pointer (some ⟨x, 0, none⟩)) ∧ w'.cell? ⟨ib, 0, none⟩ = some (.int .i64 op) ∧ w'.cell? ⟨ib, 1, none⟩ = some (.int .i64 a) ∧ w'.cell? ⟨ib, 2, none⟩ = some (.int .i64 b) ∧ w'.cell? ⟨ib, 3, none⟩ = some (.int .i64 c) ∧ w'.cell? ⟨ib, 4, none⟩ = some (.int .i64 i)) mixed ⟨hcb, z0, z1, z2, z3, z4⟩ (fun hHeld => ?_)
              refine' wpAnyH_take (i := 0) (v := ?v41) rfl (by kernel_rfl) (by kernel_rfl) (by kernel_rfl) (fun _ _ _ h => runs_slots _ _ _ _ _ h) (Or.inl ⟨by rfl, ?hy41⟩) (by assumption) ?rest41
              case hy41 => (intro w hSw; (try dsimp only at hSw); go_simp; try with_reducible rfl)
              try simp only [Act.put, List.setIfInBounds_toArray, List.set_cons_zero, List.set_cons_succ]
              refine' wpAnyH_take (i := 1) (v := ?v42) rfl (by kernel_rfl) (by kernel_rfl) (by kernel_rfl) (fun _ _ _ h => runs_slots _ _ _ _ _ h) (Or.inl ⟨by rfl, ?hy42⟩) (by assumption) ?rest42
              case hy42 => (intro w hSw; (try dsimp only at hSw); go_simp; try with_reducible rfl)
              try simp only [Act.put, List.setIfInBounds_toArray, List.set_cons_zero, List.set_cons_succ]
              refine' wpAnyH_take (i := 2) (v := ?v43) rfl (by kernel_rfl) (by kernel_rfl) (by kernel_rfl) (fun _ _ _ h => runs_slots _ _ _ _ _ h) (Or.inl ⟨by rfl, ?hy43⟩) (by assumption) ?rest43
              case hy43 => (intro w hSw; (try dsimp only at hSw); go_simp; try with_reducible rfl)
              try simp only [Act.put, List.setIfInBounds_toArray, List.set_cons_zero, List.set_cons_succ]

              refine wpAnyH_ready (rs := [3]) (by kernel_rfl) (by simp) ?_
              refine AllReadyH.cons rfl (fun KA hKA => ?_) AllReadyH.nil
              go_simp
              refine HDO.out.mono ?_
              rintro e w3 ⟨hat, hor⟩
              have b3 := (hat.other BXO.out).trans HBx.out
              have i3 := (hat.other BIO.out).trans HIB.out
              rcases hor with ⟨hf2, rfl⟩ | ⟨hf2, rfl⟩
              · go_simp
                have hcb3 := cell_of_row w3 _ 0 _ _ _ b3
                obtain ⟨y0, y1, y2, y3, y4, yz⟩ := blk5 i3
                refine hKA.out _ _ ⟨hcb3, y0, y1, y2, y3, y4⟩ (fun hHeld2 => ?_)
                clear hKA KA hHeld
                obtain ⟨ov3, h3, h4⟩ := hat
                have t16 := h3.tail.1
                have tz := h3.free
                have HAT3 := Lib.hid h3
                have HKT3 := Lib.hid h4
                have HB3 := Lib.hid b3
                have bne3 : ¬ ib = x := BIO.out.1
                clear h3 h4 b3 i3 hcb z0 z1 z2 z3 z4 zz
                refine' wpAnyH_take (i := 4) (v := ?v44) rfl (by kernel_rfl) (by kernel_rfl) (by kernel_rfl) (fun _ _ _ h => runs_slots _ _ _ _ _ h) (Or.inl ⟨by rfl, ?hy44⟩) (by assumption) ?rest44
                case hy44 => (intro w hSw; (try dsimp only at hSw); go_simp; try with_reducible rfl)
                try simp only [Act.put, List.setIfInBounds_toArray, List.set_cons_zero, List.set_cons_succ]
                refine' wpAnyH_take (i := 5) (v := ?v45) rfl (by kernel_rfl) (by kernel_rfl) (by kernel_rfl) (fun _ _ _ h => runs_slots _ _ _ _ _ h) (Or.inl ⟨by rfl, ?hy45⟩) (by assumption) ?rest45
                case hy45 => (intro w hSw; (try dsimp only at hSw); go_simp; try with_reducible rfl)
                try simp only [Act.put, List.setIfInBounds_toArray, List.set_cons_zero, List.set_cons_succ]
                refine' wpAnyH_take (i := 6) (v := ?v46) rfl (by kernel_rfl) (by kernel_rfl) (by kernel_rfl) (fun _ _ _ h => runs_slots _ _ _ _ _ h) (Or.inl ⟨by rfl, ?hy46⟩) (by assumption) ?rest46
                case hy46 => (intro w hSw; (try dsimp only at hSw); go_simp; try with_reducible rfl)
                try simp only [Act.put, List.setIfInBounds_toArray, List.set_cons_zero, List.set_cons_succ]

                refine wpAnyH_ready (rs := [7]) (by kernel_rfl) (by simp) ?_
                refine AllReadyH.cons rfl (fun KD hKD => ?_) AllReadyH.nil
                go_simp
                refine hKD.out _ _ ?hSD (fun hHeld3 => ?_)
                case hSD => (try dsimp only); simp [*, go_sem]
                clear hKD KD
                refine wpAnyH_done (by kernel_rfl) ?_ _
                go_step
                go_step
                try simp only [Act.put, List.getElem_toArray, List.getElem_cons_zero, List.getElem_cons_succ, List.setIfInBounds_toArray, List.set_cons_zero, List.set_cons_succ]
                go_roundg k
                case measure => omega
                case rel =>
                  refine ⟨m2, ⟨?_, (Below.heap_setCell w3 ⟨x, 16, none⟩ _ _ bne).trans HB3.out, HACT.out, hf2, ?_, ?_, ?_, HGO.out.symm⟩⟩
                  · have h5 : AtW W B Fr x g n low 0 { m2 with pc := mm.pc } w3 := AtW.widen (HKx.out.below (Below.refl _ _).drew) ⟨ov3, HAT3.out, HKT3.out⟩
                    obtain ⟨ov5, h6, h7⟩ := h5
                    exact ⟨ov5, h6.setPC m2.pc, h7.set h7.free.1 _ _⟩
                  · have h5 : m2.steps = mm.steps + 1 := HSAME.out.steps
                    omega
                  · have h5 : m2.steps = mm.steps + 1 := HSAME.out.steps
                    have h6 : m2.out.length ≤ mm.out.length + 1 := HSAME.out.out
                    have h7 := HR.out.out
                    omega
                  · have h5 : m2.words.length = mm.words.length := HSAME.out.len
                    rw [h5]
                    exact HR.out.len
              · refine runs_door m2.fin (AtW.widen (HKx.out.below (Below.refl _ _).drew) hat) b3 _ ?_
                intro w5 h5
                have e1 : run n low fuel m = m2 := HGO.out.trans (run_stop hf2 k)
                have e2 : endOf m2 = m2.fin := if_neg (by omega)
                have e3 : m2.pc = mm.pc := HPC.out hf2
                rw [← e3] at h5
                rw [e1, e2]
                exact ⟨rfl, h5⟩
    · go_wp2_with fail
      refine leaves_cons (f := 96) (args := #[.pointer (some ⟨w.heap.size, 0, none⟩)]) (by simp) (by simp [go_sem]) ?_
      refine (rec_idle w.heap.size _).mono ?_
      rintro e u' w'' ⟨rfl, rfl, rfl⟩
      obtain rfl : gk = 0 := by omega
      have e1 : run n low fuel m = mm := HR.out.goes.symm
      rw [e1]
      have e2 : endOf mm = 0 := by unfold endOf; rw [if_pos (by have := HR.out.fin; omega)]
      rw [e2]
      simp [Leaves, settle, results, Try.results73, go_sem]
      exact HR.out.at_

end Go.Proofs.Ythnehhidlaggeaa
