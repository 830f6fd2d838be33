/- Scarfjointref3's Step: the walks, 2. -/
import Derived.Test.YthnehhidlaggeaaStepKit
import Derived.Test.YthnehhidlaggeaaDoes4
namespace Go.Proofs.Ythnehhidlaggeaa
set_option linter.unusedVariables false
set_option linter.unusedSimpArgs false
open Go.RowKit Mc

set_option maxRecDepth 100000 in
set_option maxHeartbeats 8000000 in
theorem step_2 {W w : World} {B : Nat} {Fr : Nat → Prop} {x g gc gi n cc ci : Nat} {low : Int} {m : Mach} (h : RefW W B Fr x g (.slice (some ⟨gc, 0, none⟩) n cc) (.slice (some ⟨gi, 0, none⟩) n ci) low m w) (ok : Ok m) (hf : m.fin = -1) (hl : low ≤ m.words.length)
    (q : Nat) (hq : m.pc = q) (hqn : q < n) (hn : n ≤ 6000) (hs : m.steps ≤ 1000000) (a b c : Nat) (op i : Int) (hI : InsAt w x g gc gi q op a b c i) (ha : a < 16) (hb : b < 16) (hc : c < 16) (o1 : 1 ≤ op) (o2 : op ≤ 25) (i1 : -32768 ≤ i) (i2 : i ≤ 65535) (i0 : op = 3 → 0 ≤ i) (hout : m.out.length ≤ 1000000) (hop : 4 ≤ op ∧ op ≤ 15) :
    Calls Try.prog 41 #[.pointer (some ⟨x, 0, none⟩)] w fun e w' => e = .returned (.tuple #[]) ∧ RefW W B Fr x g (.slice (some ⟨gc, 0, none⟩) n cc) (.slice (some ⟨gi, 0, none⟩) n ci) low (act n low { m with steps := m.steps + 1 } op a b c i) w' := by
  have hai : (a : Int) < 16 := by omega
  have hbi : (b : Int) < 16 := by omega
  have hci : (c : Int) < 16 := by omega
  have hqi : (q : Int) < n := by omega
  have hsi : (m.steps : Int) ≤ 1000000 := by omega
  have HI0 := Lib.hid i0
  have HOUT := Lib.hid hout
  have HOP := Lib.hid hop
  clear i0 hout hop
  have HH := Lib.hid h
  have HI := Lib.hid hI
  have HOK := Lib.hid ok
  have HQ := Lib.hid hq
  have HF := Lib.hid hf
  clear hq ok hf h hI
  obtain ⟨m1, hm1⟩ : ∃ m1, m1 = { m with steps := m.steps + 1 } := ⟨_, rfl⟩
  have HOK1 : Hid (Ok m1) := by rw [hm1]; exact ⟨HOK.out.regs, HOK.out.reg_in, HOK.out.word_in, HOK.out.mem⟩
  have HM1 := Lib.hid hm1
  have va : -2147483648 ≤ reg m1 a ∧ reg m1 a ≤ 2147483647 := HOK1.out.reg_in a
  have vb : -2147483648 ≤ reg m1 b ∧ reg m1 b ≤ 2147483647 := HOK1.out.reg_in b
  have vc : -2147483648 ≤ reg m1 c ∧ reg m1 c ≤ 2147483647 := HOK1.out.reg_in c
  have hl1 : low ≤ m1.words.length := by rw [hm1]; exact hl
  rw [← hm1]
  clear hm1
  obtain ⟨m2, hm2⟩ : ∃ m2, m2 = act n low m1 op a b c i := ⟨_, rfl⟩
  have HM2 := Lib.hid hm2
  rw [← hm2]
  clear hm2
  go_enter Try.func41, Try.ntmps41
  go_upto_region 0 with fail
  go_cut [] from 12 to 18 (fun wx => StepIn W B Fr x g gc gi n cc ci q low m1 op a b c i wx)
  case first =>
    obtain ⟨ov, hM, hK⟩ := HH.out
    have t24 := hM.tail.2.2.2.2
    have tz := hM.free
    clear hM hK
    go_wp2_with fail
    go_meet
    have zc := HI.out.nc
    have zi := HI.out.ni
    refine ⟨?_, HI.out.same (Below.heap_setCell w ⟨x, 24, none⟩ _ gc zc) (Below.heap_setCell w ⟨x, 24, none⟩ _ gi zi)⟩
    rw [HM1.out]
    exact HH.out.setSteps (m.steps + 1)
  case rest =>
  obtain ⟨hr, hi⟩ := hcut
  have HR := Lib.hid hr
  clear HI
  have HI := Lib.hid hi
  clear hr hi
  go_wp2_with fail
  go_cut [48] from 19 to 48 (fun v48 wx => v48 = .bool false ∧ StepIn W B Fr x g gc gi n cc ci q low m1 op a b c i wx)
  case first =>
    obtain ⟨ov, hM, hK⟩ := HR.out
    have t0 := hM.head.1
    have t1 := hM.head.2.1
    have t20 := hM.tail.1
    have e1 : m1.pc = q := by rw [HM1.out]; exact HQ.out
    rw [e1] at t20
    have zi := HI.out.is
    have d1 : decide ((q : Int) < 0) = false := by simp
    have d2 : decide ((n : Int) ≤ q) = false := by simp; omega
    clear hM hK e1
    go_quiet (fail)
    go_wp2_with fail
    go_meet
    exact ⟨congrArg Value.bool (by simp; omega), HR.out.drewN _, HI.out.same rfl rfl⟩
  case rest =>
  obtain ⟨rfl, hr, hi⟩ := hcut
  clear HR HI
  have HR := Lib.hid hr
  have HI := Lib.hid hi
  clear hr hi
  go_upto_region 3 with fail
  go_cut [2] from 52 to 61 (fun v2 wx => ∃ ib, v2 = .pointer (some ⟨ib, 0, none⟩) ∧ InStep W B Fr x g (.slice (some ⟨gc, 0, none⟩) n cc) (.slice (some ⟨gi, 0, none⟩) n ci) low m1 op a b c i ib wx)
  case first =>
    obtain ⟨ov, hM, hK⟩ := HR.out
    have t0 := hM.head.1
    have t20 := hM.tail.1
    have e1 : m1.pc = q := by rw [HM1.out]; exact HQ.out
    rw [e1] at t20
    obtain ⟨z0, z1, z2, z3, z4, zi, zc, zg⟩ := HI.out
    have hgl := lt_of_cell z0
    have hxl := lt_of_cell t0
    clear hM hK e1 zi zg
    go_region_held3 (fun w' => w'.cell? ⟨x, 0, none⟩ = some (.slice (some ⟨gc, 0, none⟩) n cc) ∧ w'.cell? ⟨x, 20, none⟩ = some (.int .i64 q) ∧ w'.cell? ⟨gc, q * 5, none⟩ = some (.int .i64 op) ∧ w'.cell? ⟨gc, q * 5 + 1, none⟩ = some (.int .i64 a) ∧ w'.cell? ⟨gc, q * 5 + 2, none⟩ = some (.int .i64 b) ∧ w'.cell? ⟨gc, q * 5 + 3, none⟩ = some (.int .i64 c) ∧ w'.cell? ⟨gc, q * 5 + 4, none⟩ = some (.int .i64 i)) (go_keep) (fail)
    go_wp2_with fail
    go_meet
    exact ⟨_, rfl, heap_alloc_new _ _, (HR.out.alloc _).drew⟩
  case rest =>
  obtain ⟨ib, rfl, hib, hr⟩ := hcut
  clear HR HI
  have HR := Lib.hid hr
  have HB := Lib.hid hib
  clear hr hib
  go_wp2_with fail
  go_cut [3] from 62 to 68 (fun v3 wx => v3 = .int .i32 (reg m1 a) ∧ InStep W B Fr x g (.slice (some ⟨gc, 0, none⟩) n cc) (.slice (some ⟨gi, 0, none⟩) n ci) low m1 op a b c i ib wx)
  case first =>
    obtain ⟨ov, hM, hK⟩ := HR.out
    have ra := hM.reg a ha
    obtain ⟨z0, z1, z2, z3, z4, zz⟩ := blk5 HB.out
    clear hM hK
    go_quiet (fail)
    go_wp2_with fail
    go_meet
    exact ⟨rfl, HB.out, HR.out.drewN _⟩
  case rest =>
  obtain ⟨rfl, hib, hr⟩ := hcut
  clear HR HB
  have HR := Lib.hid hr
  have HB := Lib.hid hib
  clear hr hib
  go_wp2_with fail
  go_cut [4] from 69 to 75 (fun v4 wx => v4 = .int .i32 (reg m1 b) ∧ InStep W B Fr x g (.slice (some ⟨gc, 0, none⟩) n cc) (.slice (some ⟨gi, 0, none⟩) n ci) low m1 op a b c i ib wx)
  case first =>
    obtain ⟨ov, hM, hK⟩ := HR.out
    have rb := hM.reg b hb
    obtain ⟨z0, z1, z2, z3, z4, zz⟩ := blk5 HB.out
    clear hM hK
    go_quiet (fail)
    go_wp2_with fail
    go_meet
    exact ⟨rfl, HB.out, HR.out.drewN _⟩
  case rest =>
  obtain ⟨rfl, hib, hr⟩ := hcut
  clear HR HB
  have HR := Lib.hid hr
  have HB := Lib.hid hib
  clear hr hib
  obtain ⟨ov, hM, hK⟩ := HR.out
  obtain ⟨t0, t1, t2, t3⟩ := hM.head
  obtain ⟨t20, t21, t22, t23, t24⟩ := hM.tail
  have e1 : m1.pc = q := by rw [HM1.out]; exact HQ.out
  have e2 : m1.fin = -1 := by rw [HM1.out]; exact HF.out
  rw [e1] at t20
  rw [e2] at t22
  have tz := hM.free
  have hlt := hM.lt.1
  obtain ⟨z0, z1, z2, z3, z4, zz⟩ := blk5 HB.out
  have HE1 := Lib.hid e1
  have HE2 := Lib.hid e2
  have HM := Lib.hid hM
  have HK := Lib.hid hK
  clear hM hK e1 e2
  obtain ⟨q1, q2⟩ := HOP.out
  · have o1 := q1
    have o2 := q2
    clear q1 q2
    have ea : act n low m1 op a b c i = match Wd.op (op - 3) (reg m1 b) (reg m1 c) with
        | none => { m1 with fin := 2 }
        | some v => next (put low m1 a v) (m1.pc + 1) := by
      unfold act
      iterate 13 (rw [if_neg (by omega)])
      cases Wd.op (op - 3) (reg m1 b) (reg m1 c) <;> rfl
    have EA := Lib.hid (HM2.out.trans ea)
    clear ea
    have rc := HM.out.reg c hc
    have q1 : (op == 1) = false := by rw [beq_eq_false_iff_ne]; omega
    have q2 : (op == 2) = false := by rw [beq_eq_false_iff_ne]; omega
    have q3 : (op == 3) = false := by rw [beq_eq_false_iff_ne]; omega
    have q16 : (op == 16) = false := by rw [beq_eq_false_iff_ne]; omega
    have q17 : (op == 17) = false := by rw [beq_eq_false_iff_ne]; omega
    have q18 : (op == 18) = false := by rw [beq_eq_false_iff_ne]; omega
    have q19 : (op == 19) = false := by rw [beq_eq_false_iff_ne]; omega
    have q20 : (op == 20) = false := by rw [beq_eq_false_iff_ne]; omega
    have q21 : (op == 21) = false := by rw [beq_eq_false_iff_ne]; omega
    have q22 : (op == 22) = false := by rw [beq_eq_false_iff_ne]; omega
    have q23 : (op == 23) = false := by rw [beq_eq_false_iff_ne]; omega
    have q24 : (op == 24) = false := by rw [beq_eq_false_iff_ne]; omega
    have q25 : (op == 25) = false := by rw [beq_eq_false_iff_ne]; omega
    have eo : IntKind.i64.wrap (op - 3) = op - 3 := IntWalk.i64_in _ (by omega)
    have HC := Lib.hid (fun w' => rop_any (op - 3) (reg m1 b) (reg m1 c) w' vb.1 vb.2 vc.1 vc.2)
    have hv : ∀ v, Wd.op (op - 3) (reg m1 b) (reg m1 c) = some v → -2147483648 ≤ v ∧ v ≤ 2147483647 := fun v hv => wop_in hv vb.1 vb.2
    unfold Wd.opV at HC
    rcases hop : Wd.op (op - 3) (reg m1 b) (reg m1 c) with _ | v
    · rw [hop] at HC EA
      clear hv hop
      have HC2 : Hid (∀ w', Calls Try.prog 75 #[.int .i64 (op - 3), .int .i32 (reg m1 b), .int .i32 (reg m1 c)] w' fun e w'' => e = .returned (.tuple #[.int .i32 0, .bool false]) ∧ w' = w'') := HC
      clear HC
      go_wp2_with fail
      go_quiet ((go_at_call 75; exact Calls.quiet_of_same ((HC2.out _).mono fun _ _ ⟨a, b⟩ => ⟨a, b.symm⟩)))
      go_wp2_with fail
      refine bodyPost_ret (results_none rfl _ _ _) rfl ?_
      exact ⟨rfl, by rw [EA.out]; exact (HR.out.drewN _).setFin 2⟩
    · have vv := hv v hop
      rw [hop] at HC EA
      have EA : Hid (m2 = next (put low m1 a v) (m1.pc + 1)) := EA
      clear hv hop
      have HC2 : Hid (∀ w', Calls Try.prog 75 #[.int .i64 (op - 3), .int .i32 (reg m1 b), .int .i32 (reg m1 c)] w' fun e w'' => e = .returned (.tuple #[.int .i32 v, .bool true]) ∧ w' = w'') := HC
      clear HC
      have HP : Hid (∀ w', RefW W B Fr x g (.slice (some ⟨gc, 0, none⟩) n cc) (.slice (some ⟨gi, 0, none⟩) n ci) low m1 w' → Calls Try.prog 74 #[.pointer (some ⟨x, 0, none⟩), .int .i64 a, .int .i32 v] w' fun e w'' => e = .returned (.tuple #[]) ∧ RefW W B Fr x g (.slice (some ⟨gc, 0, none⟩) n cc) (.slice (some ⟨gi, 0, none⟩) n ci) low (put low m1 a v) w'' ∧ w'.grownBy w'' (some x)) :=
        fun w' hw => rput_any hw a v (by omega) vv.1 vv.2 HE2.out hl1
      obtain ⟨E, hE⟩ : ∃ E, E = put low m1 a v := ⟨_, rfl⟩
      rw [← hE] at HP EA
      clear hE
      go_wp2_with fail
      go_quiet ((go_at_call 75; exact Calls.quiet_of_same ((HC2.out _).mono fun _ _ ⟨a, b⟩ => ⟨a, b.symm⟩)))
      clear eo q1 q2 q3 q16 q17 q18 q19 q20 q21 q22 q23 q24 q25
      go_wp2_with fail
      refine (HP.out _ (HR.out.drewN _)).mono ?_
      rintro e w2 ⟨rfl, hr2, hg2⟩
      clear t0 t1 t2 t3 t20 t21 t22 t23 t24 tz z0 z1 z2 z3 z4 zz
      obtain ⟨ov2, hM2, hK2⟩ := id hr2
      have t22 := hM2.tail.2.2.1
      have t20 := hM2.tail.1
      have tz := hM2.free
      have HR2 := Lib.hid hr2
      clear hM2 hK2 hr2
      by_cases hf : E.fin < 0
      · go_wp2_with fail
        go_end0
        exact ⟨rfl, by rw [EA.out, HE1.out]; exact next_go HR2.out hf _⟩
      · go_wp2_with fail
        go_end0
        exact ⟨rfl, by rw [EA.out]; exact next_stop HR2.out (by omega) _⟩

end Go.Proofs.Ythnehhidlaggeaa
