/- Scarfjointref3's Step: the walks, 5. -/
import Derived.Test.YthnehhidlaggeaaStepKit
import Derived.Test.YthnehhidlaggeaaDoes4
namespace Go.Proofs.Ythnehhidlaggeaa
set_option linter.unusedVariables false
set_option linter.unusedSimpArgs false
open Go.RowKit Mc

set_option maxRecDepth 100000 in
set_option maxHeartbeats 8000000 in
theorem step_5 {W w : World} {B : Nat} {Fr : Nat → Prop} {x g gc gi n cc ci : Nat} {low : Int} {m : Mach} (h : RefW W B Fr x g (.slice (some ⟨gc, 0, none⟩) n cc) (.slice (some ⟨gi, 0, none⟩) n ci) low m w) (ok : Ok m) (hf : m.fin = -1) (hl : low ≤ m.words.length)
    (q : Nat) (hq : m.pc = q) (hqn : q < n) (hn : n ≤ 6000) (hs : m.steps ≤ 1000000) (a b c : Nat) (op i : Int) (hI : InsAt w x g gc gi q op a b c i) (ha : a < 16) (hb : b < 16) (hc : c < 16) (o1 : 1 ≤ op) (o2 : op ≤ 25) (i1 : -32768 ≤ i) (i2 : i ≤ 65535) (i0 : op = 3 → 0 ≤ i) (hout : m.out.length ≤ 1000000) (hop : op = 23 ∨ op = 24 ∨ op = 25) :
    Calls Try.prog 41 #[.pointer (some ⟨x, 0, none⟩)] w fun e w' => e = .returned (.tuple #[]) ∧ RefW W B Fr x g (.slice (some ⟨gc, 0, none⟩) n cc) (.slice (some ⟨gi, 0, none⟩) n ci) low (act n low { m with steps := m.steps + 1 } op a b c i) w' := by
  have hai : (a : Int) < 16 := by omega
  have hbi : (b : Int) < 16 := by omega
  have hci : (c : Int) < 16 := by omega
  have hqi : (q : Int) < n := by omega
  have hsi : (m.steps : Int) ≤ 1000000 := by omega
  have HI0 := Lib.hid i0
  have HOUT := Lib.hid hout
  have HOP := Lib.hid hop
  clear i0 hout hop
  have HH := Lib.hid h
  have HI := Lib.hid hI
  have HOK := Lib.hid ok
  have HQ := Lib.hid hq
  have HF := Lib.hid hf
  clear hq ok hf h hI
  obtain ⟨m1, hm1⟩ : ∃ m1, m1 = { m with steps := m.steps + 1 } := ⟨_, rfl⟩
  have HOK1 : Hid (Ok m1) := by rw [hm1]; exact ⟨HOK.out.regs, HOK.out.reg_in, HOK.out.word_in, HOK.out.mem⟩
  have HM1 := Lib.hid hm1
  have va : -2147483648 ≤ reg m1 a ∧ reg m1 a ≤ 2147483647 := HOK1.out.reg_in a
  have vb : -2147483648 ≤ reg m1 b ∧ reg m1 b ≤ 2147483647 := HOK1.out.reg_in b
  have vc : -2147483648 ≤ reg m1 c ∧ reg m1 c ≤ 2147483647 := HOK1.out.reg_in c
  have hl1 : low ≤ m1.words.length := by rw [hm1]; exact hl
  rw [← hm1]
  clear hm1
  obtain ⟨m2, hm2⟩ : ∃ m2, m2 = act n low m1 op a b c i := ⟨_, rfl⟩
  have HM2 := Lib.hid hm2
  rw [← hm2]
  clear hm2
  go_enter Try.func41, Try.ntmps41
  go_upto_region 0 with fail
  go_cut [] from 12 to 18 (fun wx => StepIn W B Fr x g gc gi n cc ci q low m1 op a b c i wx)
  case first =>
    obtain ⟨ov, hM, hK⟩ := HH.out
    have t24 := hM.tail.2.2.2.2
    have tz := hM.free
    clear hM hK
    go_wp2_with fail
    go_meet
    have zc := HI.out.nc
    have zi := HI.out.ni
    refine ⟨?_, HI.out.same (Below.heap_setCell w ⟨x, 24, none⟩ _ gc zc) (Below.heap_setCell w ⟨x, 24, none⟩ _ gi zi)⟩
    rw [HM1.out]
    exact HH.out.setSteps (m.steps + 1)
  case rest =>
  obtain ⟨hr, hi⟩ := hcut
  have HR := Lib.hid hr
  clear HI
  have HI := Lib.hid hi
  clear hr hi
  go_wp2_with fail
  go_cut [48] from 19 to 48 (fun v48 wx => v48 = .bool false ∧ StepIn W B Fr x g gc gi n cc ci q low m1 op a b c i wx)
  case first =>
    obtain ⟨ov, hM, hK⟩ := HR.out
    have t0 := hM.head.1
    have t1 := hM.head.2.1
    have t20 := hM.tail.1
    have e1 : m1.pc = q := by rw [HM1.out]; exact HQ.out
    rw [e1] at t20
    have zi := HI.out.is
    have d1 : decide ((q : Int) < 0) = false := by simp
    have d2 : decide ((n : Int) ≤ q) = false := by simp; omega
    clear hM hK e1
    go_quiet (fail)
    go_wp2_with fail
    go_meet
    exact ⟨congrArg Value.bool (by simp; omega), HR.out.drewN _, HI.out.same rfl rfl⟩
  case rest =>
  obtain ⟨rfl, hr, hi⟩ := hcut
  clear HR HI
  have HR := Lib.hid hr
  have HI := Lib.hid hi
  clear hr hi
  go_upto_region 3 with fail
  go_cut [2] from 52 to 61 (fun v2 wx => ∃ ib, v2 = .pointer (some ⟨ib, 0, none⟩) ∧ InStep W B Fr x g (.slice (some ⟨gc, 0, none⟩) n cc) (.slice (some ⟨gi, 0, none⟩) n ci) low m1 op a b c i ib wx)
  case first =>
    obtain ⟨ov, hM, hK⟩ := HR.out
    have t0 := hM.head.1
    have t20 := hM.tail.1
    have e1 : m1.pc = q := by rw [HM1.out]; exact HQ.out
    rw [e1] at t20
    obtain ⟨z0, z1, z2, z3, z4, zi, zc, zg⟩ := HI.out
    have hgl := lt_of_cell z0
    have hxl := lt_of_cell t0
    clear hM hK e1 zi zg
    go_region_held3 (fun w' => w'.cell? ⟨x, 0, none⟩ = some (.slice (some ⟨gc, 0, none⟩) n cc) ∧ w'.cell? ⟨x, 20, none⟩ = some (.int .i64 q) ∧ w'.cell? ⟨gc, q * 5, none⟩ = some (.int .i64 op) ∧ w'.cell? ⟨gc, q * 5 + 1, none⟩ = some (.int .i64 a) ∧ w'.cell? ⟨gc, q * 5 + 2, none⟩ = some (.int .i64 b) ∧ w'.cell? ⟨gc, q * 5 + 3, none⟩ = some (.int .i64 c) ∧ w'.cell? ⟨gc, q * 5 + 4, none⟩ = some (.int .i64 i)) (go_keep) (fail)
    go_wp2_with fail
    go_meet
    exact ⟨_, rfl, heap_alloc_new _ _, (HR.out.alloc _).drew⟩
  case rest =>
  obtain ⟨ib, rfl, hib, hr⟩ := hcut
  clear HR HI
  have HR := Lib.hid hr
  have HB := Lib.hid hib
  clear hr hib
  go_wp2_with fail
  go_cut [3] from 62 to 68 (fun v3 wx => v3 = .int .i32 (reg m1 a) ∧ InStep W B Fr x g (.slice (some ⟨gc, 0, none⟩) n cc) (.slice (some ⟨gi, 0, none⟩) n ci) low m1 op a b c i ib wx)
  case first =>
    obtain ⟨ov, hM, hK⟩ := HR.out
    have ra := hM.reg a ha
    obtain ⟨z0, z1, z2, z3, z4, zz⟩ := blk5 HB.out
    clear hM hK
    go_quiet (fail)
    go_wp2_with fail
    go_meet
    exact ⟨rfl, HB.out, HR.out.drewN _⟩
  case rest =>
  obtain ⟨rfl, hib, hr⟩ := hcut
  clear HR HB
  have HR := Lib.hid hr
  have HB := Lib.hid hib
  clear hr hib
  go_wp2_with fail
  go_cut [4] from 69 to 75 (fun v4 wx => v4 = .int .i32 (reg m1 b) ∧ InStep W B Fr x g (.slice (some ⟨gc, 0, none⟩) n cc) (.slice (some ⟨gi, 0, none⟩) n ci) low m1 op a b c i ib wx)
  case first =>
    obtain ⟨ov, hM, hK⟩ := HR.out
    have rb := hM.reg b hb
    obtain ⟨z0, z1, z2, z3, z4, zz⟩ := blk5 HB.out
    clear hM hK
    go_quiet (fail)
    go_wp2_with fail
    go_meet
    exact ⟨rfl, HB.out, HR.out.drewN _⟩
  case rest =>
  obtain ⟨rfl, hib, hr⟩ := hcut
  clear HR HB
  have HR := Lib.hid hr
  have HB := Lib.hid hib
  clear hr hib
  obtain ⟨ov, hM, hK⟩ := HR.out
  obtain ⟨t0, t1, t2, t3⟩ := hM.head
  obtain ⟨t20, t21, t22, t23, t24⟩ := hM.tail
  have e1 : m1.pc = q := by rw [HM1.out]; exact HQ.out
  have e2 : m1.fin = -1 := by rw [HM1.out]; exact HF.out
  rw [e1] at t20
  rw [e2] at t22
  have tz := hM.free
  have hlt := hM.lt.1
  obtain ⟨z0, z1, z2, z3, z4, zz⟩ := blk5 HB.out
  have HE1 := Lib.hid e1
  have HE2 := Lib.hid e2
  have HM := Lib.hid hM
  have HK := Lib.hid hK
  clear hM hK e1 e2
  rcases HOP.out with e | e | e
  · subst e
    have ea : act n low m1 23 a b c i = next m1 (reg m1 a) := by simp [act]
    have EA := Lib.hid (HM2.out.trans ea)
    clear ea
    go_wp2_with fail
    go_end0
    exact ⟨rfl, by rw [EA.out]; exact next_go HR.out (by rw [HE2.out]; omega) _⟩
  · subst e
    have ea : act n low m1 24 a b c i = next { m1 with out := m1.out ++ [reg m1 a] } (m1.pc + 1) := by simp [act]
    have EA := Lib.hid (HM2.out.trans ea)
    clear ea
    obtain ⟨i2, hi2, ha0, ha1, ha2⟩ := info_parts i32_info
    have hol : m1.out.length ≤ 1000000 := by rw [HM1.out]; exact HOUT.out
    have hbs : B ≤ wc.heap.size := by have := HM.out.base; omega
    go_wp2_with (at_builtin; refine wpList_append_own_at _ (by rfl) (.tmp 247) (.tmp 249) 32 (by rfl) B 21 i2 _ 1 4 Try.underlying32 hi2 ha0 ha1 ha2 (by rfl) (by decide) ov m1.out.length (m1.out.map (Value.int .i32)) (by rfl) (by exact HM.out.outs.alloc _) ⟨wc.heap.size, 0, none⟩ 1 1 [.int .i32 (reg m1 a)] (by rfl) (by rfl) (by exact cells1_of (heap_alloc_new wc _)) (by intro u hu; simp only [List.mem_singleton] at hu; subst hu; rfl) (by unfold maxLen; omega) (by omega) (by simp; omega) ?_; intro v' w2 hown hgr _ hor; have ho2 := hown.2; rcases ho2 with ⟨_, hno⟩ | ⟨g3, cap3, cur3, rfl, _⟩; omega; have hbl := hgr.block x (by simp; omega) HM.out.ovx; have hba := Below.heap_alloc wc (.cells #[.int .i32 (reg m1 a)] 21) x hlt; have hxx : ∀ o, w2.cell? ⟨x, o, none⟩ = wc.cell? ⟨x, o, none⟩ := fun o => World.cell?_of_block (hbl.trans hba); have hzz : ∀ o, w2.frozen? ⟨x, o, none⟩ = false := fun o => (World.frozen?_of_block (hbl.trans hba)).trans (tz o); have c21 := (hxx 21).trans t21; have c22 := (hxx 22).trans t22; have c20 := (hxx 20).trans t20; have hro := RefW.setOut (l := m1.out ++ [reg m1 a]) HM.out HK.out hgr (by rw [List.length_append, List.map_append]; exact hown) hor; have HRO := Lib.hid hro; clear hro hown hgr hor hbl hba hxx)
    go_end0
    have hn := next_go HRO.out (by show m1.fin < 0; rw [HE2.out]; omega) (m1.pc + 1)
    rw [HE1.out] at hn
    exact ⟨rfl, by rw [EA.out, HE1.out]; exact hn⟩
  · subst e
    have ea : act n low m1 25 a b c i = { m1 with value := reg m1 a, fin := 1 } := by simp [act]
    have EA := Lib.hid (HM2.out.trans ea)
    clear ea
    go_wp2_with fail
    go_end0
    exact ⟨rfl, by rw [EA.out]; exact (HR.out.setValue (reg m1 a)).setFin 1⟩

end Go.Proofs.Ythnehhidlaggeaa
