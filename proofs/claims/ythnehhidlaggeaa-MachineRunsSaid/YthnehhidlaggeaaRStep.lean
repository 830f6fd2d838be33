/- The reference's Run: its steps, and how they end. -/
import Derived.Test.YthnehhidlaggeaaStep1
import Derived.Test.YthnehhidlaggeaaStep2
import Derived.Test.YthnehhidlaggeaaStep3
import Derived.Test.YthnehhidlaggeaaStep4
import Derived.Test.YthnehhidlaggeaaStep5
import Derived.Test.YthnehhidlaggeaaRNew
import Derived.Test.YthnehhidlaggeaaLongerPlain
import Derived.Test.YthnehhidlaggeaaRuns
import Derived.Test.YthnehhidlaggeaaRan
namespace Go.Proofs.Ythnehhidlaggeaa
set_option linter.unusedVariables false
set_option linter.unusedSimpArgs false
open Go.RowKit Mc

/-- where the place is a wrong one, or there is no instruction -/
structure BadAt (w : World) (gi n : Nat) (pc : Int) : Prop where
  bad : pc < 0 ∨ (n : Int) ≤ pc ∨ ∃ q : Nat, pc = q ∧ q < n ∧ w.cell? ⟨gi, q, none⟩ = some (.bool false)

set_option maxRecDepth 100000 in
set_option maxHeartbeats 4000000 in
theorem rstep_bad {W w : World} {B : Nat} {Fr : Nat → Prop} {x g gc gi n cc ci : Nat} {low : Int} {m : Mach} (h : RefW W B Fr x g (.slice (some ⟨gc, 0, none⟩) n cc) (.slice (some ⟨gi, 0, none⟩) n ci) low m w) (hn : n ≤ 6000) (hs : m.steps ≤ 1000000) (hni : gi ≠ x) (hbad : BadAt w gi n m.pc) :
    Calls Try.prog 41 #[.pointer (some ⟨x, 0, none⟩)] w fun e w' => e = .returned (.tuple #[]) ∧ RefW W B Fr x g (.slice (some ⟨gc, 0, none⟩) n cc) (.slice (some ⟨gi, 0, none⟩) n ci) low { m with steps := m.steps + 1, fin := 4 } w' := by
  have hsi : (m.steps : Int) ≤ 1000000 := by omega
  have HH := Lib.hid h
  have HBAD := Lib.hid hbad
  have HNI := Lib.hid hni
  clear h hbad hni
  obtain ⟨p, hp⟩ : ∃ p, p = m.pc := ⟨_, rfl⟩
  obtain ⟨m2, hm2⟩ : ∃ m2 : Mach, m2 = { m with steps := m.steps + 1, fin := 4 } := ⟨_, rfl⟩
  rw [← hm2]
  have HM2 := Lib.hid hm2
  have HP := Lib.hid hp
  clear hm2 hp
  go_enter Try.func41, Try.ntmps41
  go_upto_region 0 with fail
  go_cut [] from 12 to 18 (fun wx => RefW W B Fr x g (.slice (some ⟨gc, 0, none⟩) n cc) (.slice (some ⟨gi, 0, none⟩) n ci) low { m with steps := m.steps + 1 } wx ∧ BadAt wx gi n p)
  case first =>
    obtain ⟨ov, hM, hK⟩ := HH.out
    have t24 := hM.tail.2.2.2.2
    have tz := hM.free
    clear hM hK
    go_wp2_with fail
    go_meet
    refine ⟨HH.out.setSteps (m.steps + 1), ⟨?_⟩⟩
    rw [HP.out]
    rcases HBAD.out.bad with h | h | ⟨q, h1, h2, h3⟩
    · exact .inl h
    · exact .inr (.inl h)
    · exact .inr (.inr ⟨q, h1, h2, (World.cell?_of_block (Below.heap_setCell w ⟨x, 24, none⟩ _ gi HNI.out)).trans h3⟩)
  case rest =>
  obtain ⟨hr, hb⟩ := hcut
  have HR := Lib.hid hr
  have HB := Lib.hid hb
  clear hr hb
  go_wp2_with fail
  go_cut [48] from 19 to 48 (fun v48 wx => v48 = .bool true ∧ RefW W B Fr x g (.slice (some ⟨gc, 0, none⟩) n cc) (.slice (some ⟨gi, 0, none⟩) n ci) low { m with steps := m.steps + 1 } wx)
  case first =>
    obtain ⟨ov, hM, hK⟩ := HR.out
    have t0 := hM.head.1
    have t1 := hM.head.2.1
    have t20 : wc.cell? ⟨x, 20, none⟩ = some (.int .i64 p) := by rw [HP.out]; exact hM.tail.1
    clear hM hK
    rcases HB.out.bad with h | h | ⟨q, h1, h2, h3⟩
    · have d1 : decide (p < 0) = true := by simpa using h
      clear h
      go_quiet (fail)
      go_wp2_with fail
      go_meet
      exact ⟨rfl, HR.out.drewN _⟩
    · have h0 : ¬ p < 0 := by omega
      have d1 : decide (p < 0) = false := by simpa using h0
      have d2 : decide ((n : Int) ≤ p) = true := by simpa using h
      clear h h0
      go_quiet (fail)
      go_wp2_with fail
      go_meet
      exact ⟨rfl, HR.out.drewN _⟩
    · subst h1
      have d1 : decide ((q : Int) < 0) = false := by simp
      have d2 : decide ((n : Int) ≤ q) = false := by simp; omega
      have h2i : (q : Int) < n := by omega
      go_quiet (fail)
      go_wp2_with fail
      go_meet
      exact ⟨rfl, HR.out.drewN _⟩
  case rest =>
  obtain ⟨rfl, hr⟩ := hcut
  obtain ⟨ov, hM, hK⟩ := id hr
  have t22 := hM.tail.2.2.1
  have tz := hM.free
  clear HR
  have HR := Lib.hid hr
  clear hM hK hr
  go_wp2_with fail
  refine bodyPost_ret (results_none rfl _ _ _) rfl ?_
  exact ⟨rfl, by rw [HM2.out]; exact HR.out.setFin 4⟩

end Go.Proofs.Ythnehhidlaggeaa
