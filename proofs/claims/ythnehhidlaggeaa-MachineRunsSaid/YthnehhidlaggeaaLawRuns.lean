/- For every image and every fuel the program tells how it ends, what it told, and which words its registers have then; or what is wrong: the statement MachineRuns. No conditions. -/
import Derived.Test.YthnehhidlaggeaaRunsTold
import Derived.Test.YthnehhidlaggeaaImage
namespace Go.Proofs.Ythnehhidlaggeaa.lawRuns
set_option linter.unusedVariables false
set_option linter.unusedSimpArgs false
open Go.ChangeShapes Go.WideShapes Go.ChangeAt Go.RowKit Mc

theorem tells {W : World} {v : Value} {pc pd : Option Addr} {cl dl : List Int} {n kn d kd : Nat} {mem : Int} (h : ImageIn W v pc pd cl dl n kn d kd mem) (hm : mayImage n d mem) (fuel : Int) (f0 : 0 ≤ fuel) (f1 : fuel ≤ 300000) (m : Mach) (he : m = run n (n + d) fuel.toNat (mBegin cl dl mem.toNat)) :
    ∀ w', Below W.heap.size W w' → RunTells Try.prog 14 (.agg #[.slice pc n kn, .slice pd d kd, .int .i64 mem]) fuel (endOf m) m.value m.out m.steps w' := by
  intro w' hb
  have h2 := hm.2.2.1
  obtain ⟨M, rfl⟩ := Int.eq_ofNat_of_zero_le (show 0 ≤ mem by omega)
  obtain ⟨f, rfl⟩ := Int.eq_ofNat_of_zero_le f0
  rw [Int.toNat_natCast, Int.toNat_natCast] at he
  exact mrun_ok pc pd cl dl n kn d kd M f w' h.nl h.ll (h.code.below hb) (h.data.below hb) h.i32 hm (by omega) m he
theorem refuses_no {W : World} {v : Value} {pc pd : Option Addr} {cl dl : List Int} {n kn d kd : Nat} {mem : Int} (h : ImageIn W v pc pd cl dl n kn d kd mem) (hm : ¬ mayImage n d mem) (fuel : Int) :
    ∀ w', RunRefuses Try.prog 14 (.agg #[.slice pc n kn, .slice pd d kd, .int .i64 mem]) fuel 1 w' := by
  intro w'
  exact mrun_err pc pd n kn d kd mem fuel w' 1 (by omega) (fun w'' => ran_no pc pd n kn d kd mem fuel w'' hm)
theorem refuses_range {W : World} {v : Value} {pc pd : Option Addr} {cl dl : List Int} {n kn d kd : Nat} {mem : Int} (h : ImageIn W v pc pd cl dl n kn d kd mem) (hm : mayImage n d mem) (fuel : Int) (hf : fuel < 0 ∨ 300000 < fuel) :
    ∀ w', RunRefuses Try.prog 14 (.agg #[.slice pc n kn, .slice pd d kd, .int .i64 mem]) fuel 6 w' := by
  intro w'
  exact mrun_err pc pd n kn d kd mem fuel w' 6 (by omega) (fun w'' => ran_range pc pd n kn d kd mem fuel w'' hm hf)

theorem shows {W : World} {v : Value} {pc pd : Option Addr} {cl dl : List Int} {n kn d kd : Nat} {mem : Int} (h : ImageIn W v pc pd cl dl n kn d kd mem) (hm : mayImage n d mem) (fuel : Int) (f0 : 0 ≤ fuel) (f1 : fuel ≤ 300000) (m : Mach) (he : m = run n (n + d) fuel.toNat (mBegin cl dl mem.toNat)) (CS : List Value) (hcs : CS = m.R.map (Value.int .i32) ++ [Value.int .i64 m.pc]) :
    ∀ w', Below W.heap.size W w' → ShownTells Try.prog 17 (.agg #[.slice pc n kn, .slice pd d kd, .int .i64 mem]) fuel 0 CS w' := by
  intro w' hb
  have h2 := hm.2.2.1
  obtain ⟨M, rfl⟩ := Int.eq_ofNat_of_zero_le (show 0 ≤ mem by omega)
  obtain ⟨f, rfl⟩ := Int.eq_ofNat_of_zero_le f0
  rw [Int.toNat_natCast, Int.toNat_natCast] at he
  have hs := mshown_ok pc pd cl dl n kn d kd M f w' h.nl h.ll (h.code.below hb) (h.data.below hb) h.i32 hm (by omega) m he
  unfold ShownTells
  rw [hcs]
  exact hs
theorem runs {W : World} {v : Value} {pc pd : Option Addr} {cl dl : List Int} {n kn d kd : Nat} {mem : Int} (h : ImageIn W v pc pd cl dl n kn d kd mem) (hm : mayImage n d mem) (fuel : Int) (f0 : 0 ≤ fuel) (f1 : fuel ≤ 300000) (m : Mach) (he : m = run n (n + d) fuel.toNat (mBegin cl dl mem.toNat)) :
    ∀ w', Below W.heap.size W w' → Calls Try.prog 21 #[.agg #[.slice pc n kn, .slice pd d kd, .int .i64 mem], .int .i64 fuel] w' fun e w'' => ∃ x, e = .returned (.pointer (some ⟨x, 0, none⟩)) ∧ RRanAt w' w'' x ((n + d : Nat) : Int) m := by
  intro w' hb
  have h2 := hm.2.2.1
  obtain ⟨M, rfl⟩ := Int.eq_ofNat_of_zero_le (show 0 ≤ mem by omega)
  obtain ⟨f, rfl⟩ := Int.eq_ofNat_of_zero_le f0
  rw [Int.toNat_natCast, Int.toNat_natCast] at he
  have := rrun_any pc pd cl dl n kn d kd M f w' h.nl h.ll (h.code.below hb) (h.data.below hb) h.u32 h.i32 hm (by omega) m he
  exact_mod_cast this
theorem hides {W : World} {v : Value} {pc pd : Option Addr} {cl dl : List Int} {n kn d kd : Nat} {mem : Int} (h : ImageIn W v pc pd cl dl n kn d kd mem) (fuel k : Int) (hk : k ≠ 0)
    (hr : ∀ w', Calls Try.prog 39 #[.agg #[.slice pc n kn, .slice pd d kd, .int .i64 mem], .int .i64 fuel] w' fun e w'' => e = .returned (.tuple #[.pointer none, .int .i64 k]) ∧ Below w'.heap.size w' w'') :
    ∀ w', ShownTells Try.prog 17 (.agg #[.slice pc n kn, .slice pd d kd, .int .i64 mem]) fuel k zeroRegs w' := by
  intro w'
  exact mshown_err pc pd n kn d kd mem fuel w' k hk hr

theorem run_ok {n low : Int} (n0 : 0 ≤ n) (n1 : n ≤ 6000) : ∀ (k : Nat) (m : Mach), Ok m → Ok (run n low k m)
  | 0, _, h => h
  | k + 1, m, h => by
    unfold run
    split
    · exact run_ok n0 n1 k _ (step_ok h n0 n1).1
    · exact h

theorem walk {W : World} {v : Value} {pc pd : Option Addr} {cl dl : List Int} {n kn d kd : Nat} {mem : Int} (h : ImageIn W v pc pd cl dl n kn d kd mem) (fuel : Int) :
    Calls Try.prog 6 #[v, .int .i64 fuel] W fun e w' => e = .returned (.bool true) ∧ Below W.heap.size W w' := by
  obtain rfl := h.val
  by_cases hm : mayImage n d mem
  · by_cases hlo : fuel < 0
    · exact runs_low pc pd n kn d kd mem fuel W hm hlo h.nb h.db h.m1 h.m2 (refuses_range h hm fuel (.inl hlo)) (hides h fuel 6 (by omega) (fun w'' => ran_range pc pd n kn d kd mem fuel w'' hm (.inl hlo)))
    · by_cases hhi : 300000 < fuel
      · exact runs_high pc pd n kn d kd mem fuel W hm hhi h.nb h.db h.m1 h.m2 (refuses_range h hm fuel (.inr hhi)) (hides h fuel 6 (by omega) (fun w'' => ran_range pc pd n kn d kd mem fuel w'' hm (.inr hhi)))
      · obtain ⟨m, he⟩ : ∃ m, m = run n (n + d) fuel.toNat (mBegin cl dl mem.toNat) := ⟨_, rfl⟩
        obtain ⟨CS, hcs⟩ : ∃ CS, CS = m.R.map (Value.int .i32) ++ [Value.int .i64 m.pc] := ⟨_, rfl⟩
        have h16 : m.R.length = 16 := by
          have h1 := hm
          unfold mayImage at h1
          rw [he]
          exact (run_ok (by omega) (by omega) _ _ (mBegin_ok cl dl mem.toNat (by omega) h.i32 (by rw [h.nl, h.ll]; omega))).regs
        exact runs_told pc pd n kn d kd mem fuel W hm hlo hhi h.nb h.db h.m1 h.m2 m _ CS ⟨hcs, h16⟩ (tells h hm fuel (by omega) (by omega) m he) (shows h hm fuel (by omega) (by omega) m he CS hcs) (runs h hm fuel (by omega) (by omega) m he)
  · exact runs_refused pc pd n kn d kd mem fuel W hm h.nb h.db h.m1 h.m2 (refuses_no h hm fuel) (hides h fuel 1 (by omega) (fun w'' => ran_no pc pd n kn d kd mem fuel w'' hm))

theorem own : ownKnob Try.prog.godebug = none := by kernel_rfl

set_option maxRecDepth 100000 in
theorem lifted (os : Os) (started : os.Started) (H : Type) (enc : TypeId × Value → H) :
    ReturnsInHanded {} Try.checked os 6 .any (Rows.machineRunsSpec.pre6 enc Try.prog Try.f6 Rows.machineRunsRow.domain false) (Rows.machineRunsSpec.post enc Try.prog Try.f6 false true false false) := by
  refine returnsInHanded_of_change (C := Try.checked) own started (by kernel_rfl) Try.func6
    (ChangeSpec.witness6 (enc := enc) (C := Try.checked) false ⟨#[], #[.agg #[.slice none 0 0, .slice none 0 0, .int .i64 0], .int .i64 0], []⟩ 8 (by kernel_rfl) (by kernel_rfl) (by kernel_rfl) (by kernel_rfl)) ?_
  intro W base args ds gs before hval0 hW hcnd _
  have hval : ∀ (j : Nat) t v, Try.f6.params[j]? = some t → args[j]? = some v → Value.okWide Try.prog W .any base t v := hval0
  have hW' := hW
  obtain ⟨p, q, hA0, hV, rfl, hfz, hnd⟩ := hW
  have hA : DataW.TrodAll enc Try.prog W 0 (fun _ => true) true Try.f6.params.toList args.toList ds p := hA0
  obtain ⟨rfl, rfl⟩ := trodVars_none hV
  simp only [List.append_nil] at hW'
  have hA2 := hA
  rw [Try.params6] at hA2 hval
  obtain ⟨v0, vs0, d0, ds0, p0, q0, hargs, rfl, rfl, h0, r0⟩ := trodAll_cons hA2
  obtain ⟨v1, vs1, d1, ds1, p1, q1, rfl, rfl, rfl, h1, r1⟩ := trodAll_cons r0
  obtain ⟨rfl, rfl, rfl⟩ := trodAll_nil r1
  obtain rfl : args = #[v0, v1] := by cases args; simp_all
  obtain ⟨pc, pd, cl, dl, n, kn, d, kd, mem, hI⟩ := open_image (hval 0 34 v0 rfl rfl) h0
  obtain ⟨a1, rfl, rfl, rfl, w1⟩ := open_int Try.underlying3 (hval 1 3 v1 rfl rfl) h1
  refine (walk hI a1).mono fun e W' ⟨he, hg⟩ => ?_
  subst he
  exact ⟨_, rfl, post_of_args (by kernel_rfl) (by rw [Try.params6]; decide +kernel) hW' hA (fun _ _ _ => (trodAll_cons_mk (shut_bool Try.underlying4 _) trodAll_mk0)) rfl (fun _ => rfl)
    hg (ok_one (by kernel_rfl) rfl (okWide_bool_mk Try.underlying4 _))⟩

theorem over : Rows.machineRunsRow.holds Try.pinned (OpenSpec.ofChange Rows.machineRunsSpec) :=
  OpenClaim.holds_of_wide 6 Try.f6 rfl rfl rfl rfl rfl rfl rfl ⟨rfl, rfl, rfl, rfl, rfl⟩ rfl rfl rfl rfl rfl (by kernel_rfl) Try.func6 (by kernel_rfl)
    (of_decide_eq_true (by kernel_rfl)) (by unfold Func.isWrapper; first | (rw [if_pos (by decide +kernel)]; kernel_rfl) | (rw [if_neg (by decide +kernel)]; exact ⟨rfl, rfl⟩))
    (fun os started H enc _ => lifted os started H enc)

theorem proved : Rows.MachineRunsSaid :=
  over

end Go.Proofs.Ythnehhidlaggeaa.lawRuns
