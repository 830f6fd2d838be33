/- For every image and two fuels: who has more goes on as the other one began, and who has ended stays so: the statement MachineLonger. No conditions. -/
import Derived.Test.YthnehhidlaggeaaLonger
import Derived.Test.YthnehhidlaggeaaImage
namespace Go.Proofs.Ythnehhidlaggeaa.lawLonger
set_option linter.unusedVariables false
set_option linter.unusedSimpArgs false
open Go.ChangeShapes Go.WideShapes Go.ChangeAt Go.RowKit Mc

theorem tells {W : World} {v : Value} {pc pd : Option Addr} {cl dl : List Int} {n kn d kd : Nat} {mem : Int} (h : ImageIn W v pc pd cl dl n kn d kd mem) (hm : mayImage n d mem) (fuel : Int) (f0 : 0 ≤ fuel) (f1 : fuel ≤ 300000) (m : Mach) (he : m = run n (n + d) fuel.toNat (mBegin cl dl mem.toNat)) :
    ∀ w', Below W.heap.size W w' → RunTells Try.prog 14 (.agg #[.slice pc n kn, .slice pd d kd, .int .i64 mem]) fuel (endOf m) m.value m.out m.steps w' := by
  intro w' hb
  have h2 := hm.2.2.1
  obtain ⟨M, rfl⟩ := Int.eq_ofNat_of_zero_le (show 0 ≤ mem by omega)
  obtain ⟨f, rfl⟩ := Int.eq_ofNat_of_zero_le f0
  rw [Int.toNat_natCast, Int.toNat_natCast] at he
  exact mrun_ok pc pd cl dl n kn d kd M f w' h.nl h.ll (h.code.below hb) (h.data.below hb) h.i32 hm (by omega) m he
theorem refuses_no {W : World} {v : Value} {pc pd : Option Addr} {cl dl : List Int} {n kn d kd : Nat} {mem : Int} (h : ImageIn W v pc pd cl dl n kn d kd mem) (hm : ¬ mayImage n d mem) (fuel : Int) :
    ∀ w', RunRefuses Try.prog 14 (.agg #[.slice pc n kn, .slice pd d kd, .int .i64 mem]) fuel 1 w' := by
  intro w'
  exact mrun_err pc pd n kn d kd mem fuel w' 1 (by omega) (fun w'' => ran_no pc pd n kn d kd mem fuel w'' hm)
theorem refuses_range {W : World} {v : Value} {pc pd : Option Addr} {cl dl : List Int} {n kn d kd : Nat} {mem : Int} (h : ImageIn W v pc pd cl dl n kn d kd mem) (hm : mayImage n d mem) (fuel : Int) (hf : fuel < 0 ∨ 300000 < fuel) :
    ∀ w', RunRefuses Try.prog 14 (.agg #[.slice pc n kn, .slice pd d kd, .int .i64 mem]) fuel 6 w' := by
  intro w'
  exact mrun_err pc pd n kn d kd mem fuel w' 6 (by omega) (fun w'' => ran_range pc pd n kn d kd mem fuel w'' hm hf)

theorem walk {W : World} {v : Value} {pc pd : Option Addr} {cl dl : List Int} {n kn d kd : Nat} {mem : Int} (h : ImageIn W v pc pd cl dl n kn d kd mem) (few more : Int) :
    Calls Try.prog 5 #[v, .int .i64 few, .int .i64 more] W fun e w' => e = .returned (.bool true) ∧ Below W.heap.size W w' := by
  obtain rfl := h.val
  by_cases hl : more < few
  · exact longer_less pc pd n kn d kd mem few more W hl
  have hle : few ≤ more := by omega
  by_cases hm : mayImage n d mem
  · by_cases hf : few < 0 ∨ 300000 < few
    · by_cases hg : more < 0 ∨ 300000 < more
      · exact longer_refused pc pd n kn d kd mem few more W hle 6 6 (by omega) (by omega) rfl (refuses_range h hm few hf) (refuses_range h hm more hg)
      · exact longer_first pc pd n kn d kd mem few more W hle 6 (by omega) (by omega) (refuses_range h hm few hf) _ _ _ _ (tells h hm more (by omega) (by omega) _ rfl)
    · by_cases hg : more < 0 ∨ 300000 < more
      · exact longer_second pc pd n kn d kd mem few more W hle 6 (by omega) (by omega) (by omega) _ _ _ _ (tells h hm few (by omega) (by omega) _ rfl) (refuses_range h hm more hg)
      · obtain ⟨ma, hma⟩ : ∃ ma, ma = run n (n + d) few.toNat (mBegin cl dl mem.toNat) := ⟨_, rfl⟩
        obtain ⟨mb, hmb⟩ : ∃ mb, mb = run n (n + d) more.toNat (mBegin cl dl mem.toNat) := ⟨_, rfl⟩
        have hab : mb = run n (n + d) (more.toNat - few.toNat) ma := by
          rw [hma, hmb, ← run_add, show few.toNat + (more.toNat - few.toNat) = more.toNat by omega]
        have hF : Fin ma := by rw [hma]; exact run_Fin n (n + d) _ _ (.inl rfl)
        have ta := tells h hm few (by omega) (by omega) ma hma
        have tb := tells h hm more (by omega) (by omega) mb hmb
        by_cases hfin : ma.fin < 0
        · have hs := (run_steps n (n + d) (by omega) few.toNat (mBegin cl dl mem.toNat)).2 (by rw [← hma]; exact hfin)
          rw [← hma] at hs
          have hs0 : (mBegin cl dl mem.toNat).steps = 0 := rfl
          have hsb := (run_steps n (n + d) (by omega) (more.toNat - few.toNat) ma).1
          rw [← hab] at hsb
          have ho := run_out n (n + d) (more.toNat - few.toNat) ma
          rw [← hab] at ho
          exact longer_more pc pd n kn d kd mem few more W hle (by omega) _ _ _ _ ta _ _ _ _ tb (if_pos hfin) (by omega) hsb ho
        · have he : mb = ma := by rw [hab]; exact run_end hfin _
          have hE : endOf ma ≠ 0 := by
            unfold endOf
            rw [if_neg hfin]
            rcases hF with e | e <;> omega
          rw [he] at tb
          exact longer_ended pc pd n kn d kd mem few more W hle _ _ _ _ ta _ _ _ _ tb hE rfl rfl rfl rfl
  · exact longer_refused pc pd n kn d kd mem few more W hle 1 1 (by omega) (by omega) rfl (refuses_no h hm few) (refuses_no h hm more)

theorem own : ownKnob Try.prog.godebug = none := by kernel_rfl

set_option maxRecDepth 100000 in
theorem lifted (os : Os) (started : os.Started) (H : Type) (enc : TypeId × Value → H) :
    ReturnsInHanded {} Try.checked os 5 .any (Rows.machineLongerSpec.pre6 enc Try.prog Try.f5 Rows.machineLongerRow.domain false) (Rows.machineLongerSpec.post enc Try.prog Try.f5 false true false false) := by
  refine returnsInHanded_of_change (C := Try.checked) own started (by kernel_rfl) Try.func5
    (ChangeSpec.witness6 (enc := enc) (C := Try.checked) false ⟨#[], #[.agg #[.slice none 0 0, .slice none 0 0, .int .i64 0], .int .i64 0, .int .i64 0], []⟩ 8 (by kernel_rfl) (by kernel_rfl) (by kernel_rfl) (by kernel_rfl)) ?_
  intro W base args ds gs before hval0 hW hcnd _
  have hval : ∀ (j : Nat) t v, Try.f5.params[j]? = some t → args[j]? = some v → Value.okWide Try.prog W .any base t v := hval0
  have hW' := hW
  obtain ⟨p, q, hA0, hV, rfl, hfz, hnd⟩ := hW
  have hA : DataW.TrodAll enc Try.prog W 0 (fun _ => true) true Try.f5.params.toList args.toList ds p := hA0
  obtain ⟨rfl, rfl⟩ := trodVars_none hV
  simp only [List.append_nil] at hW'
  have hA2 := hA
  rw [Try.params5] at hA2 hval
  obtain ⟨v0, vs0, d0, ds0, p0, q0, hargs, rfl, rfl, h0, r0⟩ := trodAll_cons hA2
  obtain ⟨v1, vs1, d1, ds1, p1, q1, rfl, rfl, rfl, h1, r1⟩ := trodAll_cons r0
  obtain ⟨v2, vs2, d2, ds2, p2, q2, rfl, rfl, rfl, h2, r2⟩ := trodAll_cons r1
  obtain ⟨rfl, rfl, rfl⟩ := trodAll_nil r2
  obtain rfl : args = #[v0, v1, v2] := by cases args; simp_all
  obtain ⟨pc, pd, cl, dl, n, kn, d, kd, mem, hI⟩ := open_image (hval 0 34 v0 rfl rfl) h0
  obtain ⟨a1, rfl, rfl, rfl, w1⟩ := open_int Try.underlying3 (hval 1 3 v1 rfl rfl) h1
  obtain ⟨a2, rfl, rfl, rfl, w2⟩ := open_int Try.underlying3 (hval 2 3 v2 rfl rfl) h2
  refine (walk hI a1 a2).mono fun e W' ⟨he, hg⟩ => ?_
  subst he
  exact ⟨_, rfl, post_of_args (by kernel_rfl) (by rw [Try.params5]; decide +kernel) hW' hA (fun _ _ _ => (trodAll_cons_mk (shut_bool Try.underlying4 _) trodAll_mk0)) rfl (fun _ => rfl)
    hg (ok_one (by kernel_rfl) rfl (okWide_bool_mk Try.underlying4 _))⟩

theorem over : Rows.machineLongerRow.holds Try.pinned (OpenSpec.ofChange Rows.machineLongerSpec) :=
  OpenClaim.holds_of_wide 5 Try.f5 rfl rfl rfl rfl rfl rfl rfl ⟨rfl, rfl, rfl, rfl, rfl⟩ rfl rfl rfl rfl rfl (by kernel_rfl) Try.func5 (by kernel_rfl)
    (of_decide_eq_true (by kernel_rfl)) (by unfold Func.isWrapper; first | (rw [if_pos (by decide +kernel)]; kernel_rfl) | (rw [if_neg (by decide +kernel)]; exact ⟨rfl, rfl⟩))
    (fun os started H enc _ => lifted os started H enc)

theorem proved : Rows.MachineLongerSaid :=
  over

end Go.Proofs.Ythnehhidlaggeaa.lawLonger
