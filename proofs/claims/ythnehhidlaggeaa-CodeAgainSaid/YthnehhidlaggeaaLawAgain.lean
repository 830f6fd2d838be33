/- For every 32 bits that are an instruction's: it has just these: the statement CodeAgain. No conditions. -/
import Derived.Test.YthnehhidlaggeaaDec2
import Derived.Test.YthnehhidlaggeaaEnc
import Derived.Test.YthnehhidlaggeaaPost
import Derived.ProofKit
import Derived.OpenShut
namespace Go.Proofs.Ythnehhidlaggeaa.lawAgain
set_option linter.unusedVariables false
set_option linter.unusedSimpArgs false
open Go.ChangeShapes Go.WideShapes Go.ChangeAt Go.RowKit

theorem known : Cp.dec 419430400 = some (25, 0, 0, 0, 0) := by decide

set_option maxHeartbeats 400000 in
theorem core_none (n : Int) (w : World)
    (hk : ∀ w, Calls Try.prog 11 #[.int .u32 419430400] w fun e w' => e = .returned (.tuple #[.agg #[.int .i64 25, .int .i64 0, .int .i64 0, .int .i64 0, .int .i64 0], .bool true]) ∧ Below w.heap.size w w')
    (hd : ∀ w, Calls Try.prog 11 #[.int .u32 n] w fun e w' => e = .returned (.tuple #[.agg #[.int .i64 0, .int .i64 0, .int .i64 0, .int .i64 0, .int .i64 0], .bool false]) ∧ Below w.heap.size w w') :
    Calls Try.prog 4 #[.int .u32 n] w fun e w' => e = .returned (.bool true) ∧ Below w.heap.size w w' := by
  have HK := Lib.hid hk
  have HD := Lib.hid hd
  clear hd hk
  go_enter Try.func4, Try.ntmps4
  go_wp2_with fail
  refine (HK.out _).mono ?_
  rintro e w1 ⟨rfl, hb1⟩
  go_wp2_with fail
  refine (HD.out _).mono ?_
  rintro e w2 ⟨rfl, hb2⟩
  have hB : Below w.heap.size w w2 := (hb1.alloc hb1.size _).trans (hb2.mono (by simp; have := hb1.size; omega))
  clear hb1 hb2
  go_wp2_with fail
  go_ret
  exact ⟨rfl, hB.alloc hB.size _⟩

set_option maxHeartbeats 400000 in
theorem core_some (n : Int) (w : World) (o a b c i : Int)
    (hk : ∀ w, Calls Try.prog 11 #[.int .u32 419430400] w fun e w' => e = .returned (.tuple #[.agg #[.int .i64 25, .int .i64 0, .int .i64 0, .int .i64 0, .int .i64 0], .bool true]) ∧ Below w.heap.size w w')
    (hd : ∀ w, Calls Try.prog 11 #[.int .u32 n] w fun e w' => e = .returned (.tuple #[.agg #[.int .i64 o, .int .i64 a, .int .i64 b, .int .i64 c, .int .i64 i], .bool true]) ∧ Below w.heap.size w w')
    (he : ∀ w, Calls Try.prog 13 #[.agg #[.int .i64 o, .int .i64 a, .int .i64 b, .int .i64 c, .int .i64 i]] w fun e w' => e = .returned (.tuple #[.int .u32 n, .int .i64 0]) ∧ Below w.heap.size w w') :
    Calls Try.prog 4 #[.int .u32 n] w fun e w' => e = .returned (.bool true) ∧ Below w.heap.size w w' := by
  have HK := Lib.hid hk
  have HD := Lib.hid hd
  have HE := Lib.hid he
  clear hd hk he
  go_enter Try.func4, Try.ntmps4
  go_wp2_with fail
  refine (HK.out _).mono ?_
  rintro e w1 ⟨rfl, hb1⟩
  go_wp2_with fail
  refine (HD.out _).mono ?_
  rintro e w2 ⟨rfl, hb2⟩
  have hB : Below w.heap.size w w2 := (hb1.alloc hb1.size _).trans (hb2.mono (by simp; have := hb1.size; omega))
  clear hb1 hb2
  go_wp2_with fail
  refine (HE.out _).mono ?_
  rintro e w3 ⟨rfl, hb3⟩
  have hC : Below w.heap.size w w3 := (hB.alloc hB.size _).trans (hb3.mono (by simp; have := hB.size; omega))
  clear hB hb3
  go_wp2_with fail
  go_ret
  exact ⟨rfl, hC⟩

theorem walk (n : Int) (w0 : (Lit.int .u32 n).wf = true) (w : World) :
    Calls Try.prog 4 #[.int .u32 n] w fun e w' => e = .returned (.bool true) ∧ Below w.heap.size w w' := by
  have hx : 0 ≤ n ∧ n ≤ 4294967295 := by simpa [Lit.wf, IntKind.min, IntKind.max, IntKind.signed, IntKind.bits] using w0
  have hd := fun w => decode_any n w hx.1 hx.2
  have hk := fun w => decode_any 419430400 w (by omega) (by omega)
  rw [known] at hk
  rcases e : Cp.dec n with _ | ⟨o, a, b, c, i⟩
  · rw [e] at hd
    exact core_none n w hk hd
  · rw [e] at hd
    obtain ⟨hm, hn⟩ := Cp.dec_enc n hx.1 hx.2 o a b c i e
    have hb := Cp.ok_bounds o a b c i hm
    have he := fun w => encode_any o a b c i w (by omega) (by omega)
    rw [hm, if_pos rfl, hn] at he
    exact core_some n w o a b c i hk hd he

theorem own : ownKnob Try.prog.godebug = none := by kernel_rfl

set_option maxRecDepth 100000 in
theorem lifted (os : Os) (started : os.Started) (H : Type) (enc : TypeId × Value → H) :
    ReturnsInHanded {} Try.checked os 4 .any (Rows.codeAgainSpec.pre6 enc Try.prog Try.f4 Rows.codeAgainRow.domain false) (Rows.codeAgainSpec.post enc Try.prog Try.f4 false true false false) := by
  refine returnsInHanded_of_change (C := Try.checked) own started (by kernel_rfl) Try.func4
    (ChangeSpec.witness6 (enc := enc) (C := Try.checked) false ⟨#[], #[.int .u32 0], []⟩ 8 (by kernel_rfl) (by kernel_rfl) (by kernel_rfl) (by kernel_rfl)) ?_
  intro W base args ds gs before hval0 hW hcnd _
  have hval : ∀ (j : Nat) t v, Try.f4.params[j]? = some t → args[j]? = some v → Value.okWide Try.prog W .any base t v := hval0
  have hW' := hW
  obtain ⟨p, q, hA0, hV, rfl, hfz, hnd⟩ := hW
  have hA : DataW.TrodAll enc Try.prog W 0 (fun _ => true) true Try.f4.params.toList args.toList ds p := hA0
  rw [Try.params4] at hA hval
  obtain ⟨v0, vs0, d0, ds0, p0, q0, hargs, rfl, rfl, h0, r0⟩ := trodAll_cons hA
  obtain ⟨rfl, rfl, rfl⟩ := trodAll_nil r0
  obtain rfl : args = #[v0] := by cases args; simp_all
  obtain ⟨rfl, rfl⟩ := trodVars_none hV
  obtain ⟨a0, rfl, rfl, rfl, w0⟩ := open_int Try.underlying22 (hval 0 22 v0 rfl rfl) h0
  clear hA0 hval0
  simp only [List.append_nil] at hW'
  refine (walk a0 w0 W).mono fun e W' ⟨he, hg⟩ => ?_
  subst he
  exact ⟨_, rfl, post_of_below (pa := []) (pv := []) hW' (fun _ _ _ => (trodAll_cons_mk (shut_bool Try.underlying4 _) trodAll_mk0)) (fun sp _ => (trodAll_cons_mk (shut_int Try.underlying22 w0) trodAll_mk0)) (fun _ _ => rfl) rfl
    hg (ok_one (by kernel_rfl) rfl (okWide_bool_mk Try.underlying4 _))⟩

theorem over : Rows.codeAgainRow.holds Try.pinned (OpenSpec.ofChange Rows.codeAgainSpec) :=
  OpenClaim.holds_of_wide 4 Try.f4 rfl rfl rfl rfl rfl rfl rfl ⟨rfl, rfl, rfl, rfl, rfl⟩ rfl rfl rfl rfl rfl (by kernel_rfl) Try.func4 (by kernel_rfl)
    (of_decide_eq_true (by kernel_rfl)) (by unfold Func.isWrapper; first | (rw [if_pos (by decide +kernel)]; kernel_rfl) | (rw [if_neg (by decide +kernel)]; exact ⟨rfl, rfl⟩))
    (fun os started H enc _ => lifted os started H enc)

theorem proved : Rows.CodeAgainSaid :=
  over

end Go.Proofs.Ythnehhidlaggeaa.lawAgain
