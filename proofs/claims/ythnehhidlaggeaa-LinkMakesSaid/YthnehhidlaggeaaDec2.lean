/- code.Decode: what it tells, for every word. -/
import Derived.Test.YthnehhidlaggeaaDec
namespace Go.Proofs.Ythnehhidlaggeaa
set_option linter.unusedVariables false
set_option linter.unusedSimpArgs false
open Go.RowKit

theorem decode_any (n : Int) (w : World) (h0 : 0 ≤ n) (h1 : n ≤ 4294967295) :
    Calls Try.prog 11 #[.int .u32 n] w fun e w' => e = .returned (.tuple #[Cp.decV (Cp.dec n), .bool (Cp.dec n).isSome]) ∧ Below w.heap.size w w' := by
  have ho := fun w => of_any (n / 16777216) w (by omega) (by omega)
  have hm := fun (c i : Int) (w : World) => may_any (n / 16777216) (n / 1048576 % 16) (n / 65536 % 16) c i w (by omega) (by omega)
  rcases hf : Cp.find (n / 16777216) with _ | ⟨nm, f, s⟩
  · have e : Cp.dec n = none := by unfold Cp.dec; rw [hf]
    rw [e]
    have hv : Cp.formV (n / 16777216) = .agg #[.string ⟨#[]⟩, .string ⟨#[]⟩, .int .i64 0, .int .i64 0] := by unfold Cp.formV; rw [hf]
    rw [hv, hf] at ho
    exact decode_none n w h0 h1 (.bool false) ho
  · have hv : Cp.formV (n / 16777216) = .agg #[.string ⟨nm.toArray⟩, .string ⟨f.toArray⟩, .int .i64 (Cp.loOf s), .int .i64 (Cp.hiOf s)] := by unfold Cp.formV; rw [hf]; rfl
    rw [hv, hf] at ho
    rw [hv] at hm
    have hlo : Cp.loOf s < 0 ↔ s = true := by cases s <;> simp [Cp.loOf]
    have hE : ∀ c i, Cp.mayE (n / 16777216) (n / 1048576 % 16) (n / 65536 % 16) c i = 0 ∨ Cp.mayE (n / 16777216) (n / 1048576 % 16) (n / 65536 % 16) c i = 6 := by
      intro c i
      unfold Cp.mayE
      rw [hf]
      simp only
      split <;> simp
    have hd : Cp.dec n = if Cp.mayE (n / 16777216) (n / 1048576 % 16) (n / 65536 % 16) (Cp.decC f n) (Cp.decI f s n) = 0 then
      some (n / 16777216, n / 1048576 % 16, n / 65536 % 16, Cp.decC f n, Cp.decI f s n) else none := by unfold Cp.dec; rw [hf]
    have hm' := hm (Cp.decC f n) (Cp.decI f s n)
    have hE' := hE (Cp.decC f n) (Cp.decI f s n)
    clear hm hE
    cases hF : f.contains 73 with
    | false =>
      have hc : Cp.decC f n = n % 65536 := by unfold Cp.decC; rw [hF]; rfl
      have hi : Cp.decI f s n = 0 := by unfold Cp.decI; rw [hF]; rfl
      rw [hc, hi] at hm' hE' hd
      rcases hE' with e | e
      · rw [e] at hm' hd
        rw [hd]
        exact decode_C0 n w h0 h1 _ _ _ _ ho (by simpa using hF) hm'
      · rw [e] at hm' hd
        rw [hd]
        exact decode_C6 n w h0 h1 _ _ _ _ ho (by simpa using hF) hm'
    | true =>
      have hc : Cp.decC f n = 0 := by unfold Cp.decC; rw [hF]; rfl
      rw [hc] at hm' hE' hd
      cases s with
      | true =>
        have hw : IntKind.i16.wrap (n % 65536) = Cp.decI f true n := by
          unfold Cp.decI
          rw [hF]
          simp only [if_true]
          split
          · exact Cp.wrap16_high _ (by omega) (by omega)
          · exact Cp.wrap16_low _ (by omega) (by omega)
        have hb : -32768 ≤ Cp.decI f true n ∧ Cp.decI f true n ≤ 32767 := by
          unfold Cp.decI
          rw [hF]
          simp only [if_true]
          split <;> omega
        rcases hE' with e | e
        · rw [e] at hm' hd
          rw [hd]
          exact decode_S0 n w h0 h1 _ _ _ _ (by decide) _ ho (by simpa using hF) hw hb.1 hb.2 hm'
        · rw [e] at hm' hd
          rw [hd]
          exact decode_S6 n w h0 h1 _ _ _ _ (by decide) _ ho (by simpa using hF) hw hb.1 hb.2 hm'
      | false =>
        have hi : Cp.decI f false n = n % 65536 := by unfold Cp.decI; rw [hF]; rfl
        rw [hi] at hm' hE' hd
        rcases hE' with e | e
        · rw [e] at hm' hd
          rw [hd]
          exact decode_U0 n w h0 h1 _ _ _ _ (by decide) ho (by simpa using hF) hm'
        · rw [e] at hm' hd
          rw [hd]
          exact decode_U6 n w h0 h1 _ _ _ _ (by decide) ho (by simpa using hF) hm'

end Go.Proofs.Ythnehhidlaggeaa
