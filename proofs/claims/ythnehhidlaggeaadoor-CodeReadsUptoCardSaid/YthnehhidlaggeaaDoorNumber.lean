/- scarfjointref2.number: the walk. -/
import Derived.Test.YthnehhidlaggeaaDoorDigits
import Derived.Test.YthnehhidlaggeaaDoorNumPlain
import Derived.Deep.LoopGhost
import Derived.Outline
namespace Go.Proofs.YthnehhidlaggeaaDoor
set_option linter.unusedVariables false
set_option linter.unusedSimpArgs false
open Go.RowKit

theorem ret3 {a a' b b' : Int} {t t' : Bool} (h1 : a = a') (h2 : b = b') (h3 : t = t') : Ending.returned (.tuple #[.int .i64 a, .int .i64 b, .bool t]) = .returned (.tuple #[.int .i64 a', .int .i64 b', .bool t']) := by rw [h1, h2, h3]
set_option maxRecDepth 100000 in
set_option maxHeartbeats 1000000 in
theorem number_any (s : ByteArray) (hs : s.size ≤ 1048576) (p : Nat) (hp : p ≤ s.size) (w : World) :
    Calls Tryd.prog 25 #[.string s, .int .i64 p] w fun e w' => e = .returned (.tuple #[.int .i64 (Cp.dVal (s.data.toList.drop p) (Cp.dRun 6 (s.data.toList.drop p))), .int .i64 ((p + Cp.dRun 6 (s.data.toList.drop p) : Nat) : Int), .bool (decide (0 < Cp.dRun 6 (s.data.toList.drop p)))]) ∧ w = w' := by
  obtain ⟨l, hl⟩ : ∃ l, l = s.data.toList.drop p := ⟨_, rfl⟩
  have hll : l.length = s.size - p := by rw [hl, List.length_drop, Array.length_toList]; rfl
  have hget : ∀ j c, l[j]? = some c → ∃ h : p + j < s.size, s[p + j] = c := fun j c h => by
    rw [hl, List.getElem?_drop] at h
    obtain ⟨h1, h2⟩ := List.getElem?_eq_some_iff.1 h
    exact ⟨by simpa using h1, h2⟩
  rw [← hl]
  obtain ⟨K, hK⟩ : ∃ K, K = Cp.dRun 6 l := ⟨_, rfl⟩
  have hin := Cp.dRun_in 6 l
  have hend := Cp.dRun_end 6 l
  have hle := Cp.dRun_le 6 l
  rw [← hK] at hin hend hle ⊢
  have hval := fun j (hj : j ≤ K) => Cp.dVal_lt l j (fun i hi => hin i (by omega))
  have hpow : ∀ j, j ≤ 6 → (10 : Nat) ^ j ≤ 1000000 := fun j hj => by
    have : (10 : Nat) ^ j ≤ 10 ^ 6 := Nat.pow_le_pow_right (by decide) hj
    omega
  have HLL := Lib.hid hll
  have HGET := Lib.hid hget
  have HIN := Lib.hid hin
  have HEND := Lib.hid hend
  have HVAL := Lib.hid hval
  have HPOW := Lib.hid hpow
  have hK6 : K ≤ 6 := hle.1
  clear hl hll hget hK hin hend hle hval hpow
  go_enter Tryd.func25, Tryd.ntmps25
  go_wp2_with fail
  go_loopg [1, 7] K (fun gk va vn wr => ∃ j q v : Nat, j ≤ K ∧ gk = K - j ∧ q = p + j ∧ v = Cp.dVal l j ∧ va = .int .i64 q ∧ vn = .int .i64 v ∧ wr = w)
  case atStart => exact ⟨0, p, 0, by omega, rfl, rfl, rfl, rfl, rfl, rfl⟩
  case round =>
    obtain ⟨j, q, v, hj, hg, hq, hv, rfl, rfl, rfl⟩ := hrel
    have HG := Lib.hid hg
    have hv6 : v ≤ 999999 := by
      have h1 := HVAL.out j hj
      have h2 := HPOW.out j (by omega)
      omega
    have hpq : p ≤ q := by omega
    have hqs : q ≤ p + 6 := by omega
    have HQ := Lib.hid hq
    have HV := Lib.hid hv
    have hsub : IntKind.i64.wrap ((q : Int) - p) = (q : Int) - p := IntWalk.i64_in _ (by omega)
    clear hg hq hv
    by_cases hlt : j < K
    · obtain ⟨c, hc, hd⟩ := HIN.out j hlt
      obtain ⟨hqz, hsq⟩ := HGET.out j c hc
      have HQZ : Hid (q < s.size) := Lib.hid (by rw [HQ.out]; exact hqz)
      have hqz' := HQZ.out
      have hsx : s[q] = c := by have := HQ.out; subst this; exact hsq
      unfold Cp.isD at hd
      simp only [Bool.and_eq_true, decide_eq_true_eq] at hd
      obtain ⟨hd1, hd2⟩ := hd
      obtain ⟨d, hdd⟩ : ∃ d : Nat, d = c.toNat := ⟨_, rfl⟩
      have hsd : s[q].toNat = d := by rw [hsx, hdd]
      rw [← hdd] at hd1 hd2
      have hq6 : (q : Int) - p < 6 := by have := HQ.out; omega
      have hu8 : IntKind.u8.wrap ((d : Int) - 48) = (d : Int) - 48 := IntWalk.u8_in _ (by omega)
      have hnext : Hid (10 * v + (d - 48) = Cp.dVal l (j + 1)) := Lib.hid (by rw [Cp.dVal_succ l j c hc, HV.out, hdd])
      clear hsq hsx hc hdd hqz
      go_wp2_with fail
      go_roundg (K - (j + 1))
      case measure => have := HG.out; omega
      case rel => exact ⟨j + 1, q + 1, 10 * v + (d - 48), hlt, rfl, by have := HQ.out; omega, hnext.out, by go_num, by congr 1; omega, rfl⟩
    · obtain rfl : j = K := by omega
      have hfin : Hid (decide (p < q) = decide (0 < j) ∧ (q : Int) = ((p + j : Nat) : Int) ∧ (v : Int) = ((Cp.dVal l j : Nat) : Int)) := Lib.hid (by
        have h1 := HQ.out
        refine ⟨?_, by omega, by rw [HV.out]⟩
        by_cases h : 0 < j
        · rw [decide_eq_true h, decide_eq_true (by omega)]
        · rw [decide_eq_false h, decide_eq_false (by omega)])
      by_cases hqz : q < s.size
      · obtain ⟨d, hsd⟩ : ∃ d : Nat, d = s[q].toNat := ⟨_, rfl⟩
        have hout : ¬ (48 ≤ d ∧ d ≤ 57 ∧ (q : Int) - p < 6) := by
          rintro ⟨h1, h2, h3⟩
          rcases HEND.out with h | h | ⟨c, hc, hd⟩
          · have := HQ.out; omega
          · have := HLL.out; have := HQ.out; omega
          · obtain ⟨_, h5⟩ := HGET.out j c hc
            have h6 : s[q] = c := by have := HQ.out; subst this; exact h5
            rw [h6] at hsd
            unfold Cp.isD at hd
            simp only [Bool.and_eq_false_iff, decide_eq_false_iff_not] at hd
            omega
        have hsd' : s[q].toNat = d := hsd.symm
        clear hsd
        by_cases h1 : 48 ≤ d
        · by_cases h2 : d ≤ 57
          · have h3 : ¬ ((q : Int) - p < 6) := fun h3 => hout ⟨h1, h2, h3⟩
            clear hout
            go_wp2_with fail
            go_ret3
            obtain ⟨e1, e2, e3⟩ := hfin.out
            exact ⟨ret3 e3 (by omega) e1, rfl⟩
          · clear hout
            go_wp2_with fail
            go_ret3
            obtain ⟨e1, e2, e3⟩ := hfin.out
            exact ⟨ret3 e3 (by omega) e1, rfl⟩
        · clear hout
          go_wp2_with fail
          go_ret3
          obtain ⟨e1, e2, e3⟩ := hfin.out
          exact ⟨ret3 e3 (by omega) e1, rfl⟩
      · go_wp2_with fail
        go_ret3
        obtain ⟨e1, e2, e3⟩ := hfin.out
        exact ⟨ret3 e3 (by omega) e1, rfl⟩

end Go.Proofs.YthnehhidlaggeaaDoor
