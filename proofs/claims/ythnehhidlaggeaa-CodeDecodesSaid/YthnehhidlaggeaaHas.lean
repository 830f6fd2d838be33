/- scarfjointref2.Has, fits: the walks. -/
import Derived.Test.YthnehhidlaggeaaFind
namespace Go.Proofs.Ythnehhidlaggeaa
set_option linter.unusedVariables false
set_option linter.unusedSimpArgs false
open Go.RowKit

set_option maxHeartbeats 400000 in
theorem has_any (s : ByteArray) (c : Int) (t : Bool) (w : World) (hs : s.size ≤ 9223372036854775807) (h0 : 0 ≤ c) (h1 : c < 256) (ht : s.data.toList.contains c.toNat.toUInt8 = t) :
    Calls Try.prog 37 #[.string s, .int .u8 c] w fun e w' => e = .returned (.bool t) ∧ w = w' := by
  have HT := Lib.hid ht
  clear ht
  go_enter Try.func37, Try.ntmps37
  go_wp2_with fail
  go_loopg [5] s.size (fun gk i wr => ∃ k : Nat, k ≤ s.size ∧ gk = s.size - k ∧ i = .int .i64 k ∧ w = wr ∧ ∀ j, j < k → s.data.toList[j]? ≠ some c.toNat.toUInt8)
  case atStart => exact ⟨0, by omega, rfl, rfl, rfl, fun _ h => absurd h (by omega)⟩
  case round =>
    obtain ⟨k, hk, hgk, rfl, rfl, hno⟩ := hrel
    have HG := Lib.hid hgk
    have HN := Lib.hid hno
    clear hgk hno
    by_cases hlt : k < s.size
    · have hb : (s[k].toNat : Int) < 256 := by have := s[k].toNat_lt; omega
      have hg : s.data.toList[k]? = some s[k] := by
        rw [List.getElem?_eq_getElem (by simpa using hlt)]; rfl
      have HG2 := Lib.hid hg
      clear hg
      by_cases he : (s[k].toNat : Int) = c
      · have hte : ((s[k].toNat : Int) == c) = true := by simp [he]
        obtain rfl : t = true := by
          rw [← HT.out, List.contains_iff_mem]
          refine List.mem_of_getElem? (i := k) ?_
          rw [HG2.out, ← he]
          simp
        clear he
        go_wp2_with fail
        go_ret
        exact ⟨rfl, rfl⟩
      · have hte : ((s[k].toNat : Int) == c) = false := by simp [he]
        have HE := Lib.hid he
        clear he
        go_wp2_with fail
        go_roundg (s.size - (k + 1))
        case measure => have := HG.out; omega
        case rel => exact ⟨k + 1, hlt, rfl, by go_num, rfl, fun j hj => by
          by_cases e : j = k
          · subst e
            rw [HG2.out]
            intro hx
            apply HE.out
            have := congrArg (fun o => o.map UInt8.toNat) hx
            simp at this
            omega
          · exact HN.out j (by omega)⟩
    · obtain rfl : t = false := by
        rw [← HT.out, Bool.eq_false_iff]
        intro hc
        rw [List.contains_iff_mem] at hc
        obtain ⟨j, hj⟩ := List.getElem?_of_mem hc
        refine HN.out j ?_ hj
        have := (List.getElem?_eq_some_iff.1 hj).1
        simp at this
        omega
      go_wp2_with fail
      go_ret
      exact ⟨rfl, rfl⟩

end Go.Proofs.Ythnehhidlaggeaa
