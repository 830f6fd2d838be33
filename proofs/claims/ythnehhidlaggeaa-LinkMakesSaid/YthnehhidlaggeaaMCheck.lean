/- machine.Check: may an image be? -/
import Derived.Test.YthnehhidlaggeaaMkit
import Derived.BigQuiet
namespace Go.Proofs.Ythnehhidlaggeaa
set_option linter.unusedVariables false
set_option linter.unusedSimpArgs false
open Go.RowKit

def mayImage (n d : Nat) (mem : Int) : Prop := 1 ≤ n ∧ n ≤ 6000 ∧ 32 ≤ mem ∧ mem ≤ 16000 ∧ d ≤ mem ∧ (n : Int) + d ≤ mem - 16
instance (n d : Nat) (mem : Int) : Decidable (mayImage n d mem) := by unfold mayImage; infer_instance

set_option maxHeartbeats 2000000 in
theorem mcheck_any (pc pd : Option Addr) (n kn d kd : Nat) (mem : Int) (w : World) :
    Calls Try.prog 18 #[.agg #[.slice pc n kn, .slice pd d kd, .int .i64 mem]] w fun e w' => ∃ k : Int, e = .returned (.int .i64 k) ∧ (mayImage n d mem ∧ k = 0 ∨ ¬ mayImage n d mem ∧ k = 1) ∧ w' = w.alloc (.cells #[.slice pc n kn, .slice pd d kd, .int .i64 mem] 34) := by
  go_enter Try.func18, Try.ntmps18
  go_wp2_with fail
  all_goals go_ret
  all_goals refine ⟨_, rfl, ?_, rfl⟩
  all_goals (try simp only [Bool.or_eq_true, decide_eq_true_eq, Bool.or_eq_false_iff, decide_eq_false_iff_not] at *)
  all_goals first
    | (refine .inl ⟨?_, by trivial⟩; unfold mayImage; omega)
    | (refine .inr ⟨?_, by trivial⟩; unfold mayImage; omega)

end Go.Proofs.Ythnehhidlaggeaa

/-! The reference's May: may an image be? -/
namespace Go.Proofs.Ythnehhidlaggeaa
set_option linter.unusedVariables false
set_option linter.unusedSimpArgs false
open Go.RowKit

def MayE (n d : Nat) (mem : Int) (e : Ending) : Prop := ∃ t : Bool, e = .returned (.bool t) ∧ (mayImage n d mem ↔ t = true)

set_option maxHeartbeats 2000000 in
theorem rmay_any (pc pd : Option Addr) (n kn d kd : Nat) (mem : Int) (w : World) (hn : n ≤ 9223372036854775807) (hd : d ≤ 9223372036854775807) (m1 : -9223372036854775808 ≤ mem) (m2 : mem ≤ 9223372036854775807) :
    Calls Try.prog 19 #[.agg #[.slice pc n kn, .slice pd d kd, .int .i64 mem]] w fun e w' => MayE n d mem e ∧ w' = w.alloc (.cells #[.slice pc n kn, .slice pd d kd, .int .i64 mem] 34) := by
  go_enter Try.func19, Try.ntmps19
  go_wp2_with fail
  all_goals go_ret
  all_goals refine ⟨⟨_, rfl, ?_⟩, rfl⟩
  all_goals (try simp only [Bool.or_eq_true, decide_eq_true_eq, Bool.or_eq_false_iff, decide_eq_false_iff_not] at *)
  all_goals unfold mayImage
  all_goals first
    | (simp; omega)
    | (simp only [decide_eq_true_eq]; omega)
    | (constructor <;> intro h <;> first | omega | (simp at h; done) | (simp at h ⊢; omega))

theorem mcheck_yes (pc pd : Option Addr) (n kn d kd : Nat) (mem : Int) (w : World) (h : mayImage n d mem) :
    Calls Try.prog 18 #[.agg #[.slice pc n kn, .slice pd d kd, .int .i64 mem]] w fun e w' => e = .returned (.int .i64 0) ∧ w.alloc (.cells #[.slice pc n kn, .slice pd d kd, .int .i64 mem] 34) = w' := by
  refine (mcheck_any pc pd n kn d kd mem w).mono ?_
  rintro e w' ⟨k, rfl, ⟨_, rfl⟩ | ⟨h', _⟩, rfl⟩
  · exact ⟨rfl, rfl⟩
  · exact absurd h h'
theorem mcheck_no (pc pd : Option Addr) (n kn d kd : Nat) (mem : Int) (w : World) (h : ¬ mayImage n d mem) :
    Calls Try.prog 18 #[.agg #[.slice pc n kn, .slice pd d kd, .int .i64 mem]] w fun e w' => e = .returned (.int .i64 1) ∧ w.alloc (.cells #[.slice pc n kn, .slice pd d kd, .int .i64 mem] 34) = w' := by
  refine (mcheck_any pc pd n kn d kd mem w).mono ?_
  rintro e w' ⟨k, rfl, ⟨h', _⟩ | ⟨_, rfl⟩, rfl⟩
  · exact absurd h' h
  · exact ⟨rfl, rfl⟩

end Go.Proofs.Ythnehhidlaggeaa
