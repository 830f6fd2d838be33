/- Plain facts: who has more steps goes on as the other one began. No program in sight. -/
import Derived.Test.YthnehhidlaggeaaMachStep
namespace Go.Proofs.Ythnehhidlaggeaa.Mc
set_option linter.unusedVariables false
set_option linter.unusedSimpArgs false
open Go.RowKit

theorem run_end {n low : Int} {m : Mach} (h : ¬ m.fin < 0) (k : Nat) : run n low k m = m := by
  cases k with
  | zero => rfl
  | succ k => unfold run; rw [if_neg h]
theorem run_add (n low : Int) : ∀ (j k : Nat) (m : Mach), run n low (j + k) m = run n low k (run n low j m)
  | 0, k, m => by rw [Nat.zero_add]; rfl
  | j + 1, k, m => by
    rw [show j + 1 + k = (j + k) + 1 by omega]
    by_cases h : m.fin < 0
    · rw [run, if_pos h, run_add n low j k, run, if_pos h]
    · rw [run_end h, run_end h, run_end h]
theorem next_out (m : Mach) (p : Int) : (Mc.next m p).out = m.out := by unfold Mc.next; split <;> rfl
theorem act_out (n low : Int) (m : Mach) (op a b c i : Int) : m.out <+: (act n low m op a b c i).out := by
  have hp : ∀ r v p, m.out <+: (Mc.next (Mc.put low m r v) p).out := fun r v p => by rw [next_out]; exact List.prefix_refl _
  have hn : ∀ p, m.out <+: (Mc.next m p).out := fun p => by rw [next_out]; exact List.prefix_refl _
  unfold Mc.act
  by_cases e : op = 1
  · rw [if_pos e]
    exact hp _ _ _
  rw [if_neg e]
  clear e
  by_cases e : op = 2
  · rw [if_pos e]
    exact hp _ _ _
  rw [if_neg e]
  clear e
  by_cases e : op = 3
  · rw [if_pos e]
    exact hp _ _ _
  rw [if_neg e]
  clear e
  by_cases e : op = 16
  · rw [if_pos e]
    exact hp _ _ _
  rw [if_neg e]
  clear e
  by_cases e : op = 17
  · rw [if_pos e]
    split
    · exact List.prefix_refl _
    · exact hp _ _ _
  rw [if_neg e]
  clear e
  by_cases e : op = 18
  · rw [if_pos e]
    split
    · exact List.prefix_refl _
    · rw [next_out]
      exact List.prefix_refl _
  rw [if_neg e]
  clear e
  by_cases e : op = 19
  · rw [if_pos e]
    exact hn _
  rw [if_neg e]
  clear e
  by_cases e : op = 20
  · rw [if_pos e]
    exact hn _
  rw [if_neg e]
  clear e
  by_cases e : op = 21
  · rw [if_pos e]
    exact hp _ _ _
  rw [if_neg e]
  clear e
  by_cases e : op = 22
  · rw [if_pos e]
    exact hp _ _ _
  rw [if_neg e]
  clear e
  by_cases e : op = 23
  · rw [if_pos e]
    exact hn _
  rw [if_neg e]
  clear e
  by_cases e : op = 24
  · rw [if_pos e]
    rw [next_out]
    exact List.prefix_append _ _
  rw [if_neg e]
  clear e
  by_cases e : op = 25
  · rw [if_pos e]
    exact List.prefix_refl _
  rw [if_neg e]
  clear e
  rcases hop : Wd.op (op - 3) (reg m b) (reg m c) with _ | v
  · exact List.prefix_refl _
  · exact hp _ _ _
theorem step_out (n low : Int) (m : Mach) : m.out <+: (step n low m).out := by
  unfold Mc.step
  split
  · exact List.prefix_refl _
  · split
    · exact List.prefix_refl _
    · exact act_out n low { m with steps := m.steps + 1 } _ _ _ _ _
theorem run_out (n low : Int) : ∀ (k : Nat) (m : Mach), m.out <+: (run n low k m).out
  | 0, m => List.prefix_refl _
  | k + 1, m => by
    by_cases h : m.fin < 0
    · rw [run, if_pos h]
      exact (step_out n low m).trans (run_out n low k _)
    · rw [run_end h]
      exact List.prefix_refl _
theorem step_steps (n low : Int) (m : Mach) (hn : 0 ≤ n) : (step n low m).steps = m.steps + 1 := by
  unfold Mc.step
  split
  · rfl
  · split
    · rfl
    · exact (act_same n low _ _ _ _ _ _ hn).steps
theorem run_steps (n low : Int) (hn : 0 ≤ n) : ∀ (k : Nat) (m : Mach), m.steps ≤ (run n low k m).steps ∧ ((run n low k m).fin < 0 → (run n low k m).steps = m.steps + k)
  | 0, m => ⟨Nat.le_refl _, fun _ => rfl⟩
  | k + 1, m => by
    by_cases h : m.fin < 0
    · rw [run, if_pos h]
      obtain ⟨h1, h2⟩ := run_steps n low hn k (step n low m)
      have h3 := step_steps n low m hn
      exact ⟨by omega, fun hf => by have := h2 hf; omega⟩
    · rw [run_end h]
      exact ⟨Nat.le_refl _, fun hf => absurd hf h⟩

/-- a machine goes on, or has ended -/
def Fin (m : Mach) : Prop := m.fin = -1 ∨ 1 ≤ m.fin
theorem put_Fin (low : Int) (m : Mach) (r v : Int) : Fin (put low m r v) := by
  unfold Fin put spEnd
  show (if r = 13 then _ else _) = _ ∨ 1 ≤ (if r = 13 then _ else _)
  split
  · split
    · exact .inr (by omega)
    · split
      · exact .inr (by omega)
      · exact .inl rfl
  · exact .inl rfl
theorem Fin.next {m : Mach} (h : Fin m) (p : Int) : Fin (next m p) := by
  unfold Mc.next
  split
  · exact h
  · exact h
theorem act_Fin (n low : Int) (m : Mach) (op a b c i : Int) (h : Fin m) : Fin (act n low m op a b c i) := by
  have hp : ∀ r v p, Fin (Mc.next (Mc.put low m r v) p) := fun r v p => (put_Fin low m r v).next p
  have hf : ∀ f, 1 ≤ f → Fin { m with fin := f } := fun f hf => .inr hf
  unfold Mc.act
  by_cases e : op = 1
  · rw [if_pos e]
    exact hp _ _ _
  rw [if_neg e]
  clear e
  by_cases e : op = 2
  · rw [if_pos e]
    exact hp _ _ _
  rw [if_neg e]
  clear e
  by_cases e : op = 3
  · rw [if_pos e]
    exact hp _ _ _
  rw [if_neg e]
  clear e
  by_cases e : op = 16
  · rw [if_pos e]
    exact hp _ _ _
  rw [if_neg e]
  clear e
  by_cases e : op = 17
  · rw [if_pos e]
    split
    · exact hf 4 (by omega)
    · exact hp _ _ _
  rw [if_neg e]
  clear e
  by_cases e : op = 18
  · rw [if_pos e]
    split
    · exact hf 4 (by omega)
    · exact Fin.next (m := { m with words := m.words.set (reg m b + i).toNat (reg m a) }) h _
  rw [if_neg e]
  clear e
  by_cases e : op = 19
  · rw [if_pos e]
    exact h.next _
  rw [if_neg e]
  clear e
  by_cases e : op = 20
  · rw [if_pos e]
    exact h.next _
  rw [if_neg e]
  clear e
  by_cases e : op = 21
  · rw [if_pos e]
    exact hp _ _ _
  rw [if_neg e]
  clear e
  by_cases e : op = 22
  · rw [if_pos e]
    exact hp _ _ _
  rw [if_neg e]
  clear e
  by_cases e : op = 23
  · rw [if_pos e]
    exact h.next _
  rw [if_neg e]
  clear e
  by_cases e : op = 24
  · rw [if_pos e]
    exact Fin.next (m := { m with out := m.out ++ [reg m a] }) h _
  rw [if_neg e]
  clear e
  by_cases e : op = 25
  · rw [if_pos e]
    exact .inr (by show (1 : Int) ≤ 1; omega)
  rw [if_neg e]
  clear e
  rcases hop : Wd.op (op - 3) (reg m b) (reg m c) with _ | v
  · exact hf 2 (by omega)
  · exact hp _ _ _
theorem step_Fin (n low : Int) (m : Mach) (h : Fin m) : Fin (Mc.step n low m) := by
  unfold Mc.step
  split
  · exact .inr (by show (1 : Int) ≤ 4; omega)
  · split
    · exact .inr (by show (1 : Int) ≤ 4; omega)
    · exact act_Fin n low _ _ _ _ _ _ h

theorem run_Fin (n low : Int) : ∀ (k : Nat) (m : Mach), Fin m → Fin (run n low k m)
  | 0, m, h => h
  | k + 1, m, h => by
    by_cases hf : m.fin < 0
    · rw [run, if_pos hf]
      exact run_Fin n low k _ (step_Fin n low m h)
    · rw [run_end hf]
      exact h

end Go.Proofs.Ythnehhidlaggeaa.Mc
