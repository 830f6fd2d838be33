/- Plain facts: a machine's steps keep it in order. No program in sight. -/
import Derived.Test.YthnehhidlaggeaaMachPlain
namespace Go.Proofs.Ythnehhidlaggeaa.Mc
set_option linter.unusedVariables false
set_option linter.unusedSimpArgs false
open Go.RowKit

theorem getD_set (l : List Int) (i j : Nat) (v : Int) : (l.set i v).getD j 0 = if i = j ∧ i < l.length then v else l.getD j 0 := by
  simp only [List.getD_eq_getElem?_getD, List.getElem?_set]
  by_cases h : i = j
  · subst h
    by_cases h2 : i < l.length
    · simp [h2]
    · simp [h2, List.getElem?_eq_none (Nat.le_of_not_lt h2)]
  · simp [h]
theorem getD_set_in {l : List Int} {i : Nat} {v : Int} (hv : -2147483648 ≤ v ∧ v ≤ 2147483647) (hl : ∀ a : Int, -2147483648 ≤ l.getD a.toNat 0 ∧ l.getD a.toNat 0 ≤ 2147483647) (a : Int) :
    -2147483648 ≤ (l.set i v).getD a.toNat 0 ∧ (l.set i v).getD a.toNat 0 ≤ 2147483647 := by
  rw [getD_set]
  split
  · exact hv
  · exact hl a
theorem Ok.put {m : Mach} (h : Ok m) (low r v : Int) (hv : -2147483648 ≤ v ∧ v ≤ 2147483647) : Ok (put low m r v) :=
  ⟨by simp [Mc.put, h.regs], fun a => getD_set_in hv h.reg_in a, h.word_in, h.mem⟩
theorem Ok.next {m : Mach} (h : Ok m) (p : Int) : Ok (next m p) := by
  unfold Mc.next
  split
  · exact ⟨h.regs, h.reg_in, h.word_in, h.mem⟩
  · exact h
theorem Ok.fin {m : Mach} (h : Ok m) (f : Int) : Ok { m with fin := f } := ⟨h.regs, h.reg_in, h.word_in, h.mem⟩
theorem wop_in {o a b v : Int} (h : Wd.op o a b = some v) (a1 : -2147483648 ≤ a) (a2 : a ≤ 2147483647) : -2147483648 ≤ v ∧ v ≤ 2147483647 := by
  have hb : ∀ n : Int, -2147483648 ≤ IntKind.i32.wrap n ∧ IntKind.i32.wrap n ≤ 2147483647 := by
    intro n; rw [IntKind.wrap_i32]; omega
  have ho : ∀ t, -2147483648 ≤ Wd.one t ∧ Wd.one t ≤ 2147483647 := by intro t; unfold Wd.one; split <;> omega
  rcases Wd.op_cases o with e | e | e | e | e | e | e | e | e | e | e | e | e
  case inr.inr.inr.inr.inr.inr.inr.inr.inr.inr.inr.inr => rw [Wd.op_far o a b e] at h; simp at h
  all_goals subst e
  · obtain rfl : wrap32 (a + b) = v := by simpa [Wd.op] using h
    exact Wd.wrap32_bd _
  · obtain rfl : wrap32 (a - b) = v := by simpa [Wd.op] using h
    exact Wd.wrap32_bd _
  · obtain rfl : wrap32 (a * b) = v := by simpa [Wd.op] using h
    exact Wd.wrap32_bd _
  · obtain rfl : wrap32 (Wd.free a * Wd.free b / 4294967296) = v := by simpa [Wd.op] using h
    exact Wd.wrap32_bd _
  · have h2 : ¬ b = 0 ∧ wrap32 (a.tdiv b) = v := by simpa [Wd.op] using h
    rw [← h2.2]
    exact Wd.wrap32_bd _
  · have h2 : ¬ b = 0 ∧ a.tmod b = v := by simpa [Wd.op] using h
    rw [← h2.2]
    exact Wd.tmod_bd _ _ a1 a2
  · obtain rfl : bits .and .i32 a b = v := by simpa [Wd.op] using h
    exact hb _
  · obtain rfl : bits .or .i32 a b = v := by simpa [Wd.op] using h
    exact hb _
  · obtain rfl : bits .xor .i32 a b = v := by simpa [Wd.op] using h
    exact hb _
  · obtain rfl : Wd.one (decide (a < b)) = v := by simpa [Wd.op] using h
    exact ho _
  · obtain rfl : Wd.one (decide (Wd.free a < Wd.free b)) = v := by simpa [Wd.op] using h
    exact ho _
  · obtain rfl : Wd.one (a == b) = v := by simpa [Wd.op] using h
    exact ho _

/-- an instruction keeps the machine in order -/
theorem Ok.act {m : Mach} (h : Ok m) (n low op a b c i : Int) (i1 : -32768 ≤ i) (i2 : i ≤ 65535) (p0 : 0 ≤ m.pc) (p1 : m.pc < 6000) : Ok (act n low m op a b c i) := by
  have hp : ∀ r v p, (-2147483648 ≤ v ∧ v ≤ 2147483647) → Ok (Mc.next (Mc.put low m r v) p) := fun r v p hv => (h.put low r v hv).next p
  unfold Mc.act
  by_cases e : op = 1
  · rw [if_pos e]
    exact hp _ _ _ (h.reg_in b)
  rw [if_neg e]
  clear e
  by_cases e : op = 2
  · rw [if_pos e]
    exact hp _ _ _ (by omega)
  rw [if_neg e]
  clear e
  by_cases e : op = 3
  · rw [if_pos e]
    exact hp _ _ _ (Wd.wrap32_bd _)
  rw [if_neg e]
  clear e
  by_cases e : op = 16
  · rw [if_pos e]
    exact hp _ _ _ (Wd.wrap32_bd _)
  rw [if_neg e]
  clear e
  by_cases e : op = 17
  · rw [if_pos e]
    by_cases hw : reg m b + i < 0 ∨ (m.words.length : Int) ≤ reg m b + i
    · rw [if_pos hw]; exact h.fin 4
    · rw [if_neg hw]; exact hp _ _ _ (h.word_in _)
  rw [if_neg e]
  clear e
  by_cases e : op = 18
  · rw [if_pos e]
    by_cases hw : reg m b + i < n ∨ (m.words.length : Int) ≤ reg m b + i
    · rw [if_pos hw]; exact h.fin 4
    · rw [if_neg hw]
      refine Ok.next (m := { m with words := m.words.set (reg m b + i).toNat (reg m a) }) ⟨h.regs, h.reg_in, fun x => getD_set_in (h.reg_in a) h.word_in x, ?_⟩ _
      show (m.words.set _ _).length ≤ 16000
      rw [List.length_set]
      exact h.mem
  rw [if_neg e]
  clear e
  by_cases e : op = 19
  · rw [if_pos e]
    exact h.next _
  rw [if_neg e]
  clear e
  by_cases e : op = 20
  · rw [if_pos e]
    exact h.next _
  rw [if_neg e]
  clear e
  by_cases e : op = 21
  · rw [if_pos e]
    exact hp _ _ _ (by omega)
  rw [if_neg e]
  clear e
  by_cases e : op = 22
  · rw [if_pos e]
    exact hp _ _ _ (by omega)
  rw [if_neg e]
  clear e
  by_cases e : op = 23
  · rw [if_pos e]
    exact h.next _
  rw [if_neg e]
  clear e
  by_cases e : op = 24
  · rw [if_pos e]
    exact Ok.next (m := { m with out := m.out ++ [reg m a] }) ⟨h.regs, h.reg_in, h.word_in, h.mem⟩ _
  rw [if_neg e]
  clear e
  by_cases e : op = 25
  · rw [if_pos e]
    exact ⟨h.regs, h.reg_in, h.word_in, h.mem⟩
  rw [if_neg e]
  clear e
  rcases hop : Wd.op (op - 3) (reg m b) (reg m c) with _ | v
  · exact h.fin 2
  · exact hp _ _ _ (wop_in hop (h.reg_in b).1 (h.reg_in b).2)

/-- what a decoded word gives -/
theorem dec_ok {n op a b c i : Int} (h : Cp.dec n = some (op, a, b, c, i)) (h0 : 0 ≤ n) (h1 : n ≤ 4294967295) : Cp.mayE op a b c i = 0 := (Cp.dec_enc n h0 h1 op a b c i h).1

/-- what an instruction leaves as it was: the steps, the length of memory, the words below n; the place, if the machine ends; how much is told -/
structure Same (n : Int) (m m' : Mach) : Prop where
  steps : m'.steps = m.steps
  len : m'.words.length = m.words.length
  low : ∀ k : Nat, (k : Int) < n → m'.words.getD k 0 = m.words.getD k 0
  out : m'.out.length ≤ m.out.length + 1
theorem Same.next {n : Int} {m m' : Mach} (h : Same n m m') (p : Int) : Same n m (Mc.next m' p) := by
  unfold Mc.next
  split
  · exact ⟨h.steps, h.len, h.low, h.out⟩
  · exact h
theorem act_same (n low : Int) (m : Mach) (op a b c i : Int) (hn : 0 ≤ n) : Same n m (act n low m op a b c i) := by
  have h0 : Same n m m := ⟨rfl, rfl, fun _ _ => rfl, by omega⟩
  have hp : ∀ r v p, Same n m (Mc.next (Mc.put low m r v) p) := fun r v p => Same.next (m := m) (m' := Mc.put low m r v) ⟨rfl, rfl, fun _ _ => rfl, Nat.le_succ _⟩ p
  have hf : ∀ f, Same n m { m with fin := f } := fun f => ⟨rfl, rfl, fun _ _ => rfl, Nat.le_succ _⟩
  unfold Mc.act
  by_cases e : op = 1
  · rw [if_pos e]
    exact hp _ _ _
  rw [if_neg e]
  clear e
  by_cases e : op = 2
  · rw [if_pos e]
    exact hp _ _ _
  rw [if_neg e]
  clear e
  by_cases e : op = 3
  · rw [if_pos e]
    exact hp _ _ _
  rw [if_neg e]
  clear e
  by_cases e : op = 16
  · rw [if_pos e]
    exact hp _ _ _
  rw [if_neg e]
  clear e
  by_cases e : op = 17
  · rw [if_pos e]
    by_cases hw : reg m b + i < 0 ∨ (m.words.length : Int) ≤ reg m b + i
    · rw [if_pos hw]; exact hf 4
    · rw [if_neg hw]; exact hp _ _ _
  rw [if_neg e]
  clear e
  by_cases e : op = 18
  · rw [if_pos e]
    by_cases hw : reg m b + i < n ∨ (m.words.length : Int) ≤ reg m b + i
    · rw [if_pos hw]; exact hf 4
    · rw [if_neg hw]
      refine Same.next (m := m) (m' := { m with words := m.words.set (reg m b + i).toNat (reg m a) }) ⟨rfl, by simp, fun k hk => ?_, Nat.le_succ _⟩ _
      show (m.words.set _ _).getD k 0 = _
      rw [getD_set, if_neg (by omega)]
  rw [if_neg e]
  clear e
  by_cases e : op = 19
  · rw [if_pos e]
    exact h0.next _
  rw [if_neg e]
  clear e
  by_cases e : op = 20
  · rw [if_pos e]
    exact h0.next _
  rw [if_neg e]
  clear e
  by_cases e : op = 21
  · rw [if_pos e]
    exact hp _ _ _
  rw [if_neg e]
  clear e
  by_cases e : op = 22
  · rw [if_pos e]
    exact hp _ _ _
  rw [if_neg e]
  clear e
  by_cases e : op = 23
  · rw [if_pos e]
    exact h0.next _
  rw [if_neg e]
  clear e
  by_cases e : op = 24
  · rw [if_pos e]
    exact Same.next (m := m) (m' := { m with out := m.out ++ [reg m a] }) ⟨rfl, rfl, fun _ _ => rfl, by simp⟩ _
  rw [if_neg e]
  clear e
  by_cases e : op = 25
  · rw [if_pos e]
    exact ⟨rfl, rfl, fun _ _ => rfl, Nat.le_succ _⟩
  rw [if_neg e]
  clear e
  rcases hop : Wd.op (op - 3) (reg m b) (reg m c) with _ | v
  · exact hf 2
  · exact hp _ _ _

theorem next_pc {m : Mach} {p : Int} (h : 0 ≤ (Mc.next m p).fin) : (Mc.next m p).pc = m.pc := by
  unfold Mc.next at h ⊢
  split
  · rename_i hlt
    rw [if_pos hlt] at h
    have h2 : (0 : Int) ≤ m.fin := h
    omega
  · rfl
/-- where a machine ends, its place is as it was -/
theorem act_pc (n low : Int) (m : Mach) (op a b c i : Int) (h : 0 ≤ (act n low m op a b c i).fin) : (act n low m op a b c i).pc = m.pc := by
  have hp : ∀ r v p, 0 ≤ (Mc.next (Mc.put low m r v) p).fin → (Mc.next (Mc.put low m r v) p).pc = m.pc := fun r v p h => next_pc h
  unfold Mc.act at h ⊢
  by_cases e : op = 1
  · rw [if_pos e] at h ⊢
    exact hp _ _ _ h
  rw [if_neg e] at h ⊢
  clear e
  by_cases e : op = 2
  · rw [if_pos e] at h ⊢
    exact hp _ _ _ h
  rw [if_neg e] at h ⊢
  clear e
  by_cases e : op = 3
  · rw [if_pos e] at h ⊢
    exact hp _ _ _ h
  rw [if_neg e] at h ⊢
  clear e
  by_cases e : op = 16
  · rw [if_pos e] at h ⊢
    exact hp _ _ _ h
  rw [if_neg e] at h ⊢
  clear e
  by_cases e : op = 17
  · rw [if_pos e] at h ⊢
    by_cases hw : reg m b + i < 0 ∨ (m.words.length : Int) ≤ reg m b + i
    · rw [if_pos hw]
    · rw [if_neg hw] at h ⊢; exact hp _ _ _ h
  rw [if_neg e] at h ⊢
  clear e
  by_cases e : op = 18
  · rw [if_pos e] at h ⊢
    by_cases hw : reg m b + i < n ∨ (m.words.length : Int) ≤ reg m b + i
    · rw [if_pos hw]
    · rw [if_neg hw] at h ⊢
      exact next_pc h
  rw [if_neg e] at h ⊢
  clear e
  by_cases e : op = 19
  · rw [if_pos e] at h ⊢
    exact next_pc h
  rw [if_neg e] at h ⊢
  clear e
  by_cases e : op = 20
  · rw [if_pos e] at h ⊢
    exact next_pc h
  rw [if_neg e] at h ⊢
  clear e
  by_cases e : op = 21
  · rw [if_pos e] at h ⊢
    exact next_pc h
  rw [if_neg e] at h ⊢
  clear e
  by_cases e : op = 22
  · rw [if_pos e] at h ⊢
    exact next_pc h
  rw [if_neg e] at h ⊢
  clear e
  by_cases e : op = 23
  · rw [if_pos e] at h ⊢
    exact next_pc h
  rw [if_neg e] at h ⊢
  clear e
  by_cases e : op = 24
  · rw [if_pos e] at h ⊢
    exact next_pc h
  rw [if_neg e] at h ⊢
  clear e
  by_cases e : op = 25
  · rw [if_pos e]
  rw [if_neg e] at h ⊢
  clear e
  rcases hop : Wd.op (op - 3) (reg m b) (reg m c) with _ | v
  · rfl
  · rw [hop] at h
    exact hp _ _ _ h

end Go.Proofs.Ythnehhidlaggeaa.Mc
