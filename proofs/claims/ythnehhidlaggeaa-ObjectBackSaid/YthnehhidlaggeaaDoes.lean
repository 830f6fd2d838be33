/- machine.does: what it does, for every instruction. -/
import Derived.Test.YthnehhidlaggeaaDoes1
import Derived.Test.YthnehhidlaggeaaDoes2
import Derived.Test.YthnehhidlaggeaaDoes4
import Derived.Test.YthnehhidlaggeaaDoes5
namespace Go.Proofs.Ythnehhidlaggeaa
set_option linter.unusedVariables false
set_option linter.unusedSimpArgs false
open Go.RowKit Mc

/-- behind an instruction: where the machine is to go on, or what is thrown; its place is as it was -/
def DoesPost (W : World) (B : Nat) (Fr : Nat → Prop) (x g : Nat) (n low : Int) (m m' : Mach) (e : Ending) (w' : World) : Prop :=
  AtW W B Fr x g n low 0 { m' with pc := m.pc } w' ∧ (m'.fin < 0 ∧ e = .returned (.int .i64 m'.pc) ∨ 0 ≤ m'.fin ∧ e = thrown m'.fin)

section
variable {W w' : World} {B : Nat} {Fr : Nat → Prop} {x g : Nat} {n low : Int} {m m' : Mach}
theorem DoesPost.on (hf : m'.fin < 0) (hat : AtW W B Fr x g n low 0 m' w') (hp : m'.pc = m.pc) (p : Int) : DoesPost W B Fr x g n low m (next m' p) (.returned (.int .i64 p)) w' := by
  have e : next m' p = { m' with pc := p } := by unfold next; rw [if_pos hf]
  rw [e]
  refine ⟨?_, .inl ⟨hf, rfl⟩⟩
  rw [← hp]
  exact hat
theorem DoesPost.ends (hf : 0 ≤ m'.fin) (hat : AtW W B Fr x g n low 0 m' w') (hp : m'.pc = m.pc) (p : Int) : DoesPost W B Fr x g n low m (next m' p) (thrown m'.fin) w' := by
  have e : next m' p = m' := by unfold next; rw [if_neg (by omega)]
  rw [e]
  refine ⟨?_, .inr ⟨hf, rfl⟩⟩
  rw [← hp]
  exact hat
theorem DoesPost.stops (f : Int) (hf : 0 ≤ f) (hat : AtW W B Fr x g n low 0 m' w') (hp : m'.pc = m.pc) : DoesPost W B Fr x g n low m { m' with fin := f } (thrown f) w' := by
  refine ⟨?_, .inr ⟨hf, rfl⟩⟩
  rw [← hp]
  exact hat.fin f
end

theorem movh_i (a b c i : Int) (h : Cp.mayE 3 a b c i = 0) : 0 ≤ i := by
  simp [Cp.mayE, Cp.find, Cp.okAll, Cp.okV, Cp.loOf, Cp.hiOf] at h
  omega
theorem put_pc (low : Int) (m : Mach) (r v : Int) : (put low m r v).pc = m.pc := rfl
theorem put_fin (low : Int) (m : Mach) (r v : Int) : (put low m r v).fin < 0 ∨ 0 ≤ (put low m r v).fin := by omega

theorem op_in {o a b v : Int} (h : Wd.op o a b = some v) (a1 : -2147483648 ≤ a) (a2 : a ≤ 2147483647) : -2147483648 ≤ v ∧ v ≤ 2147483647 := by
  have hb : ∀ n : Int, -2147483648 ≤ IntKind.i32.wrap n ∧ IntKind.i32.wrap n ≤ 2147483647 := by
    intro n; rw [IntKind.wrap_i32]; omega
  have ho : ∀ t, -2147483648 ≤ Wd.one t ∧ Wd.one t ≤ 2147483647 := by intro t; unfold Wd.one; split <;> omega
  rcases Wd.op_cases o with e | e | e | e | e | e | e | e | e | e | e | e | e
  case inr.inr.inr.inr.inr.inr.inr.inr.inr.inr.inr.inr => rw [Wd.op_far o a b e] at h; simp at h
  all_goals subst e
  · obtain rfl : wrap32 (a + b) = v := by simpa [Wd.op] using h
    exact Wd.wrap32_bd _
  · obtain rfl : wrap32 (a - b) = v := by simpa [Wd.op] using h
    exact Wd.wrap32_bd _
  · obtain rfl : wrap32 (a * b) = v := by simpa [Wd.op] using h
    exact Wd.wrap32_bd _
  · obtain rfl : wrap32 (Wd.free a * Wd.free b / 4294967296) = v := by simpa [Wd.op] using h
    exact Wd.wrap32_bd _
  · have h2 : ¬ b = 0 ∧ wrap32 (a.tdiv b) = v := by simpa [Wd.op] using h
    rw [← h2.2]
    exact Wd.wrap32_bd _
  · have h2 : ¬ b = 0 ∧ a.tmod b = v := by simpa [Wd.op] using h
    rw [← h2.2]
    exact Wd.tmod_bd _ _ a1 a2
  · obtain rfl : bits .and .i32 a b = v := by simpa [Wd.op] using h
    exact hb _
  · obtain rfl : bits .or .i32 a b = v := by simpa [Wd.op] using h
    exact hb _
  · obtain rfl : bits .xor .i32 a b = v := by simpa [Wd.op] using h
    exact hb _
  · obtain rfl : Wd.one (decide (a < b)) = v := by simpa [Wd.op] using h
    exact ho _
  · obtain rfl : Wd.one (decide (Wd.free a < Wd.free b)) = v := by simpa [Wd.op] using h
    exact ho _
  · obtain rfl : Wd.one (a == b) = v := by simpa [Wd.op] using h
    exact ho _

theorem does_any {W w : World} {B : Nat} {Fr : Nat → Prop} {x g : Nat} {n low : Int} {m : Mach} (h : AtW W B Fr x g n low 0 m w) (ok : Ok m) (op a b c i : Int) (hm : Cp.mayE op a b c i = 0) (p0 : 0 ≤ m.pc) (p1 : m.pc < 6000)
    (hn : 0 ≤ n) (hout : m.out.length ≤ 1000000) (hfin : m.fin < 0) :
    Calls Try.prog 97 #[.pointer (some ⟨x, 0, none⟩), .agg #[.int .i64 op, .int .i64 a, .int .i64 b, .int .i64 c, .int .i64 i]] w (DoesPost W B Fr x g n low m (act n low m op a b c i)) := by
  obtain ⟨o1, o2, a1, a2, b1, b2, c1, c2, i1, i2, _⟩ := Cp.ok_bounds op a b c i hm
  obtain ⟨a, rfl⟩ := Int.eq_ofNat_of_zero_le a1
  obtain ⟨b, rfl⟩ := Int.eq_ofNat_of_zero_le b1
  obtain ⟨c, rfl⟩ := Int.eq_ofNat_of_zero_le c1
  have ha : a < 16 := by omega
  have hb : b < 16 := by omega
  have hc : c < 16 := by omega
  have hlt : m.fin < 0 := by omega
  have cases : op = 1 ∨ op = 2 ∨ op = 3 ∨ (4 ≤ op ∧ op ≤ 15) ∨ op = 16 ∨ op = 17 ∨ op = 18 ∨ op = 19 ∨ op = 20 ∨ op = 21 ∨ op = 22 ∨ op = 23 ∨ op = 24 ∨ op = 25 := by omega
  rcases cases with e | e | e | ⟨e1, e2⟩ | e | e | e | e | e | e | e | e | e | e
  · subst e
    have ea : act n low m 1 a b c i = next (put low m a (reg m b)) (m.pc + 1) := by simp [act]
    rw [ea]
    rcases put_fin low m a (reg m b) with hf | hf
    · exact (does_mov_ok h ok a b c i ha hb hc i1 i2 p0 p1 hf).mono fun e w' ⟨he, hat⟩ => by subst he; exact DoesPost.on hf hat rfl _
    · exact (does_mov_end h ok a b c i ha hb hc i1 i2 p0 p1 hf).mono fun e w' ⟨he, hat⟩ => by subst he; exact DoesPost.ends hf hat rfl _
  · subst e
    have ea : act n low m 2 a b c i = next (put low m a i) (m.pc + 1) := by simp [act]
    rw [ea]
    rcases put_fin low m a i with hf | hf
    · exact (does_movi_ok h ok a b c i ha hb hc i1 i2 p0 p1 hf).mono fun e w' ⟨he, hat⟩ => by subst he; exact DoesPost.on hf hat rfl _
    · exact (does_movi_end h ok a b c i ha hb hc i1 i2 p0 p1 hf).mono fun e w' ⟨he, hat⟩ => by subst he; exact DoesPost.ends hf hat rfl _
  · subst e
    have i0 := movh_i _ _ _ _ hm
    have ea : act n low m 3 a b c i = next (put low m a (wrap32 (i * 65536 + Wd.free (reg m a) % 65536))) (m.pc + 1) := by simp [act]
    rw [ea]
    rcases put_fin low m a (wrap32 (i * 65536 + Wd.free (reg m a) % 65536)) with hf | hf
    · exact (does_movh_ok h ok a b c i ha hb hc i1 i2 p0 p1 hf i0).mono fun e w' ⟨he, hat⟩ => by subst he; exact DoesPost.on hf hat rfl _
    · exact (does_movh_end h ok a b c i ha hb hc i1 i2 p0 p1 hf i0).mono fun e w' ⟨he, hat⟩ => by subst he; exact DoesPost.ends hf hat rfl _
  · have ea : act n low m op a b c i = match Wd.op (op - 3) (reg m b) (reg m c) with
        | none => { m with fin := 2 }
        | some v => next (put low m a v) (m.pc + 1) := by
      unfold act
      iterate 13 (rw [if_neg (by omega)])
      cases Wd.op (op - 3) (reg m b) (reg m c) <;> rfl
    rw [ea]
    rcases hop : Wd.op (op - 3) (reg m b) (reg m c) with _ | v
    · exact (does_op_none op e1 e2 h ok a b c i ha hb hc i1 i2 p0 p1 hop).mono fun e w' ⟨he, hat⟩ => by subst he; exact DoesPost.stops 2 (by omega) hat rfl
    · have vb := op_in hop (ok.reg_in b).1 (ok.reg_in b).2
      rcases put_fin low m a v with hf | hf
      · exact (does_op_ok op e1 e2 h ok a b c i ha hb hc i1 i2 p0 p1 v hop vb hf).mono fun e w' ⟨he, hat⟩ => by subst he; exact DoesPost.on hf hat rfl _
      · exact (does_op_end op e1 e2 h ok a b c i ha hb hc i1 i2 p0 p1 v hop vb hf).mono fun e w' ⟨he, hat⟩ => by subst he; exact DoesPost.ends hf hat rfl _
  · subst e
    have ea : act n low m 16 a b c i = next (put low m a (wrap32 (reg m b + i))) (m.pc + 1) := by simp [act]
    rw [ea]
    rcases put_fin low m a (wrap32 (reg m b + i)) with hf | hf
    · exact (does_addi_ok h ok a b c i ha hb hc i1 i2 p0 p1 hf).mono fun e w' ⟨he, hat⟩ => by subst he; exact DoesPost.on hf hat rfl _
    · exact (does_addi_end h ok a b c i ha hb hc i1 i2 p0 p1 hf).mono fun e w' ⟨he, hat⟩ => by subst he; exact DoesPost.ends hf hat rfl _
  · subst e
    by_cases hw : reg m b + i < 0 ∨ (m.words.length : Int) ≤ reg m b + i
    · have ea : act n low m 17 a b c i = { m with fin := 4 } := by simp [act, hw]
      rw [ea]
      exact (does_load_wrong h ok a b c i ha hb hc i1 i2 p0 p1 hw).mono fun e w' ⟨he, hat⟩ => by subst he; exact DoesPost.stops 4 (by omega) hat rfl
    · have ea : act n low m 17 a b c i = next (put low m a (word m (reg m b + i))) (m.pc + 1) := by simp [act, hw]
      rw [ea]
      rcases put_fin low m a (word m (reg m b + i)) with hf | hf
      · exact (does_load_ok h ok a b c i ha hb hc i1 i2 p0 p1 (by omega) (by omega) hf).mono fun e w' ⟨he, hat⟩ => by subst he; exact DoesPost.on hf hat rfl _
      · exact (does_load_end h ok a b c i ha hb hc i1 i2 p0 p1 (by omega) (by omega) hf).mono fun e w' ⟨he, hat⟩ => by subst he; exact DoesPost.ends hf hat rfl _
  · subst e
    by_cases hw : reg m b + i < n ∨ (m.words.length : Int) ≤ reg m b + i
    · have ea : act n low m 18 a b c i = { m with fin := 4 } := by simp [act, hw]
      rw [ea]
      exact (does_store_wrong h ok a b c i ha hb hc i1 i2 p0 p1 hw).mono fun e w' ⟨he, hat⟩ => by subst he; exact DoesPost.stops 4 (by omega) hat rfl
    · have ea : act n low m 18 a b c i = next { m with words := m.words.set (reg m b + i).toNat (reg m a) } (m.pc + 1) := by simp [act, hw]
      rw [ea]
      exact (does_store_ok h ok a b c i ha hb hc i1 i2 p0 p1 hn (by omega) (by omega)).mono fun e w' ⟨he, hat⟩ => by subst he; exact DoesPost.on (m' := { m with words := m.words.set (reg m b + i).toNat (reg m a) }) hlt hat rfl _
  · subst e
    have ea : act n low m 19 a b c i = next m i := by simp [act]
    rw [ea]
    exact (does_jump h ok a b c i ha hb hc i1 i2 p0 p1).mono fun e w' ⟨he, hat⟩ => by subst he; exact DoesPost.on hlt hat rfl _
  · subst e
    by_cases hz : reg m a = 0
    · have ea : act n low m 20 a b c i = next m i := by simp [act, hz]
      rw [ea]
      exact (does_zero_yes h ok a b c i ha hb hc i1 i2 p0 p1 (by simp [hz])).mono fun e w' ⟨he, hat⟩ => by subst he; exact DoesPost.on hlt hat rfl _
    · have ea : act n low m 20 a b c i = next m (m.pc + 1) := by simp [act, hz]
      rw [ea]
      exact (does_zero_no h ok a b c i ha hb hc i1 i2 p0 p1 (by simp [hz])).mono fun e w' ⟨he, hat⟩ => by subst he; exact DoesPost.on hlt hat rfl _
  · subst e
    have ea : act n low m 21 a b c i = next (put low m 14 (m.pc + 1)) i := by simp [act]
    have hf : (put low m 14 (m.pc + 1)).fin < 0 := by simp [put]
    rw [ea]
    exact (does_call h ok a b c i ha hb hc i1 i2 p0 p1).mono fun e w' ⟨he, hat⟩ => by subst he; exact DoesPost.on hf hat rfl _
  · subst e
    have ea : act n low m 22 a b c i = next (put low m 14 (m.pc + 1)) (reg m a) := by simp [act]
    have hf : (put low m 14 (m.pc + 1)).fin < 0 := by simp [put]
    rw [ea]
    exact (does_callr h ok a b c i ha hb hc i1 i2 p0 p1).mono fun e w' ⟨he, hat⟩ => by subst he; exact DoesPost.on hf hat rfl _
  · subst e
    have ea : act n low m 23 a b c i = next m (reg m a) := by simp [act]
    rw [ea]
    exact (does_jumpr h ok a b c i ha hb hc i1 i2 p0 p1).mono fun e w' ⟨he, hat⟩ => by subst he; exact DoesPost.on hlt hat rfl _
  · subst e
    have ea : act n low m 24 a b c i = next { m with out := m.out ++ [reg m a] } (m.pc + 1) := by simp [act]
    rw [ea]
    exact (does_out h ok a b c i ha hb hc i1 i2 p0 p1 hout).mono fun e w' ⟨he, hat⟩ => by subst he; exact DoesPost.on (m' := { m with out := m.out ++ [reg m a] }) hlt hat rfl _
  · subst e
    have ea : act n low m 25 a b c i = { { m with value := reg m a } with fin := 1 } := by simp [act]
    rw [ea]
    exact (does_exit h ok a b c i ha hb hc i1 i2 p0 p1).mono fun e w' ⟨he, hat⟩ => by subst he; exact DoesPost.stops (m' := { m with value := reg m a }) 1 (by omega) hat rfl

end Go.Proofs.Ythnehhidlaggeaa
