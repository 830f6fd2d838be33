/- machine.does: the walks: the operations. -/
import Derived.Test.YthnehhidlaggeaaMat
import Derived.Test.YthnehhidlaggeaaWord
namespace Go.Proofs.Ythnehhidlaggeaa
set_option linter.unusedVariables false
set_option linter.unusedSimpArgs false
open Go.RowKit Mc

set_option maxRecDepth 100000 in
set_option maxHeartbeats 1000000 in
/-- an operation: divided by nought -/
theorem does_op_none (op : Int) (o1 : 4 ≤ op) (o2 : op ≤ 15) {W w : World} {B : Nat} {Fr : Nat → Prop} {x g : Nat} {n low : Int} {m : Mach} (h : AtW W B Fr x g n low 0 m w) (ok : Ok m) (a b c : Nat) (i : Int) (ha : a < 16) (hb : b < 16) (hc : c < 16) (i1 : -32768 ≤ i) (i2 : i ≤ 65535) (p0 : 0 ≤ m.pc) (p1 : m.pc < 6000) (hop : Wd.op (op - 3) (reg m b) (reg m c) = none) :
    Calls Try.prog 97 #[.pointer (some ⟨x, 0, none⟩), .agg #[.int .i64 op, .int .i64 a, .int .i64 b, .int .i64 c, .int .i64 i]] w fun e w' => e = thrown 2 ∧ AtW W B Fr x g n low 0 m w' := by
  have hbi : (b : Int) < 16 := by omega
  have hai : (a : Int) < 16 := by omega
  have hci : (c : Int) < 16 := by omega
  obtain ⟨ov, hM, hBel⟩ := h
  have hlt := hM.lt.1
  have hpc := hM.tail.1
  have cra := hM.reg a ha
  have crb := hM.reg b hb
  have crc := hM.reg c hc
  have ra := ok.reg_in a
  have rb := ok.reg_in b
  have rc := ok.reg_in c
  have H : Hid (AtW W B Fr x g n low 0 m w) := ⟨ov, hM, hBel⟩
  have HM := Lib.hid hM
  have HOK := Lib.hid ok
  have HW : Hid (∀ w', Calls Try.prog 111 #[.int .i64 (op - 3), .int .i32 (reg m b), .int .i32 (reg m c)] w' fun e w'' => e = .returned (.tuple #[.int .i32 0, .bool false]) ∧ ∃ nq, w'' = w'.drewN nq) := by
    intro w'
    have h := wop_any (op - 3) (reg m b) (reg m c) w' rb.1 rb.2 rc.1 rc.2
    unfold Wd.opV at h
    rw [hop] at h
    exact h
  clear hop
  clear hM hBel ok
  go_enter Try.func97, Try.ntmps97
  go_wp2_with fail
  go_quiet ((go_at_call 111; exact Calls.quiet_of (HW.out _)))
  go_wp2_with fail
  exact ⟨rfl, rfl, (H.out.alloc _).below (below_drewN (Below.refl _ _) _)⟩

set_option maxRecDepth 100000 in
set_option maxHeartbeats 1000000 in
/-- an operation ok -/
theorem does_op_ok (op : Int) (o1 : 4 ≤ op) (o2 : op ≤ 15) {W w : World} {B : Nat} {Fr : Nat → Prop} {x g : Nat} {n low : Int} {m : Mach} (h : AtW W B Fr x g n low 0 m w) (ok : Ok m) (a b c : Nat) (i : Int) (ha : a < 16) (hb : b < 16) (hc : c < 16) (i1 : -32768 ≤ i) (i2 : i ≤ 65535) (p0 : 0 ≤ m.pc) (p1 : m.pc < 6000) (v : Int) (hop : Wd.op (op - 3) (reg m b) (reg m c) = some v) (vb : -2147483648 ≤ v ∧ v ≤ 2147483647) (hf : (put low m a v).fin < 0) :
    Calls Try.prog 97 #[.pointer (some ⟨x, 0, none⟩), .agg #[.int .i64 op, .int .i64 a, .int .i64 b, .int .i64 c, .int .i64 i]] w fun e w' => e = .returned (.int .i64 (m.pc + 1)) ∧ AtW W B Fr x g n low 0 (put low m a v) w' := by
  have hbi : (b : Int) < 16 := by omega
  have hai : (a : Int) < 16 := by omega
  have hci : (c : Int) < 16 := by omega
  obtain ⟨ov, hM, hBel⟩ := h
  have hlt := hM.lt.1
  have hpc := hM.tail.1
  have cra := hM.reg a ha
  have crb := hM.reg b hb
  have crc := hM.reg c hc
  have ra := ok.reg_in a
  have rb := ok.reg_in b
  have rc := ok.reg_in c
  have H : Hid (AtW W B Fr x g n low 0 m w) := ⟨ov, hM, hBel⟩
  have HM := Lib.hid hM
  have HOK := Lib.hid ok
  have HW : Hid (∀ w', Calls Try.prog 111 #[.int .i64 (op - 3), .int .i32 (reg m b), .int .i32 (reg m c)] w' fun e w'' => e = .returned (.tuple #[.int .i32 v, .bool true]) ∧ ∃ nq, w'' = w'.drewN nq) := by
    intro w'
    have h := wop_any (op - 3) (reg m b) (reg m c) w' rb.1 rb.2 rc.1 rc.2
    unfold Wd.opV at h
    rw [hop] at h
    exact h
  clear hop
  have HG : Hid (∀ w', AtW W B Fr x g n low 0 m w' → Calls Try.prog 109 #[.pointer (some ⟨x, 0, none⟩), .int .i64 a, .int .i32 v] w' fun e w'' => e = .returned (.tuple #[]) ∧ AtW W B Fr x g n low 0 (put low m a v) w'' ∧ w'.grownBy w'' (some x)) :=
    fun w' hw => give_ok hw a v (by omega) vb.1 vb.2 hf
  clear hf vb
  obtain ⟨E, hE⟩ : ∃ E, E = put low m a v := ⟨_, rfl⟩
  rw [← hE] at HG ⊢
  clear hE
  clear hM hBel ok
  go_enter Try.func97, Try.ntmps97
  go_wp2_with fail
  go_quiet ((go_at_call 111; exact Calls.quiet_of (HW.out _)))
  go_wp2_with fail
  refine (HG.out _ ((H.out.alloc _).below (below_drewN (Below.refl _ _) _))).mono ?_
  rintro e w2 ⟨rfl, hat, hgr⟩
  go_wp2_with fail
  go_ret
  exact ⟨rfl, hat⟩

set_option maxRecDepth 100000 in
set_option maxHeartbeats 1000000 in
/-- an operation end -/
theorem does_op_end (op : Int) (o1 : 4 ≤ op) (o2 : op ≤ 15) {W w : World} {B : Nat} {Fr : Nat → Prop} {x g : Nat} {n low : Int} {m : Mach} (h : AtW W B Fr x g n low 0 m w) (ok : Ok m) (a b c : Nat) (i : Int) (ha : a < 16) (hb : b < 16) (hc : c < 16) (i1 : -32768 ≤ i) (i2 : i ≤ 65535) (p0 : 0 ≤ m.pc) (p1 : m.pc < 6000) (v : Int) (hop : Wd.op (op - 3) (reg m b) (reg m c) = some v) (vb : -2147483648 ≤ v ∧ v ≤ 2147483647) (hf : 0 ≤ (put low m a v).fin) :
    Calls Try.prog 97 #[.pointer (some ⟨x, 0, none⟩), .agg #[.int .i64 op, .int .i64 a, .int .i64 b, .int .i64 c, .int .i64 i]] w fun e w' => e = thrown (put low m a v).fin ∧ AtW W B Fr x g n low 0 (put low m a v) w' := by
  have hbi : (b : Int) < 16 := by omega
  have hai : (a : Int) < 16 := by omega
  have hci : (c : Int) < 16 := by omega
  obtain ⟨ov, hM, hBel⟩ := h
  have hlt := hM.lt.1
  have hpc := hM.tail.1
  have cra := hM.reg a ha
  have crb := hM.reg b hb
  have crc := hM.reg c hc
  have ra := ok.reg_in a
  have rb := ok.reg_in b
  have rc := ok.reg_in c
  have H : Hid (AtW W B Fr x g n low 0 m w) := ⟨ov, hM, hBel⟩
  have HM := Lib.hid hM
  have HOK := Lib.hid ok
  have HW : Hid (∀ w', Calls Try.prog 111 #[.int .i64 (op - 3), .int .i32 (reg m b), .int .i32 (reg m c)] w' fun e w'' => e = .returned (.tuple #[.int .i32 v, .bool true]) ∧ ∃ nq, w'' = w'.drewN nq) := by
    intro w'
    have h := wop_any (op - 3) (reg m b) (reg m c) w' rb.1 rb.2 rc.1 rc.2
    unfold Wd.opV at h
    rw [hop] at h
    exact h
  clear hop
  have HG : Hid (∀ w', AtW W B Fr x g n low 0 m w' → Calls Try.prog 109 #[.pointer (some ⟨x, 0, none⟩), .int .i64 a, .int .i32 v] w' fun e w'' => e = .panicked [{ v := .iface 177 (.agg #[.int .i64 (put low m a v).fin]), recovered := false }] ∧ AtW W B Fr x g n low 0 (put low m a v) w'') :=
    fun w' hw => give_ends hw a v (by omega) vb.1 vb.2 hf
  clear hf vb
  obtain ⟨E, hE⟩ : ∃ E, E = put low m a v := ⟨_, rfl⟩
  rw [← hE] at HG ⊢
  clear hE
  clear hM hBel ok
  go_enter Try.func97, Try.ntmps97
  go_wp2_with fail
  go_quiet ((go_at_call 111; exact Calls.quiet_of (HW.out _)))
  go_wp2_with fail
  refine (HG.out _ ((H.out.alloc _).below (below_drewN (Below.refl _ _) _))).mono ?_
  rintro e w2 ⟨rfl, hat⟩
  go_wp2_with fail
  exact ⟨rfl, rfl, hat⟩

end Go.Proofs.Ythnehhidlaggeaa
