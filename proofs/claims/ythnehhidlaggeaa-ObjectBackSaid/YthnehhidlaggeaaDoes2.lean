/- machine.does: the walks, an instruction each: jumps, calls, what is told, the operations. -/
import Derived.Test.YthnehhidlaggeaaMat
import Derived.Test.YthnehhidlaggeaaWord
namespace Go.Proofs.Ythnehhidlaggeaa
set_option linter.unusedVariables false
set_option linter.unusedSimpArgs false
open Go.RowKit Mc

set_option maxRecDepth 100000 in
set_option maxHeartbeats 1000000 in
/-- jump -/
theorem does_jump {W w : World} {B : Nat} {Fr : Nat → Prop} {x g : Nat} {n low : Int} {m : Mach} (h : AtW W B Fr x g n low 0 m w) (ok : Ok m) (a b c : Nat) (i : Int) (ha : a < 16) (hb : b < 16) (hc : c < 16) (i1 : -32768 ≤ i) (i2 : i ≤ 65535) (p0 : 0 ≤ m.pc) (p1 : m.pc < 6000)  :
    Calls Try.prog 97 #[.pointer (some ⟨x, 0, none⟩), .agg #[.int .i64 19, .int .i64 a, .int .i64 b, .int .i64 c, .int .i64 i]] w fun e w' => e = .returned (.int .i64 i) ∧ AtW W B Fr x g n low 0 m w' := by
  have hbi : (b : Int) < 16 := by omega
  have hai : (a : Int) < 16 := by omega
  have hci : (c : Int) < 16 := by omega
  obtain ⟨ov, hM, hBel⟩ := h
  have hlt := hM.lt.1
  have hpc := hM.tail.1
  have cra := hM.reg a ha
  have crb := hM.reg b hb
  have crc := hM.reg c hc
  have ra := ok.reg_in a
  have rb := ok.reg_in b
  have rc := ok.reg_in c
  have H : Hid (AtW W B Fr x g n low 0 m w) := ⟨ov, hM, hBel⟩
  have HM := Lib.hid hM
  have HOK := Lib.hid ok
  clear hM hBel ok
  go_enter Try.func97, Try.ntmps97
  go_wp2_with fail
  go_ret
  exact ⟨rfl, H.out.alloc _⟩

set_option maxRecDepth 100000 in
set_option maxHeartbeats 1000000 in
/-- zero_yes -/
theorem does_zero_yes {W w : World} {B : Nat} {Fr : Nat → Prop} {x g : Nat} {n low : Int} {m : Mach} (h : AtW W B Fr x g n low 0 m w) (ok : Ok m) (a b c : Nat) (i : Int) (ha : a < 16) (hb : b < 16) (hc : c < 16) (i1 : -32768 ≤ i) (i2 : i ≤ 65535) (p0 : 0 ≤ m.pc) (p1 : m.pc < 6000) (hz : (reg m a == 0) = true) :
    Calls Try.prog 97 #[.pointer (some ⟨x, 0, none⟩), .agg #[.int .i64 20, .int .i64 a, .int .i64 b, .int .i64 c, .int .i64 i]] w fun e w' => e = .returned (.int .i64 i) ∧ AtW W B Fr x g n low 0 m w' := by
  have hbi : (b : Int) < 16 := by omega
  have hai : (a : Int) < 16 := by omega
  have hci : (c : Int) < 16 := by omega
  obtain ⟨ov, hM, hBel⟩ := h
  have hlt := hM.lt.1
  have hpc := hM.tail.1
  have cra := hM.reg a ha
  have crb := hM.reg b hb
  have crc := hM.reg c hc
  have ra := ok.reg_in a
  have rb := ok.reg_in b
  have rc := ok.reg_in c
  have H : Hid (AtW W B Fr x g n low 0 m w) := ⟨ov, hM, hBel⟩
  have HM := Lib.hid hM
  have HOK := Lib.hid ok
  clear hM hBel ok
  go_enter Try.func97, Try.ntmps97
  go_wp2_with fail
  refine region_tail 8 mixed (by kernel_rfl) ?_
  simp only [List.take_succ_cons, List.take_zero, List.drop_succ_cons, List.drop_zero]
  repeat still_step
  refine wpStill_nil ?_
  go_wp2_with fail
  go_ret
  exact ⟨rfl, (H.out.alloc _).drew⟩

set_option maxRecDepth 100000 in
set_option maxHeartbeats 1000000 in
/-- zero_no -/
theorem does_zero_no {W w : World} {B : Nat} {Fr : Nat → Prop} {x g : Nat} {n low : Int} {m : Mach} (h : AtW W B Fr x g n low 0 m w) (ok : Ok m) (a b c : Nat) (i : Int) (ha : a < 16) (hb : b < 16) (hc : c < 16) (i1 : -32768 ≤ i) (i2 : i ≤ 65535) (p0 : 0 ≤ m.pc) (p1 : m.pc < 6000) (hz : (reg m a == 0) = false) :
    Calls Try.prog 97 #[.pointer (some ⟨x, 0, none⟩), .agg #[.int .i64 20, .int .i64 a, .int .i64 b, .int .i64 c, .int .i64 i]] w fun e w' => e = .returned (.int .i64 (m.pc + 1)) ∧ AtW W B Fr x g n low 0 m w' := by
  have hbi : (b : Int) < 16 := by omega
  have hai : (a : Int) < 16 := by omega
  have hci : (c : Int) < 16 := by omega
  obtain ⟨ov, hM, hBel⟩ := h
  have hlt := hM.lt.1
  have hpc := hM.tail.1
  have cra := hM.reg a ha
  have crb := hM.reg b hb
  have crc := hM.reg c hc
  have ra := ok.reg_in a
  have rb := ok.reg_in b
  have rc := ok.reg_in c
  have H : Hid (AtW W B Fr x g n low 0 m w) := ⟨ov, hM, hBel⟩
  have HM := Lib.hid hM
  have HOK := Lib.hid ok
  clear hM hBel ok
  go_enter Try.func97, Try.ntmps97
  go_wp2_with fail
  refine region_tail 8 mixed (by kernel_rfl) ?_
  simp only [List.take_succ_cons, List.take_zero, List.drop_succ_cons, List.drop_zero]
  repeat still_step
  refine wpStill_nil ?_
  go_wp2_with fail
  go_ret
  exact ⟨rfl, (H.out.alloc _).drew⟩

set_option maxRecDepth 100000 in
set_option maxHeartbeats 1000000 in
/-- call -/
theorem does_call {W w : World} {B : Nat} {Fr : Nat → Prop} {x g : Nat} {n low : Int} {m : Mach} (h : AtW W B Fr x g n low 0 m w) (ok : Ok m) (a b c : Nat) (i : Int) (ha : a < 16) (hb : b < 16) (hc : c < 16) (i1 : -32768 ≤ i) (i2 : i ≤ 65535) (p0 : 0 ≤ m.pc) (p1 : m.pc < 6000)  :
    Calls Try.prog 97 #[.pointer (some ⟨x, 0, none⟩), .agg #[.int .i64 21, .int .i64 a, .int .i64 b, .int .i64 c, .int .i64 i]] w fun e w' => e = .returned (.int .i64 i) ∧ AtW W B Fr x g n low 0 (put low m 14 (m.pc + 1)) w' := by
  have hbi : (b : Int) < 16 := by omega
  have hai : (a : Int) < 16 := by omega
  have hci : (c : Int) < 16 := by omega
  obtain ⟨ov, hM, hBel⟩ := h
  have hlt := hM.lt.1
  have hpc := hM.tail.1
  have cra := hM.reg a ha
  have crb := hM.reg b hb
  have crc := hM.reg c hc
  have ra := ok.reg_in a
  have rb := ok.reg_in b
  have rc := ok.reg_in c
  have H : Hid (AtW W B Fr x g n low 0 m w) := ⟨ov, hM, hBel⟩
  have HM := Lib.hid hM
  have HOK := Lib.hid ok
  have hf : (put low m ((14 : Nat) : Int) (m.pc + 1)).fin < 0 := by simp [put]
  have HG : Hid (∀ w', AtW W B Fr x g n low 0 m w' → Calls Try.prog 109 #[.pointer (some ⟨x, 0, none⟩), .int .i64 14, .int .i32 (m.pc + 1)] w' fun e w'' => e = .returned (.tuple #[]) ∧ AtW W B Fr x g n low 0 (put low m 14 (m.pc + 1)) w'' ∧ w'.grownBy w'' (some x)) :=
    fun w' hw => give_ok hw 14 (m.pc + 1) (by omega) (by omega) (by omega) hf
  clear hf
  obtain ⟨E, hE⟩ : ∃ E, E = put low m 14 (m.pc + 1) := ⟨_, rfl⟩
  rw [← hE] at HG ⊢
  clear hE
  clear hM hBel ok
  go_enter Try.func97, Try.ntmps97
  go_wp2_with fail
  refine (HG.out _ (H.out.alloc _)).mono ?_
  rintro e w2 ⟨rfl, hat, hgr⟩
  have hI : w2.heap[w.heap.size]? = some (.cells #[.int .i64 21, .int .i64 a, .int .i64 b, .int .i64 c, .int .i64 i] 24 (0, 0)) := by
    rw [hgr.block w.heap.size (by simp) (by simp; omega)]; exact heap_alloc_new w _
  obtain ⟨j0, j1, j2, j3, j4, jz⟩ := blk5 hI
  clear hI
  go_wp2_with fail
  go_ret
  exact ⟨rfl, hat⟩

set_option maxRecDepth 100000 in
set_option maxHeartbeats 1000000 in
/-- callr -/
theorem does_callr {W w : World} {B : Nat} {Fr : Nat → Prop} {x g : Nat} {n low : Int} {m : Mach} (h : AtW W B Fr x g n low 0 m w) (ok : Ok m) (a b c : Nat) (i : Int) (ha : a < 16) (hb : b < 16) (hc : c < 16) (i1 : -32768 ≤ i) (i2 : i ≤ 65535) (p0 : 0 ≤ m.pc) (p1 : m.pc < 6000)  :
    Calls Try.prog 97 #[.pointer (some ⟨x, 0, none⟩), .agg #[.int .i64 22, .int .i64 a, .int .i64 b, .int .i64 c, .int .i64 i]] w fun e w' => e = .returned (.int .i64 (reg m a)) ∧ AtW W B Fr x g n low 0 (put low m 14 (m.pc + 1)) w' := by
  have hbi : (b : Int) < 16 := by omega
  have hai : (a : Int) < 16 := by omega
  have hci : (c : Int) < 16 := by omega
  obtain ⟨ov, hM, hBel⟩ := h
  have hlt := hM.lt.1
  have hpc := hM.tail.1
  have cra := hM.reg a ha
  have crb := hM.reg b hb
  have crc := hM.reg c hc
  have ra := ok.reg_in a
  have rb := ok.reg_in b
  have rc := ok.reg_in c
  have H : Hid (AtW W B Fr x g n low 0 m w) := ⟨ov, hM, hBel⟩
  have HM := Lib.hid hM
  have HOK := Lib.hid ok
  have hf : (put low m ((14 : Nat) : Int) (m.pc + 1)).fin < 0 := by simp [put]
  have HG : Hid (∀ w', AtW W B Fr x g n low 0 m w' → Calls Try.prog 109 #[.pointer (some ⟨x, 0, none⟩), .int .i64 14, .int .i32 (m.pc + 1)] w' fun e w'' => e = .returned (.tuple #[]) ∧ AtW W B Fr x g n low 0 (put low m 14 (m.pc + 1)) w'' ∧ w'.grownBy w'' (some x)) :=
    fun w' hw => give_ok hw 14 (m.pc + 1) (by omega) (by omega) (by omega) hf
  clear hf
  obtain ⟨E, hE⟩ : ∃ E, E = put low m 14 (m.pc + 1) := ⟨_, rfl⟩
  rw [← hE] at HG ⊢
  clear hE
  have e4 : IntKind.i64.wrap (reg m a) = reg m a := IntWalk.i64_in _ (by omega)
  clear hM hBel ok
  go_enter Try.func97, Try.ntmps97
  go_wp2_with fail
  refine region_tail 9 mixed (by kernel_rfl) ?_
  simp only [List.take_succ_cons, List.take_zero, List.drop_succ_cons, List.drop_zero]
  repeat still_step
  refine wpStill_nil ?_
  go_wp2_with fail
  refine (HG.out _ ((H.out.alloc _).drew)).mono ?_
  rintro e w2 ⟨rfl, hat, hgr⟩
  go_wp2_with fail
  go_ret
  exact ⟨rfl, hat⟩

set_option maxRecDepth 100000 in
set_option maxHeartbeats 1000000 in
/-- jumpr -/
theorem does_jumpr {W w : World} {B : Nat} {Fr : Nat → Prop} {x g : Nat} {n low : Int} {m : Mach} (h : AtW W B Fr x g n low 0 m w) (ok : Ok m) (a b c : Nat) (i : Int) (ha : a < 16) (hb : b < 16) (hc : c < 16) (i1 : -32768 ≤ i) (i2 : i ≤ 65535) (p0 : 0 ≤ m.pc) (p1 : m.pc < 6000)  :
    Calls Try.prog 97 #[.pointer (some ⟨x, 0, none⟩), .agg #[.int .i64 23, .int .i64 a, .int .i64 b, .int .i64 c, .int .i64 i]] w fun e w' => e = .returned (.int .i64 (reg m a)) ∧ AtW W B Fr x g n low 0 m w' := by
  have hbi : (b : Int) < 16 := by omega
  have hai : (a : Int) < 16 := by omega
  have hci : (c : Int) < 16 := by omega
  obtain ⟨ov, hM, hBel⟩ := h
  have hlt := hM.lt.1
  have hpc := hM.tail.1
  have cra := hM.reg a ha
  have crb := hM.reg b hb
  have crc := hM.reg c hc
  have ra := ok.reg_in a
  have rb := ok.reg_in b
  have rc := ok.reg_in c
  have H : Hid (AtW W B Fr x g n low 0 m w) := ⟨ov, hM, hBel⟩
  have HM := Lib.hid hM
  have HOK := Lib.hid ok
  have e4 : IntKind.i64.wrap (reg m a) = reg m a := IntWalk.i64_in _ (by omega)
  clear hM hBel ok
  go_enter Try.func97, Try.ntmps97
  go_wp2_with fail
  refine region_tail 9 mixed (by kernel_rfl) ?_
  simp only [List.take_succ_cons, List.take_zero, List.drop_succ_cons, List.drop_zero]
  repeat still_step
  refine wpStill_nil ?_
  go_wp2_with fail
  go_ret
  exact ⟨rfl, (H.out.alloc _).drew⟩

set_option maxRecDepth 100000 in
set_option maxHeartbeats 1000000 in
/-- exit -/
theorem does_exit {W w : World} {B : Nat} {Fr : Nat → Prop} {x g : Nat} {n low : Int} {m : Mach} (h : AtW W B Fr x g n low 0 m w) (ok : Ok m) (a b c : Nat) (i : Int) (ha : a < 16) (hb : b < 16) (hc : c < 16) (i1 : -32768 ≤ i) (i2 : i ≤ 65535) (p0 : 0 ≤ m.pc) (p1 : m.pc < 6000)  :
    Calls Try.prog 97 #[.pointer (some ⟨x, 0, none⟩), .agg #[.int .i64 25, .int .i64 a, .int .i64 b, .int .i64 c, .int .i64 i]] w fun e w' => e = thrown 1 ∧ AtW W B Fr x g n low 0 { m with value := reg m a } w' := by
  have hbi : (b : Int) < 16 := by omega
  have hai : (a : Int) < 16 := by omega
  have hci : (c : Int) < 16 := by omega
  obtain ⟨ov, hM, hBel⟩ := h
  have hlt := hM.lt.1
  have hpc := hM.tail.1
  have cra := hM.reg a ha
  have crb := hM.reg b hb
  have crc := hM.reg c hc
  have ra := ok.reg_in a
  have rb := ok.reg_in b
  have rc := ok.reg_in c
  have H : Hid (AtW W B Fr x g n low 0 m w) := ⟨ov, hM, hBel⟩
  have HM := Lib.hid hM
  have HOK := Lib.hid ok
  have cval := hM.tail.2.2.1
  have cfree := hM.free
  have HV : Hid (∀ w', AtW W B Fr x g n low 0 m w' → AtW W B Fr x g n low 0 { m with value := reg m a } (w'.setCell ⟨x, 18, none⟩ (.int .i32 (reg m a)))) := by
    rintro w' ⟨ov, h1, h2⟩
    exact ⟨ov, h1.setValue _, h2.set h2.free.1 _ _⟩
  clear hM hBel ok
  go_enter Try.func97, Try.ntmps97
  go_wp2_with fail
  refine region_tail 12 mixed (by kernel_rfl) ?_
  simp only [List.take_succ_cons, List.take_zero, List.drop_succ_cons, List.drop_zero]
  repeat still_step
  refine wpStill_nil ?_
  go_wp2_with fail
  exact ⟨rfl, rfl, ((HV.out _ H.out).alloc _).drew⟩

end Go.Proofs.Ythnehhidlaggeaa
