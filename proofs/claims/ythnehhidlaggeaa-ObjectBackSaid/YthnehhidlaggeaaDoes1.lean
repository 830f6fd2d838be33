/- machine.does: the walks, an instruction each. -/
import Derived.Test.YthnehhidlaggeaaMat
import Derived.Test.YthnehhidlaggeaaWord
namespace Go.Proofs.Ythnehhidlaggeaa
set_option linter.unusedVariables false
set_option linter.unusedSimpArgs false
open Go.RowKit Mc

set_option maxRecDepth 100000 in
set_option maxHeartbeats 1000000 in
/-- mov: the machine goes on -/
theorem does_mov_ok {W w : World} {B : Nat} {Fr : Nat → Prop} {x g : Nat} {n low : Int} {m : Mach} (h : AtW W B Fr x g n low 0 m w) (ok : Ok m) (a b c : Nat) (i : Int) (ha : a < 16) (hb : b < 16) (hc : c < 16) (i1 : -32768 ≤ i) (i2 : i ≤ 65535) (p0 : 0 ≤ m.pc) (p1 : m.pc < 6000) (hf : (put low m a (reg m b)).fin < 0)  :
    Calls Try.prog 97 #[.pointer (some ⟨x, 0, none⟩), .agg #[.int .i64 1, .int .i64 a, .int .i64 b, .int .i64 c, .int .i64 i]] w fun e w' => e = .returned (.int .i64 (m.pc + 1)) ∧ AtW W B Fr x g n low 0 (put low m a (reg m b)) w' := by
  have hbi : (b : Int) < 16 := by omega
  have hai : (a : Int) < 16 := by omega
  have hci : (c : Int) < 16 := by omega
  obtain ⟨ov, hM, hBel⟩ := h
  have hlt := hM.lt.1
  have hpc := hM.tail.1
  have cra := hM.reg a ha
  have crb := hM.reg b hb
  have crc := hM.reg c hc
  have ra := ok.reg_in a
  have rb := ok.reg_in b
  have rc := ok.reg_in c
  have H : Hid (AtW W B Fr x g n low 0 m w) := ⟨ov, hM, hBel⟩
  have HM := Lib.hid hM
  have HOK := Lib.hid ok
  have vb := ok.reg_in b
  have HG : Hid (∀ w', AtW W B Fr x g n low 0 m w' → Calls Try.prog 109 #[.pointer (some ⟨x, 0, none⟩), .int .i64 a, .int .i32 (reg m b)] w' fun e w'' => e = .returned (.tuple #[]) ∧ AtW W B Fr x g n low 0 (put low m a (reg m b)) w'' ∧ w'.grownBy w'' (some x)) :=
    fun w' hw => give_ok hw a (reg m b) (by omega) vb.1 vb.2 hf
  clear hf vb
  obtain ⟨E, hE⟩ : ∃ E, E = put low m a (reg m b) := ⟨_, rfl⟩
  rw [← hE] at HG ⊢
  clear hE
  clear hM hBel ok
  go_enter Try.func97, Try.ntmps97
  go_wp2_with fail
  refine region_tail 11 mixed (by kernel_rfl) ?_
  simp only [List.take_succ_cons, List.take_zero, List.drop_succ_cons, List.drop_zero]
  repeat still_step
  refine wpStill_nil ?_
  go_wp2_with fail
  refine (HG.out _ ((H.out.alloc _).drew)).mono ?_
  rintro e w2 ⟨rfl, hat, hgr⟩
  go_wp2_with fail
  go_ret
  exact ⟨rfl, hat⟩

set_option maxRecDepth 100000 in
set_option maxHeartbeats 1000000 in
/-- mov: it ends -/
theorem does_mov_end {W w : World} {B : Nat} {Fr : Nat → Prop} {x g : Nat} {n low : Int} {m : Mach} (h : AtW W B Fr x g n low 0 m w) (ok : Ok m) (a b c : Nat) (i : Int) (ha : a < 16) (hb : b < 16) (hc : c < 16) (i1 : -32768 ≤ i) (i2 : i ≤ 65535) (p0 : 0 ≤ m.pc) (p1 : m.pc < 6000) (hf : 0 ≤ (put low m a (reg m b)).fin)  :
    Calls Try.prog 97 #[.pointer (some ⟨x, 0, none⟩), .agg #[.int .i64 1, .int .i64 a, .int .i64 b, .int .i64 c, .int .i64 i]] w fun e w' => e = thrown (put low m a (reg m b)).fin ∧ AtW W B Fr x g n low 0 (put low m a (reg m b)) w' := by
  have hbi : (b : Int) < 16 := by omega
  have hai : (a : Int) < 16 := by omega
  have hci : (c : Int) < 16 := by omega
  obtain ⟨ov, hM, hBel⟩ := h
  have hlt := hM.lt.1
  have hpc := hM.tail.1
  have cra := hM.reg a ha
  have crb := hM.reg b hb
  have crc := hM.reg c hc
  have ra := ok.reg_in a
  have rb := ok.reg_in b
  have rc := ok.reg_in c
  have H : Hid (AtW W B Fr x g n low 0 m w) := ⟨ov, hM, hBel⟩
  have HM := Lib.hid hM
  have HOK := Lib.hid ok
  have vb := ok.reg_in b
  have HG : Hid (∀ w', AtW W B Fr x g n low 0 m w' → Calls Try.prog 109 #[.pointer (some ⟨x, 0, none⟩), .int .i64 a, .int .i32 (reg m b)] w' fun e w'' => e = .panicked [{ v := .iface 177 (.agg #[.int .i64 (put low m a (reg m b)).fin]), recovered := false }] ∧ AtW W B Fr x g n low 0 (put low m a (reg m b)) w'') :=
    fun w' hw => give_ends hw a (reg m b) (by omega) vb.1 vb.2 hf
  clear hf vb
  obtain ⟨E, hE⟩ : ∃ E, E = put low m a (reg m b) := ⟨_, rfl⟩
  rw [← hE] at HG ⊢
  clear hE
  clear hM hBel ok
  go_enter Try.func97, Try.ntmps97
  go_wp2_with fail
  refine region_tail 11 mixed (by kernel_rfl) ?_
  simp only [List.take_succ_cons, List.take_zero, List.drop_succ_cons, List.drop_zero]
  repeat still_step
  refine wpStill_nil ?_
  go_wp2_with fail
  refine (HG.out _ ((H.out.alloc _).drew)).mono ?_
  rintro e w2 ⟨rfl, hat⟩
  go_wp2_with fail
  exact ⟨rfl, rfl, hat⟩

set_option maxRecDepth 100000 in
set_option maxHeartbeats 1000000 in
/-- movi: the machine goes on -/
theorem does_movi_ok {W w : World} {B : Nat} {Fr : Nat → Prop} {x g : Nat} {n low : Int} {m : Mach} (h : AtW W B Fr x g n low 0 m w) (ok : Ok m) (a b c : Nat) (i : Int) (ha : a < 16) (hb : b < 16) (hc : c < 16) (i1 : -32768 ≤ i) (i2 : i ≤ 65535) (p0 : 0 ≤ m.pc) (p1 : m.pc < 6000) (hf : (put low m a i).fin < 0)  :
    Calls Try.prog 97 #[.pointer (some ⟨x, 0, none⟩), .agg #[.int .i64 2, .int .i64 a, .int .i64 b, .int .i64 c, .int .i64 i]] w fun e w' => e = .returned (.int .i64 (m.pc + 1)) ∧ AtW W B Fr x g n low 0 (put low m a i) w' := by
  have hbi : (b : Int) < 16 := by omega
  have hai : (a : Int) < 16 := by omega
  have hci : (c : Int) < 16 := by omega
  obtain ⟨ov, hM, hBel⟩ := h
  have hlt := hM.lt.1
  have hpc := hM.tail.1
  have cra := hM.reg a ha
  have crb := hM.reg b hb
  have crc := hM.reg c hc
  have ra := ok.reg_in a
  have rb := ok.reg_in b
  have rc := ok.reg_in c
  have H : Hid (AtW W B Fr x g n low 0 m w) := ⟨ov, hM, hBel⟩
  have HM := Lib.hid hM
  have HOK := Lib.hid ok
  have vb : -2147483648 ≤ i ∧ i ≤ 2147483647 := by omega
  have HG : Hid (∀ w', AtW W B Fr x g n low 0 m w' → Calls Try.prog 109 #[.pointer (some ⟨x, 0, none⟩), .int .i64 a, .int .i32 i] w' fun e w'' => e = .returned (.tuple #[]) ∧ AtW W B Fr x g n low 0 (put low m a i) w'' ∧ w'.grownBy w'' (some x)) :=
    fun w' hw => give_ok hw a i (by omega) vb.1 vb.2 hf
  clear hf vb
  obtain ⟨E, hE⟩ : ∃ E, E = put low m a i := ⟨_, rfl⟩
  rw [← hE] at HG ⊢
  clear hE
  clear hM hBel ok
  go_enter Try.func97, Try.ntmps97
  go_wp2_with fail
  refine (HG.out _ (H.out.alloc _)).mono ?_
  rintro e w2 ⟨rfl, hat, hgr⟩
  go_wp2_with fail
  go_ret
  exact ⟨rfl, hat⟩

set_option maxRecDepth 100000 in
set_option maxHeartbeats 1000000 in
/-- movi: it ends -/
theorem does_movi_end {W w : World} {B : Nat} {Fr : Nat → Prop} {x g : Nat} {n low : Int} {m : Mach} (h : AtW W B Fr x g n low 0 m w) (ok : Ok m) (a b c : Nat) (i : Int) (ha : a < 16) (hb : b < 16) (hc : c < 16) (i1 : -32768 ≤ i) (i2 : i ≤ 65535) (p0 : 0 ≤ m.pc) (p1 : m.pc < 6000) (hf : 0 ≤ (put low m a i).fin)  :
    Calls Try.prog 97 #[.pointer (some ⟨x, 0, none⟩), .agg #[.int .i64 2, .int .i64 a, .int .i64 b, .int .i64 c, .int .i64 i]] w fun e w' => e = thrown (put low m a i).fin ∧ AtW W B Fr x g n low 0 (put low m a i) w' := by
  have hbi : (b : Int) < 16 := by omega
  have hai : (a : Int) < 16 := by omega
  have hci : (c : Int) < 16 := by omega
  obtain ⟨ov, hM, hBel⟩ := h
  have hlt := hM.lt.1
  have hpc := hM.tail.1
  have cra := hM.reg a ha
  have crb := hM.reg b hb
  have crc := hM.reg c hc
  have ra := ok.reg_in a
  have rb := ok.reg_in b
  have rc := ok.reg_in c
  have H : Hid (AtW W B Fr x g n low 0 m w) := ⟨ov, hM, hBel⟩
  have HM := Lib.hid hM
  have HOK := Lib.hid ok
  have vb : -2147483648 ≤ i ∧ i ≤ 2147483647 := by omega
  have HG : Hid (∀ w', AtW W B Fr x g n low 0 m w' → Calls Try.prog 109 #[.pointer (some ⟨x, 0, none⟩), .int .i64 a, .int .i32 i] w' fun e w'' => e = .panicked [{ v := .iface 177 (.agg #[.int .i64 (put low m a i).fin]), recovered := false }] ∧ AtW W B Fr x g n low 0 (put low m a i) w'') :=
    fun w' hw => give_ends hw a i (by omega) vb.1 vb.2 hf
  clear hf vb
  obtain ⟨E, hE⟩ : ∃ E, E = put low m a i := ⟨_, rfl⟩
  rw [← hE] at HG ⊢
  clear hE
  clear hM hBel ok
  go_enter Try.func97, Try.ntmps97
  go_wp2_with fail
  refine (HG.out _ (H.out.alloc _)).mono ?_
  rintro e w2 ⟨rfl, hat⟩
  go_wp2_with fail
  exact ⟨rfl, rfl, hat⟩

set_option maxRecDepth 100000 in
set_option maxHeartbeats 1000000 in
/-- movh: the machine goes on -/
theorem does_movh_ok {W w : World} {B : Nat} {Fr : Nat → Prop} {x g : Nat} {n low : Int} {m : Mach} (h : AtW W B Fr x g n low 0 m w) (ok : Ok m) (a b c : Nat) (i : Int) (ha : a < 16) (hb : b < 16) (hc : c < 16) (i1 : -32768 ≤ i) (i2 : i ≤ 65535) (p0 : 0 ≤ m.pc) (p1 : m.pc < 6000) (hf : (put low m a (wrap32 (i * 65536 + Wd.free (reg m a) % 65536))).fin < 0) (i0 : 0 ≤ i) :
    Calls Try.prog 97 #[.pointer (some ⟨x, 0, none⟩), .agg #[.int .i64 3, .int .i64 a, .int .i64 b, .int .i64 c, .int .i64 i]] w fun e w' => e = .returned (.int .i64 (m.pc + 1)) ∧ AtW W B Fr x g n low 0 (put low m a (wrap32 (i * 65536 + Wd.free (reg m a) % 65536))) w' := by
  have hbi : (b : Int) < 16 := by omega
  have hai : (a : Int) < 16 := by omega
  have hci : (c : Int) < 16 := by omega
  obtain ⟨ov, hM, hBel⟩ := h
  have hlt := hM.lt.1
  have hpc := hM.tail.1
  have cra := hM.reg a ha
  have crb := hM.reg b hb
  have crc := hM.reg c hc
  have ra := ok.reg_in a
  have rb := ok.reg_in b
  have rc := ok.reg_in c
  have H : Hid (AtW W B Fr x g n low 0 m w) := ⟨ov, hM, hBel⟩
  have HM := Lib.hid hM
  have HOK := Lib.hid ok
  have vb := Wd.wrap32_bd (i * 65536 + Wd.free (reg m a) % 65536)
  have fb := Wd.free_bd (reg m a) ra.1 ra.2
  have e1 : IntKind.u32.wrap (reg m a) = Wd.free (reg m a) := Wd.wrap_u32 _ ra.1 ra.2
  have e2 : bits .and .u32 (Wd.free (reg m a)) 65535 = Wd.free (reg m a) % 65536 := Cp.mask16 _ fb.1 fb.2
  have e3 : bits .or .u32 (Wd.free (reg m a) % 65536) (i * 65536) = i * 65536 + Wd.free (reg m a) % 65536 := Cp.or_movh _ _ i0 i2 (by omega) (by omega)
  have HG : Hid (∀ w', AtW W B Fr x g n low 0 m w' → Calls Try.prog 109 #[.pointer (some ⟨x, 0, none⟩), .int .i64 a, .int .i32 (wrap32 (i * 65536 + Wd.free (reg m a) % 65536))] w' fun e w'' => e = .returned (.tuple #[]) ∧ AtW W B Fr x g n low 0 (put low m a (wrap32 (i * 65536 + Wd.free (reg m a) % 65536))) w'' ∧ w'.grownBy w'' (some x)) :=
    fun w' hw => give_ok hw a (wrap32 (i * 65536 + Wd.free (reg m a) % 65536)) (by omega) vb.1 vb.2 hf
  clear hf vb
  obtain ⟨E, hE⟩ : ∃ E, E = put low m a (wrap32 (i * 65536 + Wd.free (reg m a) % 65536)) := ⟨_, rfl⟩
  rw [← hE] at HG ⊢
  clear hE
  clear hM hBel ok
  go_enter Try.func97, Try.ntmps97
  go_wp2_with fail
  refine region_tail 19 mixed (by kernel_rfl) ?_
  simp only [List.take_succ_cons, List.take_zero, List.drop_succ_cons, List.drop_zero]
  repeat still_step
  refine wpStill_nil ?_
  go_wp2_with fail
  rw [e3]
  refine (HG.out _ ((H.out.alloc _).drew)).mono ?_
  rintro e w2 ⟨rfl, hat, hgr⟩
  go_wp2_with fail
  go_ret
  exact ⟨rfl, hat⟩

set_option maxRecDepth 100000 in
set_option maxHeartbeats 1000000 in
/-- movh: it ends -/
theorem does_movh_end {W w : World} {B : Nat} {Fr : Nat → Prop} {x g : Nat} {n low : Int} {m : Mach} (h : AtW W B Fr x g n low 0 m w) (ok : Ok m) (a b c : Nat) (i : Int) (ha : a < 16) (hb : b < 16) (hc : c < 16) (i1 : -32768 ≤ i) (i2 : i ≤ 65535) (p0 : 0 ≤ m.pc) (p1 : m.pc < 6000) (hf : 0 ≤ (put low m a (wrap32 (i * 65536 + Wd.free (reg m a) % 65536))).fin) (i0 : 0 ≤ i) :
    Calls Try.prog 97 #[.pointer (some ⟨x, 0, none⟩), .agg #[.int .i64 3, .int .i64 a, .int .i64 b, .int .i64 c, .int .i64 i]] w fun e w' => e = thrown (put low m a (wrap32 (i * 65536 + Wd.free (reg m a) % 65536))).fin ∧ AtW W B Fr x g n low 0 (put low m a (wrap32 (i * 65536 + Wd.free (reg m a) % 65536))) w' := by
  have hbi : (b : Int) < 16 := by omega
  have hai : (a : Int) < 16 := by omega
  have hci : (c : Int) < 16 := by omega
  obtain ⟨ov, hM, hBel⟩ := h
  have hlt := hM.lt.1
  have hpc := hM.tail.1
  have cra := hM.reg a ha
  have crb := hM.reg b hb
  have crc := hM.reg c hc
  have ra := ok.reg_in a
  have rb := ok.reg_in b
  have rc := ok.reg_in c
  have H : Hid (AtW W B Fr x g n low 0 m w) := ⟨ov, hM, hBel⟩
  have HM := Lib.hid hM
  have HOK := Lib.hid ok
  have vb := Wd.wrap32_bd (i * 65536 + Wd.free (reg m a) % 65536)
  have fb := Wd.free_bd (reg m a) ra.1 ra.2
  have e1 : IntKind.u32.wrap (reg m a) = Wd.free (reg m a) := Wd.wrap_u32 _ ra.1 ra.2
  have e2 : bits .and .u32 (Wd.free (reg m a)) 65535 = Wd.free (reg m a) % 65536 := Cp.mask16 _ fb.1 fb.2
  have e3 : bits .or .u32 (Wd.free (reg m a) % 65536) (i * 65536) = i * 65536 + Wd.free (reg m a) % 65536 := Cp.or_movh _ _ i0 i2 (by omega) (by omega)
  have HG : Hid (∀ w', AtW W B Fr x g n low 0 m w' → Calls Try.prog 109 #[.pointer (some ⟨x, 0, none⟩), .int .i64 a, .int .i32 (wrap32 (i * 65536 + Wd.free (reg m a) % 65536))] w' fun e w'' => e = .panicked [{ v := .iface 177 (.agg #[.int .i64 (put low m a (wrap32 (i * 65536 + Wd.free (reg m a) % 65536))).fin]), recovered := false }] ∧ AtW W B Fr x g n low 0 (put low m a (wrap32 (i * 65536 + Wd.free (reg m a) % 65536))) w'') :=
    fun w' hw => give_ends hw a (wrap32 (i * 65536 + Wd.free (reg m a) % 65536)) (by omega) vb.1 vb.2 hf
  clear hf vb
  obtain ⟨E, hE⟩ : ∃ E, E = put low m a (wrap32 (i * 65536 + Wd.free (reg m a) % 65536)) := ⟨_, rfl⟩
  rw [← hE] at HG ⊢
  clear hE
  clear hM hBel ok
  go_enter Try.func97, Try.ntmps97
  go_wp2_with fail
  refine region_tail 19 mixed (by kernel_rfl) ?_
  simp only [List.take_succ_cons, List.take_zero, List.drop_succ_cons, List.drop_zero]
  repeat still_step
  refine wpStill_nil ?_
  go_wp2_with fail
  rw [e3]
  refine (HG.out _ ((H.out.alloc _).drew)).mono ?_
  rintro e w2 ⟨rfl, hat⟩
  go_wp2_with fail
  exact ⟨rfl, rfl, hat⟩

set_option maxRecDepth 100000 in
set_option maxHeartbeats 1000000 in
/-- addi: the machine goes on -/
theorem does_addi_ok {W w : World} {B : Nat} {Fr : Nat → Prop} {x g : Nat} {n low : Int} {m : Mach} (h : AtW W B Fr x g n low 0 m w) (ok : Ok m) (a b c : Nat) (i : Int) (ha : a < 16) (hb : b < 16) (hc : c < 16) (i1 : -32768 ≤ i) (i2 : i ≤ 65535) (p0 : 0 ≤ m.pc) (p1 : m.pc < 6000) (hf : (put low m a (wrap32 (reg m b + i))).fin < 0)  :
    Calls Try.prog 97 #[.pointer (some ⟨x, 0, none⟩), .agg #[.int .i64 16, .int .i64 a, .int .i64 b, .int .i64 c, .int .i64 i]] w fun e w' => e = .returned (.int .i64 (m.pc + 1)) ∧ AtW W B Fr x g n low 0 (put low m a (wrap32 (reg m b + i))) w' := by
  have hbi : (b : Int) < 16 := by omega
  have hai : (a : Int) < 16 := by omega
  have hci : (c : Int) < 16 := by omega
  obtain ⟨ov, hM, hBel⟩ := h
  have hlt := hM.lt.1
  have hpc := hM.tail.1
  have cra := hM.reg a ha
  have crb := hM.reg b hb
  have crc := hM.reg c hc
  have ra := ok.reg_in a
  have rb := ok.reg_in b
  have rc := ok.reg_in c
  have H : Hid (AtW W B Fr x g n low 0 m w) := ⟨ov, hM, hBel⟩
  have HM := Lib.hid hM
  have HOK := Lib.hid ok
  have vb := Wd.wrap32_bd (reg m b + i)
  have HG : Hid (∀ w', AtW W B Fr x g n low 0 m w' → Calls Try.prog 109 #[.pointer (some ⟨x, 0, none⟩), .int .i64 a, .int .i32 (wrap32 (reg m b + i))] w' fun e w'' => e = .returned (.tuple #[]) ∧ AtW W B Fr x g n low 0 (put low m a (wrap32 (reg m b + i))) w'' ∧ w'.grownBy w'' (some x)) :=
    fun w' hw => give_ok hw a (wrap32 (reg m b + i)) (by omega) vb.1 vb.2 hf
  clear hf vb
  obtain ⟨E, hE⟩ : ∃ E, E = put low m a (wrap32 (reg m b + i)) := ⟨_, rfl⟩
  rw [← hE] at HG ⊢
  clear hE
  clear hM hBel ok
  go_enter Try.func97, Try.ntmps97
  go_wp2_with fail
  refine region_tail 15 mixed (by kernel_rfl) ?_
  simp only [List.take_succ_cons, List.take_zero, List.drop_succ_cons, List.drop_zero]
  repeat still_step
  refine wpStill_nil ?_
  go_wp2_with fail
  refine (HG.out _ ((H.out.alloc _).drew)).mono ?_
  rintro e w2 ⟨rfl, hat, hgr⟩
  go_wp2_with fail
  go_ret
  exact ⟨rfl, hat⟩

set_option maxRecDepth 100000 in
set_option maxHeartbeats 1000000 in
/-- addi: it ends -/
theorem does_addi_end {W w : World} {B : Nat} {Fr : Nat → Prop} {x g : Nat} {n low : Int} {m : Mach} (h : AtW W B Fr x g n low 0 m w) (ok : Ok m) (a b c : Nat) (i : Int) (ha : a < 16) (hb : b < 16) (hc : c < 16) (i1 : -32768 ≤ i) (i2 : i ≤ 65535) (p0 : 0 ≤ m.pc) (p1 : m.pc < 6000) (hf : 0 ≤ (put low m a (wrap32 (reg m b + i))).fin)  :
    Calls Try.prog 97 #[.pointer (some ⟨x, 0, none⟩), .agg #[.int .i64 16, .int .i64 a, .int .i64 b, .int .i64 c, .int .i64 i]] w fun e w' => e = thrown (put low m a (wrap32 (reg m b + i))).fin ∧ AtW W B Fr x g n low 0 (put low m a (wrap32 (reg m b + i))) w' := by
  have hbi : (b : Int) < 16 := by omega
  have hai : (a : Int) < 16 := by omega
  have hci : (c : Int) < 16 := by omega
  obtain ⟨ov, hM, hBel⟩ := h
  have hlt := hM.lt.1
  have hpc := hM.tail.1
  have cra := hM.reg a ha
  have crb := hM.reg b hb
  have crc := hM.reg c hc
  have ra := ok.reg_in a
  have rb := ok.reg_in b
  have rc := ok.reg_in c
  have H : Hid (AtW W B Fr x g n low 0 m w) := ⟨ov, hM, hBel⟩
  have HM := Lib.hid hM
  have HOK := Lib.hid ok
  have vb := Wd.wrap32_bd (reg m b + i)
  have HG : Hid (∀ w', AtW W B Fr x g n low 0 m w' → Calls Try.prog 109 #[.pointer (some ⟨x, 0, none⟩), .int .i64 a, .int .i32 (wrap32 (reg m b + i))] w' fun e w'' => e = .panicked [{ v := .iface 177 (.agg #[.int .i64 (put low m a (wrap32 (reg m b + i))).fin]), recovered := false }] ∧ AtW W B Fr x g n low 0 (put low m a (wrap32 (reg m b + i))) w'') :=
    fun w' hw => give_ends hw a (wrap32 (reg m b + i)) (by omega) vb.1 vb.2 hf
  clear hf vb
  obtain ⟨E, hE⟩ : ∃ E, E = put low m a (wrap32 (reg m b + i)) := ⟨_, rfl⟩
  rw [← hE] at HG ⊢
  clear hE
  clear hM hBel ok
  go_enter Try.func97, Try.ntmps97
  go_wp2_with fail
  refine region_tail 15 mixed (by kernel_rfl) ?_
  simp only [List.take_succ_cons, List.take_zero, List.drop_succ_cons, List.drop_zero]
  repeat still_step
  refine wpStill_nil ?_
  go_wp2_with fail
  refine (HG.out _ ((H.out.alloc _).drew)).mono ?_
  rintro e w2 ⟨rfl, hat⟩
  go_wp2_with fail
  exact ⟨rfl, rfl, hat⟩

end Go.Proofs.Ythnehhidlaggeaa
