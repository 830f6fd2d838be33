/- The reference's Stop: how a machine ended; the law's stops: the same ending? -/
import Derived.Test.YthnehhidlaggeaaRRun
import Derived.Test.YthnehhidlaggeaaWords
import Derived.DeepKeys
import Derived.Laws.StructEq
namespace Go.Proofs.Ythnehhidlaggeaa
set_option linter.unusedVariables false
set_option linter.unusedSimpArgs false
open Go.RowKit Mc

theorem max_end (m : Mach) : max m.fin 0 = endOf m := by unfold endOf; split <;> omega

set_option maxRecDepth 100000 in
set_option maxHeartbeats 1000000 in
theorem rstop_any {w : World} {B x g : Nat} {cv iv ov : Value} {low : Int} {m : Mach} (h : RefAt w B x g cv iv low ov m) :
    Calls Try.prog 22 #[.pointer (some ⟨x, 0, none⟩)] w fun e w' => e = .returned (.agg #[.int .i64 (endOf m), .int .i32 m.value, ov, .int .i64 m.steps]) ∧ Below w.heap.size w w' := by
  obtain ⟨pv, cv2, rfl⟩ := own_slice h.outs
  have t21 := h.tail.2.1
  have t22 := h.tail.2.2.1
  have t23 := h.tail.2.2.2.1
  have t24 := h.tail.2.2.2.2
  have hlt := h.lt.1
  have HE : Hid (max m.fin 0 = endOf m) := max_end m
  clear h
  go_enter Try.func22, Try.ntmps22
  go_wp2_with fail
  refine region_tail 17 mixed (by kernel_rfl) ?_
  simp only [List.take_succ_cons, List.take_zero, List.drop_succ_cons, List.drop_zero]
  repeat still_step
  refine wpStill_nil ?_
  go_wp2_with fail
  rw [HE.out]
  refine bodyPost_ret (v := .agg #[.int .i64 (endOf m), .int .i32 m.value, .slice pv m.out.length cv2, .int .i64 m.steps]) (by simp [results, Try.results22, go_sem]) rfl ⟨rfl, ?_⟩
  exact ((Below.refl _ _).alloc (Nat.le_refl _) _).drew


set_option maxRecDepth 100000 in
set_option maxHeartbeats 1000000 in
/-- two endings that are the same -/
theorem lstops_yes (e v s : Int) (p1 p2 : Option Addr) (l : List Int) (n c1 c2 : Nat) (w : World) (hl : l.length = n) (s1 : SliceAt w .i32 p1 l) (s2 : SliceAt w .i32 p2 l) (hn : n ≤ 9223372036854775807) :
    Calls Try.prog 20 #[.agg #[.int .i64 e, .int .i32 v, .slice p1 n c1, .int .i64 s], .agg #[.int .i64 e, .int .i32 v, .slice p2 n c2, .int .i64 s]] w fun en w' => en = .returned (.bool true) ∧ Below w.heap.size w w' := by
  have HC : Hid (∀ w', Below w.heap.size w w' → Calls Try.prog 32 #[.slice p1 n c1, .slice p2 n c2] w' fun e w'' => e = .returned (.bool true) ∧ Below w'.heap.size w' w'') := by
    intro w' hb
    have h := lwords_any p1 p2 l l n n c1 c2 w' hl hl (s1.below hb) (s2.below hb) hn hn
    rw [decide_eq_true rfl] at h
    exact h
  clear hl s1 s2 hn
  go_enter Try.func20, Try.ntmps20
  go_wp2_with fail
  refine (HC.out _ (((Below.refl _ _).alloc (Nat.le_refl _) _).alloc (by simp) _)).mono ?_
  rintro en w2 ⟨rfl, hb⟩
  have HB : Hid (Below w.heap.size w w2) := (((Below.refl _ _).alloc (Nat.le_refl _) _).alloc (by simp) _).trans (hb.mono (by simp; omega))
  clear hb
  go_wp2_with fail
  go_ret
  exact ⟨rfl, HB.out⟩

set_option maxRecDepth 100000 in
set_option maxHeartbeats 1000000 in
theorem eq_words (R : List Int) (h16 : R.length = 16) (w : World) : (Op.equalIn 9999 41 (.agg (R.map (Value.int .i32)).toArray) (.agg (R.map (Value.int .i32)).toArray)).run Try.prog w = .ok true w := by
  obtain ⟨r0, r1, r2, r3, r4, r5, r6, r7, r8, r9, r10, r11, r12, r13, r14, r15, rfl⟩ := list16 h16
  have u3 := Try.underlying21
  have a3 := Try.isAgg21
  have z3 := Try.sizeOf21
  rw [show (9999 : Nat) = 9998 + 1 from rfl, Op.equalIn]
  simp only [Sem.run_bind, run_underlying Try.underlying41, Result.andThen_ok]
  simp only [Std.Legacy.Range.forIn_eq_forIn_range', Std.Legacy.Range.size, Nat.sub_zero, Nat.add_sub_cancel, Nat.div_one, List.range'_succ, List.range'_zero, List.forIn_cons, List.forIn_nil, List.map_cons, List.map_nil]
  go_simp

end Go.Proofs.Ythnehhidlaggeaa

/-! Registers that are the same, as the program compares them. -/
namespace Go.Proofs.Ythnehhidlaggeaa
set_option linter.unusedVariables false
set_option linter.unusedSimpArgs false
open Go.RowKit Mc

set_option maxRecDepth 100000 in
set_option maxHeartbeats 1000000 in
theorem eql_regs (R : List Int) (pc : Int) (h16 : R.length = 16) (w : World) : (binOp .eql 43 (regsV R pc) (regsV R pc)).run Try.prog w = .ok (.bool true) w := by
  obtain ⟨r0, r1, r2, r3, r4, r5, r6, r7, r8, r9, r10, r11, r12, r13, r14, r15, rfl⟩ := list16 h16
  have hw := fun w => eq_words [r0, r1, r2, r3, r4, r5, r6, r7, r8, r9, r10, r11, r12, r13, r14, r15] rfl w
  simp only [List.map_cons, List.map_nil] at hw
  have u3 := Try.underlying3
  have a3 := Try.isAgg3
  have z3 := Try.sizeOf3
  have a4 := Try.isAgg41
  have z4 := Try.sizeOf41
  have hS : Try.prog.underlying 43 = some (.struct (Try.prog.fieldsOf 43)) := by kernel_rfl
  have hp : Try.prog.stoodInHeld 43 = false := by kernel_rfl
  simp only [regsV, List.map_cons, List.map_nil, List.cons_append, List.nil_append]
  rw [run_eql_struct, show (10000 : Nat) = 9999 + 1 from rfl, run_equalIn_struct w 9999 43 _ _ hS hp]
  simp only [Program.fieldsOf, Try.underlying43]
  go_simp

end Go.Proofs.Ythnehhidlaggeaa
