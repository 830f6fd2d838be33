/- machine.runs$1, the deferred closure: what it does where the machine is thrown out, and where it isn't. -/
import Derived.Test.YthnehhidlaggeaaMat
namespace Go.Proofs.Ythnehhidlaggeaa
set_option linter.unusedVariables false
set_option linter.unusedSimpArgs false
open Go.RowKit Mc

theorem asserts (v : Value) (w : World) : Sem.run Try.prog (Instr.typeAssert (.iface 177 v) 20 177 true) w = .ok (.tuple #[v, .bool true]) w := by kernel_rfl

set_option maxHeartbeats 1000000 in
theorem rec_thrown (bx x : Nat) (k : Int) (u : Value) (older : List PanicEntry) (w : World) (hb : w.cell? ⟨bx, 0, none⟩ = some (.pointer (some ⟨x, 0, none⟩))) (hc : w.cell? ⟨x, 17, none⟩ = some u) (hz : ∀ o, w.frozen? ⟨x, o, none⟩ = false) :
    CallsD Try.prog 96 #[.pointer (some ⟨bx, 0, none⟩)] (.panicking ({ v := .iface 177 (.agg #[.int .i64 k]), recovered := false } :: older)) w fun e u' w' =>
      e = .returned (.tuple #[]) ∧ u' = .panicking ({ v := .iface 177 (.agg #[.int .i64 k]), recovered := true } :: older) ∧ w' = (w.setCell ⟨x, 17, none⟩ (.int .i64 k)).alloc (.cells #[.int .i64 k] 177) := by
  refine callsD_of_wpS Try.func96 rfl fun c₀ cs hu => ?_
  apply wpS_seq
  apply wpS_region
  simp [wpOpsS, go_sem, recoverD, hu, Try.ntmps96, Exit.thenS]
  simp only [List.size_toArray, List.length_cons, List.length_nil, Nat.reduceAdd, Nat.reduceSub, Array.replicate_succ, Array.replicate_zero, List.push_toArray, List.append_toArray, List.nil_append, List.cons_append, List.setIfInBounds_toArray, List.set_cons_zero, List.set_cons_succ]
  clear hu
  have hta : ∀ (v : Value) (w : World), Sem.run Try.prog (Instr.typeAssert (.iface 177 v) 20 177 true) w = .ok (.tuple #[v, .bool true]) w := asserts
  refine wpS_of_wp ?_
  have hbl := lt_of_cell hb
  have hxl := lt_of_cell hc
  go_wp2_with fail
  simp [bodyPostS, results, Try.results96]

theorem rec_idle (bx : Nat) (w : World) :
    CallsD Try.prog 96 #[.pointer (some ⟨bx, 0, none⟩)] .returning w fun e u' w' => e = .returned (.tuple #[]) ∧ u' = .returning ∧ w' = w := by
  refine callsD_of_wpS Try.func96 rfl fun c₀ cs hu => ?_
  apply wpS_seq
  apply wpS_region
  simp [wpOpsS, go_sem, recoverD, hu, Try.ntmps96, Exit.thenS]
  simp only [List.size_toArray, List.length_cons, List.length_nil, Nat.reduceAdd, Nat.reduceSub, Array.replicate_succ, Array.replicate_zero, List.push_toArray, List.append_toArray, List.nil_append, List.cons_append, List.setIfInBounds_toArray, List.set_cons_zero, List.set_cons_succ]
  refine wpS_of_wp ?_
  have hu2 : c₀.mode = .returning := hu
  clear hu
  replace hu2 := Lib.hid hu2
  go_wp2_with fail
  have hu := hu2.out
  cases c₀
  simp_all [bodyPostS, results, Try.results96]

end Go.Proofs.Ythnehhidlaggeaa
