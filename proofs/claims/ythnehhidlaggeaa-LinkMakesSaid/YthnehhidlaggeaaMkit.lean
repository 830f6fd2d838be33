/- Small lemmas for the machine's walks, and give, at: the walks. -/
import Derived.Test.YthnehhidlaggeaaKit
import Derived.Deep.RegionHeld3
import Derived.StillTailTactics
import Derived.Defers
import Derived.Recover
import Derived.Deep.RegionWith
import Derived.Maps.AppendAt
namespace Go.Proofs.Ythnehhidlaggeaa
set_option linter.unusedVariables false
set_option linter.unusedSimpArgs false
open Go.RowKit

/-- a region that draws its order, whose first n operations only read, and whose tail stands in one forced order -/
theorem region_tail {P : Program} {id : Nat} {Q : Exit → Act → World → Prop} {a : Act} {w : World} {l : List Oper} (n : Nat) (hm : P.follows .mixedOrders = true) (hB : Region.lexTailB .any l.toArray n = true)
    (h : wpStill P l.toArray w.drew (fun a' => wpList P l.toArray Q (l.drop n) a' w.drew) (l.take n) a) : (Code.region id l.toArray true).wp P Q a w :=
  wp_region_still_tail n hm hB h
theorem lt_of_cell {w : World} {b o : Nat} {v : Value} (h : w.cell? ⟨b, o, none⟩ = some v) : b < w.heap.size := by
  unfold World.cell? at h
  rcases e : w.heap[b]? with _ | q
  · simp [e] at h
  · exact lt_of_block e
theorem mixed : Try.prog.follows .mixedOrders = true := by kernel_rfl

theorem cells1_of {w : World} {b : Nat} {t : TypeId} {v : Value} (h : w.heap[b]? = some (.cells #[v] t (0, 0))) : ∀ j u, [v][j]? = some u → w.cell? ((⟨b, 0, none⟩ : Addr).add j) = some u := by
  intro j u hj
  rw [add_at, cell_of_row w b j _ _ _ h, ← hj]
  simp

/-- append onto a row of the call's own, as a step of a region -/
theorem step_append_own {P : Program} {w : World} {ops : Array Oper} {o : Oper} {a : Act} {K : Act → World → Prop} {Q : Exit → Act → World → Prop} {E : Prop} (hgd : o.guard = none) (s x : Operand) (t : TypeId)
    (ho : o.op = .call { callee := .builtin .append, args := #[s, x], argTypes := #[t, t] })
    (base : Nat) (e : TypeId) (i : TypeInfo) (z : Value) (size bytes : Nat) (ht : P.underlying t = some (.slice e)) (hi : P.info? e = some i) (hz : i.zero = some z)
    (hsize : i.size = size) (hby : i.bytes = bytes) (hzs : z.cells.size = size) (hsz : 0 < size)
    (v : Value) (n : Nat) (xs : List Value) (hs : a.eval s = v) (hown : w.ownsRow base e size v n xs)
    (ad : Addr) (m c : Nat) (news : List Value) (hx : a.eval x = .slice (some ad) m c) (hl : news.length = m * size) (hnews : ∀ j u, news[j]? = some u → w.cell? (ad.add j) = some u) (h1 : ∀ u ∈ news, u.oneCell' = true)
    (h63 : n + m ≤ maxLen) (hbytes : (n + m) * bytes ≤ 140737488355328) (hbase : base ≤ w.heap.size)
    (h : ∀ v' w', w'.ownsRow base e size v' (n + m) (xs ++ news) → w.grownBy w' v.ownBlock → (v'.ownBlock = v.ownBlock ∨ v'.ownBlock = some w.heap.size) → K (a.put o.dst v') w') :
    if Region.wanted o (yielded ops a.tmps) = true then Oper.wp P o a w K Q else E := by
  have hw : Region.wanted o (yielded ops a.tmps) = true := by simp [Region.wanted, hgd]
  rw [if_pos hw]
  obtain ⟨v', w', hr, h2, h3, _, h5⟩ := run_append_own_at (P := P) w base t o.type e i z size bytes ht hi hz hsize hby hzs hsz v n xs hown ad m c news hl hnews h1 h63 hbytes hbase
  unfold Oper.wp execOp
  simp only [ho, resolve, invoke, builtin, Sem.run_bind, Sem.run_pure, Result.andThen_ok, List.map_toArray, List.map_cons, List.map_nil, hs, hx, hr]
  exact h v' w' h2 h3 h5

/-- how a machine ends: what is thrown -/
def thrown (k : Int) : Ending := .panicked [{ v := .iface 177 (.agg #[.int .i64 k]), recovered := false }]

set_option maxHeartbeats 400000 in
theorem give_reg (x r : Nat) (v : Int) (u : Value) (w : World) (hr : r < 16) (h13 : r ≠ 13) (hc : w.cell? ⟨x, r, none⟩ = some u) (hz : ∀ o, w.frozen? ⟨x, o, none⟩ = false) :
    Calls Try.prog 109 #[.pointer (some ⟨x, 0, none⟩), .int .i64 r, .int .i32 v] w fun e w' => e = .returned (.tuple #[]) ∧ w.setCell ⟨x, r, none⟩ (.int .i32 v) = w' := by
  have ht : ((r : Int) != 13) = true := by rw [bne_iff_ne]; omega
  clear h13
  go_enter Try.func109, Try.ntmps109
  go_wp2_with fail
  refine bodyPost_ret (results_none rfl _ _ _) rfl ?_
  exact ⟨rfl, rfl⟩

/-- the stack's register, in its range -/
theorem give_sp (x g : Nat) (v u low : Int) (M cap : Nat) (w : World) (v1 : -2147483648 ≤ v) (v2 : v ≤ 2147483647) (hc : w.cell? ⟨x, 13, none⟩ = some (.int .i32 u)) (hl : w.cell? ⟨x, 22, none⟩ = some (.int .i64 low))
    (hw : w.cell? ⟨x, 23, none⟩ = some (.slice (some ⟨g, 0, none⟩) M cap)) (hz : ∀ o, w.frozen? ⟨x, o, none⟩ = false) (h1 : low ≤ v) (h2 : v ≤ M) :
    Calls Try.prog 109 #[.pointer (some ⟨x, 0, none⟩), .int .i64 13, .int .i32 v] w fun e w' => e = .returned (.tuple #[]) ∧ w.setCell ⟨x, 13, none⟩ (.int .i32 v) = w' := by
  go_enter Try.func109, Try.ntmps109
  go_wp2_with fail
  go_end0
  exact ⟨rfl, rfl⟩

theorem give_full (x g : Nat) (v u low : Int) (w : World) (v1 : -2147483648 ≤ v) (v2 : v ≤ 2147483647) (hc : w.cell? ⟨x, 13, none⟩ = some (.int .i32 u)) (hl : w.cell? ⟨x, 22, none⟩ = some (.int .i64 low))
    (hz : ∀ o, w.frozen? ⟨x, o, none⟩ = false) (h1 : v < low) :
    Calls Try.prog 109 #[.pointer (some ⟨x, 0, none⟩), .int .i64 13, .int .i32 v] w fun e w' => e = thrown 3 ∧ w.setCell ⟨x, 13, none⟩ (.int .i32 v) = w' := by
  go_enter Try.func109, Try.ntmps109
  go_wp2_with fail
  exact ⟨rfl, rfl, rfl⟩

theorem give_wrong (x g : Nat) (v u low : Int) (M cap : Nat) (w : World) (v1 : -2147483648 ≤ v) (v2 : v ≤ 2147483647) (hc : w.cell? ⟨x, 13, none⟩ = some (.int .i32 u)) (hl : w.cell? ⟨x, 22, none⟩ = some (.int .i64 low))
    (hw : w.cell? ⟨x, 23, none⟩ = some (.slice (some ⟨g, 0, none⟩) M cap)) (hz : ∀ o, w.frozen? ⟨x, o, none⟩ = false) (h1 : low ≤ v) (h2 : (M : Int) < v) :
    Calls Try.prog 109 #[.pointer (some ⟨x, 0, none⟩), .int .i64 13, .int .i32 v] w fun e w' => e = thrown 4 ∧ w.setCell ⟨x, 13, none⟩ (.int .i32 v) = w' := by
  go_enter Try.func109, Try.ntmps109
  go_wp2_with fail
  exact ⟨rfl, rfl, rfl⟩

set_option maxRecDepth 100000 in
/-- an address that there is -/
theorem at_ok (x g b : Nat) (op a c i rb from_ : Int) (M cap : Nat) (w : World) (hb : b < 16) (hr : w.cell? ⟨x, b, none⟩ = some (.int .i32 rb))
    (hw : w.cell? ⟨x, 23, none⟩ = some (.slice (some ⟨g, 0, none⟩) M cap)) (r1 : -2147483648 ≤ rb) (r2 : rb ≤ 2147483647) (i1 : -32768 ≤ i) (i2 : i ≤ 65535) (h1 : from_ ≤ rb + i) (h2 : rb + i < M) :
    Calls Try.prog 110 #[.pointer (some ⟨x, 0, none⟩), .agg #[.int .i64 op, .int .i64 a, .int .i64 b, .int .i64 c, .int .i64 i], .int .i64 from_] w fun e w' =>
      e = .returned (.int .i64 (rb + i)) ∧ (w.alloc (.cells #[.int .i64 op, .int .i64 a, .int .i64 b, .int .i64 c, .int .i64 i] 24)).drew = w' := by
  have hbi : (b : Int) < 16 := by omega
  have hlt : x < w.heap.size := lt_of_cell hr
  go_enter Try.func110, Try.ntmps110
  go_wp2_with fail
  refine region_tail 12 mixed (by kernel_rfl) ?_
  simp only [List.take_succ_cons, List.take_zero, List.drop_succ_cons, List.drop_zero]
  repeat still_step
  refine wpStill_nil ?_
  go_wp2_with fail
  go_ret
  exact ⟨rfl, rfl⟩

set_option maxRecDepth 100000 in
/-- an address that there isn't -/
theorem at_wrong (x g b : Nat) (op a c i rb from_ : Int) (M cap : Nat) (w : World) (hb : b < 16) (hr : w.cell? ⟨x, b, none⟩ = some (.int .i32 rb))
    (hw : w.cell? ⟨x, 23, none⟩ = some (.slice (some ⟨g, 0, none⟩) M cap)) (r1 : -2147483648 ≤ rb) (r2 : rb ≤ 2147483647) (i1 : -32768 ≤ i) (i2 : i ≤ 65535) (h1 : rb + i < from_ ∨ M ≤ rb + i) :
    Calls Try.prog 110 #[.pointer (some ⟨x, 0, none⟩), .agg #[.int .i64 op, .int .i64 a, .int .i64 b, .int .i64 c, .int .i64 i], .int .i64 from_] w fun e w' =>
      e = thrown 4 ∧ (w.alloc (.cells #[.int .i64 op, .int .i64 a, .int .i64 b, .int .i64 c, .int .i64 i] 24)).drew = w' := by
  have hbi : (b : Int) < 16 := by omega
  have hlt : x < w.heap.size := lt_of_cell hr
  by_cases hf : rb + i < from_
  · clear h1
    go_enter Try.func110, Try.ntmps110
    go_wp2_with fail
    refine region_tail 12 mixed (by kernel_rfl) ?_
    simp only [List.take_succ_cons, List.take_zero, List.drop_succ_cons, List.drop_zero]
    repeat still_step
    refine wpStill_nil ?_
    go_wp2_with fail
    exact ⟨rfl, rfl, rfl⟩
  · have h2 : (M : Int) ≤ rb + i := by omega
    clear h1
    go_enter Try.func110, Try.ntmps110
    go_wp2_with fail
    refine region_tail 12 mixed (by kernel_rfl) ?_
    simp only [List.take_succ_cons, List.take_zero, List.drop_succ_cons, List.drop_zero]
    repeat still_step
    refine wpStill_nil ?_
    go_wp2_with fail
    exact ⟨rfl, rfl, rfl⟩

end Go.Proofs.Ythnehhidlaggeaa
