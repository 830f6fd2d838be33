/- Two rows of numbers, the same: scarfjointlaw.words; a load of several cells in a quiet region. -/
import Derived.Test.YthnehhidlaggeaaObjMem
import Derived.Deep.LoopGhost
import Derived.BigQuiet
import Derived.Deep.QuietTactic
import Derived.IntWalk
import Derived.Lib.Hide
namespace Go.Proofs.Ythnehhidlaggeaa
set_option linter.unusedVariables false
set_option linter.unusedSimpArgs false
open Go.RowKit Ob

set_option maxRecDepth 100000 in
set_option maxHeartbeats 4000000 in
theorem words_same (p p' : Option Addr) (n k k' : Nat) (l : List Int) (w : World) (hl : l.length = n) (hn : n ≤ 9223372036854775807) (h : SliceAt w .i32 p l) (h' : SliceAt w .i32 p' l) :
    Calls Try.prog 32 #[.slice p n k, .slice p' n k'] w fun e w' => e = .returned (.bool true) ∧ Below w.heap.size w w' := by
  have HL := Lib.hid hl
  have HS := Lib.hid (And.intro h h')
  clear h h' hl
  go_enter Try.func32, Try.ntmps32
  go_wp2_with fail
  go_loopg [5] n (fun gk i wr => ∃ j : Nat, j ≤ n ∧ gk = n - j ∧ i = .int .i64 j ∧ Below w.heap.size w wr)
  case atStart => exact ⟨0, by omega, rfl, rfl, Below.refl _ _⟩
  case round =>
    obtain ⟨j, hj, hgk, rfl, hb⟩ := hrel
    have HG := Lib.hid hgk
    have HB := Lib.hid hb
    clear hgk hb
    by_cases hlt : j < n
    · obtain ⟨x, c, co, c', co', rfl, rfl, k0, k1⟩ : ∃ x c co c' co', p = some ⟨c, co, none⟩ ∧ p' = some ⟨c', co', none⟩ ∧ wr.cell? ⟨c, co + j, none⟩ = some (.int .i32 x) ∧ wr.cell? ⟨c', co' + j, none⟩ = some (.int .i32 x) := by
        have hjl : j < l.length := by rw [HL.out]; exact hlt
        rcases HS.out.1 with h0 | ⟨c, co, rfl, hc, hr⟩
        · omega
        rcases HS.out.2 with h0 | ⟨c', co', rfl, hc', hr'⟩
        · omega
        exact ⟨l.getD j 0, c, co, c', co', rfl, rfl, (HB.out.cell (p := ⟨c, co + j, none⟩) hc).trans (hr j hjl), (HB.out.cell (p := ⟨c', co' + j, none⟩) hc').trans (hr' j hjl)⟩
      have hji : (j : Int) < n := by omega
      go_upto_region 6 with fail
      go_quiet (fail)
      go_wp2_with fail
      go_roundg (n - (j + 1))
      case measure => have := HG.out; omega
      case rel => exact ⟨j + 1, by omega, rfl, by go_num, ⟨HB.out.os, HB.out.tape, HB.out.output, HB.out.size, HB.out.block⟩⟩
    · obtain rfl : j = n := by omega
      go_wp2_with fail
      go_ret
      exact ⟨rfl, HB.out⟩

/-- a load of several cells, in a region whose operations only read -/
theorem quiet_load_mid {P : Program} {o : Oper} {a : Act} {K : Act → Prop} (w : World) (ty : TypeId) (x : Operand) (ho : o.op = .load ty x) (b off : Nat) (hx : a.eval x = .pointer (some ⟨b, off, none⟩)) (cs : List Value) (d : TypeDesc) (hc : w.rangeAt b off cs)
    (hu : P.underlying ty = some d) (hd : d.isRow = true) (hi : (P.info? ty).map (·.size) = some cs.length) (hk : K (a.put o.dst (.agg cs.toArray))) : o.quiet P a (fun w' => ∃ n, w' = w.drewN n) K := by
  refine ⟨.agg cs.toArray, ?_, hk⟩
  rintro w' ⟨n, rfl⟩
  unfold Oper.quietAt execOp
  simp only [ho, hx, Instr.loadAt, Instr.sureAddr, Sem.run_bind, Sem.run_pure, Result.andThen_ok, run_loadVar_mid (w.drewN n) b off ty cs d hc hu hd hi]
  exact ⟨rfl, rfl⟩

theorem slcAt_own {w : World} {b : Nat} {e : TypeId} {n c : Nat} {k : IntKind} {p : Option Addr} {l : List Int} (h : w.ownsRow b e 1 (.slice p n c) n (l.flatMap fun x => [Value.int k x])) : SliceAt w k p l := by
  have hfl : ∀ L : List Int, (L.flatMap fun x => [Value.int k x]) = L.map (Value.int k) := by
    intro L
    induction L with
    | nil => rfl
    | cons a L ih => rw [List.flatMap_cons, ih]; rfl
  rw [hfl] at h
  have hl := h.1
  rw [List.length_map, Nat.mul_one] at hl
  have hlt := h.lt
  have hc := fun g => h.cells (g := g)
  rcases h.2 with ⟨e, h0⟩ | ⟨g, cap, cur, e, _⟩
  · exact .inl (by omega)
  · injection e with e1 e2 e3
    subst e1
    refine .inr ⟨g, 0, rfl, (hlt g rfl).2, fun j hj => ?_⟩
    have := hc g rfl j (Value.int k l[j]) (by simp [hj])
    rw [add_at] at this
    rw [Nat.zero_add, this, List.getD_eq_getElem?_getD, List.getElem?_eq_getElem hj]
    rfl
theorem rwsAt_own {α : Type} (cells : α → List Value) (sz : Nat) (hsz : ∀ s, (cells s).length = sz) {w : World} {b : Nat} {e : TypeId} {n c : Nat} {p : Option Addr} {l : List α} (hn : l.length = n) (h : w.ownsRow b e sz (.slice p n c) n (l.flatMap cells)) : RowsAt w p sz (l.map cells) := by
  have hlt := h.lt
  have hc := fun g => h.cells (g := g)
  rcases h.2 with ⟨e, h0⟩ | ⟨g, cap, cur, e, _⟩
  · exact .inl (by rw [List.length_map]; omega)
  · injection e with e1 e2 e3
    subst e1
    refine .inr ⟨g, 0, rfl, (hlt g rfl).2, fun j hj => ?_⟩
    intro i u hu
    rw [List.length_map] at hj
    rw [List.getElem_map] at hu
    have hi : i < sz := by
      have := (List.getElem?_eq_some_iff.1 hu).1
      rw [hsz] at this
      exact this
    have key : ∀ (L : List α) (j : Nat) (hj : j < L.length), (L.flatMap cells)[j * sz + i]? = (cells L[j])[i]? := by
      intro L
      induction L with
      | nil => intro j hj; simp at hj
      | cons a L ih =>
        intro j hj
        rw [List.flatMap_cons]
        cases j with
        | zero =>
          rw [Nat.zero_mul, Nat.zero_add, List.getElem?_append_left (by rw [hsz]; exact hi)]
          rfl
        | succ j =>
          rw [List.getElem?_append_right (by rw [hsz, Nat.succ_mul]; omega), hsz, show (j + 1) * sz + i - sz = j * sz + i by rw [Nat.succ_mul]; omega, ih j (by simpa using hj)]
          rfl
    have := hc g rfl (j * sz + i) u (by rw [key l j hj]; exact hu)
    rw [add_at] at this
    rw [Nat.zero_add]
    exact this

end Go.Proofs.Ythnehhidlaggeaa
