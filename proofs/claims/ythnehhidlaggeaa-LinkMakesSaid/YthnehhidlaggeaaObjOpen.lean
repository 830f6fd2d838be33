/- Arguments opened: an object. -/
import Derived.Test.YthnehhidlaggeaaImage
import Derived.Test.YthnehhidlaggeaaObjMem
namespace Go.Proofs.Ythnehhidlaggeaa
set_option linter.unusedVariables false
set_option linter.unusedSimpArgs false
open Go.RowKit Go.WideShapes Go.ChangeShapes Go.Joins Go.Deep Ob

instance : Inhabited Ob.Sym := ⟨⟨ByteArray.empty, 0, false, 0, 0, ByteArray.empty, 0⟩⟩
instance : Inhabited Ob.Rel := ⟨⟨0, 0, 0⟩⟩
theorem in64_of_wf {n : Int} (h : (Lit.int .i64 n).wf = true) : In64 n := by
  unfold In64
  simpa [Lit.wf, IntKind.min, IntKind.max, IntKind.signed, IntKind.bits] using h
set_option maxRecDepth 100000 in
theorem open_sym {H : Type} {enc : TypeId × Value → H} {W : World} {fuel : Nat} {cs : List Value} {x : DataW H × List MemPlace} (h : DataW.trod enc Try.prog W 0 (fun _ => true) true fuel 106 cs = some x) :
    ∃ s : Ob.Sym, cs = symCells s ∧ SymIn s := by
  obtain ⟨ys, n', hn', hy, hlen, hyl, hf⟩ := DataW.trod_struct Try.underlying106 h
  have h7 : cs.length = 7 := hlen.trans (by kernel_rfl)
  match cs, h7 with
  | [v0, v1, v2, v3, v4, v5, v6], _ =>
    have hys : ys.length = 7 := hyl
    match ys, hys with
    | [y0, y1, y2, y3, y4, y5, y6], _ =>
      have g0 : DataW.trod enc Try.prog W 0 (fun _ => true) true n' 9 [v0] = some y0 := hf 0 _ rfl
      have g1 : DataW.trod enc Try.prog W 0 (fun _ => true) true n' 3 [v1] = some y1 := hf 1 _ rfl
      have g2 : DataW.trod enc Try.prog W 0 (fun _ => true) true n' 4 [v2] = some y2 := hf 2 _ rfl
      have g3 : DataW.trod enc Try.prog W 0 (fun _ => true) true n' 3 [v3] = some y3 := hf 3 _ rfl
      have g4 : DataW.trod enc Try.prog W 0 (fun _ => true) true n' 3 [v4] = some y4 := hf 4 _ rfl
      have g5 : DataW.trod enc Try.prog W 0 (fun _ => true) true n' 9 [v5] = some y5 := hf 5 _ rfl
      have g6 : DataW.trod enc Try.prog W 0 (fun _ => true) true n' 3 [v6] = some y6 := hf 6 _ rfl
      obtain ⟨s0, e0, _, z0⟩ := DataW.trod_string Try.underlying9 g0
      obtain ⟨s1, e1, _, z1⟩ := DataW.trod_int Try.underlying3 g1
      obtain ⟨s2, e2, _⟩ := DataW.trod_bool Try.underlying4 g2
      obtain ⟨s3, e3, _, z3⟩ := DataW.trod_int Try.underlying3 g3
      obtain ⟨s4, e4, _, z4⟩ := DataW.trod_int Try.underlying3 g4
      obtain ⟨s5, e5, _, z5⟩ := DataW.trod_string Try.underlying9 g5
      obtain ⟨s6, e6, _, z6⟩ := DataW.trod_int Try.underlying3 g6
      simp only [List.cons.injEq, and_true] at e0 e1 e2 e3 e4 e5 e6
      subst e0 e1 e2 e3 e4 e5 e6
      exact ⟨⟨s0, s1, s2, s3, s4, s5, s6⟩, rfl, ⟨by unfold maxLen at z0; omega, by unfold maxLen at z5; omega, in64_of_wf z1, in64_of_wf z3, in64_of_wf z4, in64_of_wf z6⟩⟩
set_option maxRecDepth 100000 in
theorem open_rel {H : Type} {enc : TypeId × Value → H} {W : World} {fuel : Nat} {cs : List Value} {x : DataW H × List MemPlace} (h : DataW.trod enc Try.prog W 0 (fun _ => true) true fuel 110 cs = some x) :
    ∃ s : Ob.Rel, cs = relCells s ∧ RelIn s := by
  obtain ⟨ys, n', hn', hy, hlen, hyl, hf⟩ := DataW.trod_struct Try.underlying110 h
  have h7 : cs.length = 3 := hlen.trans (by kernel_rfl)
  match cs, h7 with
  | [v0, v1, v2], _ =>
    have hys : ys.length = 3 := hyl
    match ys, hys with
    | [y0, y1, y2], _ =>
      have g0 : DataW.trod enc Try.prog W 0 (fun _ => true) true n' 3 [v0] = some y0 := hf 0 _ rfl
      have g1 : DataW.trod enc Try.prog W 0 (fun _ => true) true n' 3 [v1] = some y1 := hf 1 _ rfl
      have g2 : DataW.trod enc Try.prog W 0 (fun _ => true) true n' 3 [v2] = some y2 := hf 2 _ rfl
      obtain ⟨s0, e0, _, z0⟩ := DataW.trod_int Try.underlying3 g0
      obtain ⟨s1, e1, _, z1⟩ := DataW.trod_int Try.underlying3 g1
      obtain ⟨s2, e2, _, z2⟩ := DataW.trod_int Try.underlying3 g2
      simp only [List.cons.injEq, and_true] at e0 e1 e2
      subst e0 e1 e2
      exact ⟨⟨s0, s1, s2⟩, rfl, ⟨in64_of_wf z0, in64_of_wf z1, in64_of_wf z2⟩⟩
/-- rows of structs that came in -/
theorem open_rows {α : Type} [Inhabited α] (cells : α → List Value) (good : α → Prop) (sz : Nat) {H : Type} {enc : TypeId × Value → H} {W : World} {t e : TypeId} {fuel : Nat} {v : Value} {x : DataW H × List MemPlace} (ht : Try.prog.underlying t = some (.slice e)) (hc : Try.prog.cellsOf e = sz) (hsz : 0 < sz)
    (hlen : ∀ s, (cells s).length = sz)
    (hone : ∀ fuel cs x, DataW.trod enc Try.prog W 0 (fun _ => true) true fuel e cs = some x → ∃ s, cs = cells s ∧ good s)
    (h : DataW.trod enc Try.prog W 0 (fun _ => true) true fuel t [v] = some x) : ∃ (p : Option Addr) (n c : Nat) (ls : List α), v = .slice p n c ∧ n ≤ c ∧ c ≤ 9223372036854775807 ∧ ls.length = n ∧ RowsAt W p sz (ls.map cells) ∧ ∀ s ∈ ls, good s := by
  rcases open_slice ht h with ⟨hcs, hx⟩ | ⟨a, len, cap, m, n, D, Pl, hcs, hb, hl, hm, hmm, hx, hi⟩
  · simp only [List.cons.injEq, and_true] at hcs
    exact ⟨none, 0, 0, [], hcs, by omega, by omega, rfl, .inl rfl, fun n hn => by cases hn⟩
  · simp only [List.cons.injEq, and_true] at hcs
    simp only [if_true] at hmm
    obtain ⟨f, hf⟩ := choose_lt (n := m) (α := α) (p := fun i s => W.cells? 0 (a.add (i * sz)) sz = some (cells s) ∧ good s) (fun i him => by
      obtain ⟨cs', h1, h2⟩ := hi i him
      obtain ⟨s, rfl, hg⟩ := hone _ _ _ h2
      rw [hc] at h1
      exact ⟨s, h1, hg⟩)
    refine ⟨some a, len, cap, (List.range len).map f, hcs, hl, by unfold maxLen at hm; omega, by simp, ?_, fun s hs => ?_⟩
    · by_cases h0 : len = 0
      · exact .inl (by simp [h0])
      · right
        obtain ⟨_, hl0, h0c⟩ := World.cells?_some (hf 0 (by omega)).1
        have c0 := h0c 0 (by omega)
        rw [List.getElem?_eq_getElem (by omega)] at c0
        obtain ⟨b, off, spot⟩ := a
        have hsp : spot = none := by
          unfold Addr.add at c0
          simp at c0
          exact World.cell?_spot (a := ⟨b, off, spot⟩) c0
        subst hsp
        refine ⟨b, off, rfl, ?_, ?_⟩
        · rw [add_plain, add_plain] at c0
          exact lt_of_cell c0
        · intro j hj
          simp only [List.length_map, List.length_range] at hj
          intro i u hu
          simp only [List.getElem_map, List.getElem_range] at hu
          obtain ⟨_, hlj, hjc⟩ := World.cells?_some (hf j (by omega)).1
          have hil : i < (cells (f j)).length := (List.getElem?_eq_some_iff.1 hu).1
          have := hjc i (by omega)
          rw [add_plain, add_plain] at this
          rw [this]
          exact hu
    · obtain ⟨i, hi', rfl⟩ := List.mem_map.1 hs
      exact (hf i (by have := List.mem_range.1 hi'; omega)).2

set_option maxRecDepth 100000 in
/-- an object that came in -/
theorem open_object {H : Type} {enc : TypeId × Value → H} {W : World} {b0 : Nat} {v : Value} {x : DataW H} {p : List MemPlace} (hv : Value.okWide Try.prog W .any b0 60 v) (h : DataW.Trod enc Try.prog W 0 (fun _ => true) true 60 v x p) :
    ∃ (pc pd ps pr : Option Addr) (n kn d kd m km r kr : Nat) (o : Ob.Obj), v = objV pc pd ps pr n kn d kd m km r kr ∧ ObjAt W pc pd ps pr n d m r o := by
  obtain ⟨v0, v1, v2, v3, y0, y1, y2, y3, n, rfl, rfl, rfl, h0, h1, h2, h3⟩ := open_agg4 Try.underlying60 (by kernel_rfl) (by kernel_rfl) hv h
  obtain ⟨p0, n0, c0, l0, rfl, a1, a2, a3, a4, a5⟩ := open_row Try.underlying31 Try.underlying22 (by kernel_rfl) h0
  obtain ⟨p1, n1, c1, l1, rfl, b1, b2, b3, b4, b5⟩ := open_row Try.underlying32 Try.underlying21 (by kernel_rfl) h1
  obtain ⟨p2, n2, c2, l2, rfl, d1, d2, d3, d4, d5⟩ := open_rows symCells SymIn 7 Try.underlying57 (by kernel_rfl) (by omega) (fun _ => rfl) (fun _ _ _ h => open_sym h) h2
  obtain ⟨p3, n3, c3, l3, rfl, e1, e2, e3, e4, e5⟩ := open_rows relCells RelIn 3 Try.underlying58 (by kernel_rfl) (by omega) (fun _ => rfl) (fun _ _ _ h => open_rel h) h3
  exact ⟨p0, p1, p2, p3, n0, c0, n1, c1, n2, c2, n3, c3, ⟨l0, l1, l2, l3⟩, rfl, ⟨a3, b3, d3, e3, by omega, by omega, by omega, by omega, a4, b4, d4, e4, inu32_of_wf a5, in32_of_wf b5, d5, e5⟩⟩

end Go.Proofs.Ythnehhidlaggeaa
