/- For all objects, such as may not be among them, and every memory, the program makes the image, and tells where functions stand; or what is wrong first: the statement LinkMakes. No conditions. -/
import Derived.Test.YthnehhidlaggeaaMakesLaw
import Derived.Test.YthnehhidlaggeaaObjOpen
import Derived.HandedShaped
namespace Go.Proofs.Ythnehhidlaggeaa.lawMakes
set_option linter.unusedVariables false
set_option linter.unusedSimpArgs false
open Go.ChangeShapes Go.WideShapes Go.ChangeAt Go.RowKit Go.Deep Go.Joins Ob

instance : Inhabited OV := ⟨⟨none, none, none, none, 0, 0, 0, 0, 0, 0, 0, 0⟩⟩
instance : Inhabited Ob.Obj := ⟨⟨[], [], [], []⟩⟩
set_option maxRecDepth 100000 in
/-- one of a row's objects -/
theorem open_cells {H : Type} {enc : TypeId × Value → H} {W : World} {fuel : Nat} {cs : List Value} {x : DataW H × List MemPlace} (h : DataW.trod enc Try.prog W 0 (fun _ => true) true fuel 60 cs = some x) :
    ∃ z : OV × Ob.Obj, cs = z.1.cells ∧ ObjAt W z.1.pc z.1.pd z.1.ps z.1.pr z.1.n z.1.d z.1.m z.1.r z.2 := by
  obtain ⟨ys, n', hn', hy, hlen, hyl, hf⟩ := DataW.trod_struct Try.underlying60 h
  have h4 : cs.length = 4 := hlen.trans (by kernel_rfl)
  match cs, h4 with
  | [v0, v1, v2, v3], _ =>
    have hys : ys.length = 4 := hyl
    match ys, hys with
    | [y0, y1, y2, y3], _ =>
      have g0 : DataW.trod enc Try.prog W 0 (fun _ => true) true n' 31 [v0] = some y0 := hf 0 _ rfl
      have g1 : DataW.trod enc Try.prog W 0 (fun _ => true) true n' 32 [v1] = some y1 := hf 1 _ rfl
      have g2 : DataW.trod enc Try.prog W 0 (fun _ => true) true n' 57 [v2] = some y2 := hf 2 _ rfl
      have g3 : DataW.trod enc Try.prog W 0 (fun _ => true) true n' 58 [v3] = some y3 := hf 3 _ rfl
      obtain ⟨p0, n0, c0, l0, rfl, a1, a2, a3, a4, a5⟩ := open_row Try.underlying31 Try.underlying22 (by kernel_rfl) g0
      obtain ⟨p1, n1, c1, l1, rfl, b1, b2, b3, b4, b5⟩ := open_row Try.underlying32 Try.underlying21 (by kernel_rfl) g1
      obtain ⟨p2, n2, c2, l2, rfl, d1, d2, d3, d4, d5⟩ := open_rows symCells SymIn 7 Try.underlying57 (by kernel_rfl) (by omega) (fun _ => rfl) (fun _ _ _ h => open_sym h) g2
      obtain ⟨p3, n3, c3, l3, rfl, e1, e2, e3, e4, e5⟩ := open_rows relCells RelIn 3 Try.underlying58 (by kernel_rfl) (by omega) (fun _ => rfl) (fun _ _ _ h => open_rel h) g3
      exact ⟨(⟨p0, p1, p2, p3, n0, c0, n1, c1, n2, c2, n3, c3⟩, ⟨l0, l1, l2, l3⟩), rfl, ⟨a3, b3, d3, e3, show n0 ≤ _ by omega, show n1 ≤ _ by omega, show n2 ≤ _ by omega, show n3 ≤ _ by omega, a4, b4, d4, e4, inu32_of_wf a5, in32_of_wf b5, d5, e5⟩⟩
/-- objects that came in -/
theorem open_objs {H : Type} {enc : TypeId × Value → H} {W : World} {fuel : Nat} {v : Value} {x : DataW H × List MemPlace} (h : DataW.trod enc Try.prog W 0 (fun _ => true) true fuel 70 [v] = some x) :
    ∃ p n kap, v = .slice p n kap ∧ (n = 0 ∨ ∃ c co vs os, p = some ⟨c, co, none⟩ ∧ ObjsAt W c co n vs os) := by
  have hc : Try.prog.cellsOf 60 = 4 := by kernel_rfl
  rcases open_slice Try.underlying70 h with ⟨hcs, hx⟩ | ⟨a, len, cap, m, n, D, Pl, hcs, hb, hl, hm, hmm, hx, hi⟩
  · simp only [List.cons.injEq, and_true] at hcs
    exact ⟨none, 0, 0, hcs, .inl rfl⟩
  · simp only [List.cons.injEq, and_true] at hcs
    simp only [if_true] at hmm
    refine ⟨some a, len, cap, hcs, ?_⟩
    by_cases h0 : len = 0
    · exact .inl h0
    right
    obtain ⟨f, hf⟩ := choose_lt (n := m) (α := OV × Ob.Obj) (p := fun i z => W.cells? 0 (a.add (i * 4)) 4 = some z.1.cells ∧ ObjAt W z.1.pc z.1.pd z.1.ps z.1.pr z.1.n z.1.d z.1.m z.1.r z.2) (fun i him => by
      obtain ⟨cs', h1, h2⟩ := hi i him
      obtain ⟨z, rfl, hg⟩ := open_cells h2
      rw [hc] at h1
      exact ⟨z, h1, hg⟩)
    obtain ⟨_, hl0, h0c⟩ := World.cells?_some (hf 0 (by omega)).1
    have c0 := h0c 0 (by omega)
    rw [List.getElem?_eq_getElem (by rw [hl0]; omega)] at c0
    obtain ⟨b, off, spot⟩ := a
    have hsp : spot = none := by
      unfold Addr.add at c0
      simp at c0
      exact World.cell?_spot (a := ⟨b, off, spot⟩) c0
    subst hsp
    refine ⟨b, off, (List.range len).map fun i => (f i).1, (List.range len).map fun i => (f i).2, rfl, by simp, by simp, ?_, ?_, ?_⟩
    · rw [add_plain, add_plain] at c0
      exact lt_of_cell c0
    · intro j hj
      simp only [List.length_map, List.length_range] at hj
      intro i u hu
      simp only [List.getElem_map, List.getElem_range] at hu
      obtain ⟨_, hlj, hjc⟩ := World.cells?_some (hf j (by omega)).1
      have hil : i < ((f j).1.cells).length := (List.getElem?_eq_some_iff.1 hu).1
      have := hjc i (by rw [hlj] at hil; exact hil)
      rw [add_plain, add_plain] at this
      rw [this]
      exact hu
    · intro j hj hj'
      simp only [List.length_map, List.length_range] at hj
      simp only [List.getElem_map, List.getElem_range]
      exact (hf j (by omega)).2

theorem own : ownKnob Try.prog.godebug = none := by kernel_rfl

set_option maxRecDepth 100000 in
theorem lifted (os : Os) (started : os.Started) (H : Type) (enc : TypeId × Value → H) :
    ReturnsInHanded {} Try.checked os 10 .any (Rows.linkMakesSpec.pre6 enc Try.prog Try.f10 Rows.linkMakesRow.domain false) (Rows.linkMakesSpec.post enc Try.prog Try.f10 false true false false) := by
  refine returnsInHanded_of_change_shaped (C := Try.checked) own started (by kernel_rfl) Try.func10
    (ChangeSpec.witness6 (enc := enc) (C := Try.checked) false ⟨#[], #[.slice none 0 0, .int .i64 0], []⟩ 8 (by kernel_rfl) (by kernel_rfl) (by kernel_rfl) (by kernel_rfl)) ?_
  intro W base args ds gs before hval0 hW hcnd _ hsh _
  have hval : ∀ (j : Nat) t v, Try.f10.params[j]? = some t → args[j]? = some v → Value.okWide Try.prog W .any base t v := hval0
  have hW' := hW
  obtain ⟨p, q, hA0, hV, rfl, hfz, hnd⟩ := hW
  have hA : DataW.TrodAll enc Try.prog W 0 (fun _ => true) true Try.f10.params.toList args.toList ds p := hA0
  obtain ⟨rfl, rfl⟩ := trodVars_none hV
  simp only [List.append_nil] at hW'
  have hA2 := hA
  rw [Try.params10] at hA2 hval
  obtain ⟨v0, vs0, d0, ds0, p0, q0, hargs, rfl, rfl, h0, r0⟩ := trodAll_cons hA2
  obtain ⟨v1, vs1, d1, ds1, p1, q1, rfl, rfl, rfl, h1, r1⟩ := trodAll_cons r0
  obtain ⟨rfl, rfl, rfl⟩ := trodAll_nil r1
  obtain rfl : args = #[v0, v1] := by cases args; simp_all
  obtain ⟨a0, len, cap, rfl⟩ := okWide_slice Try.underlying70 (hval 0 70 v0 rfl rfl)
  obtain ⟨mem, rfl, rfl, rfl, wx⟩ := open_int Try.underlying3 (hval 1 3 v1 rfl rfl) h1
  obtain ⟨fuel, hf⟩ := h0
  obtain ⟨pp, n, kap, he, hos⟩ := open_objs hf
  obtain ⟨rfl, rfl, rfl⟩ : a0 = pp ∧ len = n ∧ cap = kap := by
    injection he with e1 e2 e3
    exact ⟨e1, e2, e3⟩
  have hmw := in64_of_wf wx
  unfold In64 at hmw
  obtain ⟨mx, hmx⟩ := Go.Proofs.cell_of_shapedOpen_int (zero := #[.int .i64 0]) (t := 3) (g := 0) hsh (of_decide_eq_true (by kernel_rfl)) (by kernel_rfl) rfl (by kernel_rfl) (by kernel_rfl) Try.underlying3
  have hcall : Calls Try.prog 10 #[.slice a0 len cap, .int .i64 mem] W fun e w' => e = .returned (.bool true) ∧ Below W.heap.size W w' := by
    by_cases hn : len < 1 ∨ 4 < len
    · exact makes_size a0 len cap mem W hn
    · rcases hos with h0 | ⟨c, co, vs, os, rfl, ho⟩
      · omega
      · exact makes_law c co len cap vs os mem mx W ho hmx hmw.1 hmw.2 (by omega) (by omega)
  refine hcall.mono fun e W' ⟨he, hg⟩ => ?_
  subst he
  exact ⟨_, rfl, post_of_args (by kernel_rfl) (by rw [Try.params10]; decide +kernel) hW' hA (fun _ _ _ => (trodAll_cons_mk (shut_bool Try.underlying4 _) trodAll_mk0)) rfl (fun _ => rfl)
    hg (ok_one (by kernel_rfl) rfl (okWide_bool_mk Try.underlying4 _))⟩

theorem over : Rows.linkMakesRow.holds Try.pinned (OpenSpec.ofChange Rows.linkMakesSpec) :=
  OpenClaim.holds_of_wide 10 Try.f10 rfl rfl rfl rfl rfl rfl rfl ⟨rfl, rfl, rfl, rfl, rfl⟩ rfl rfl rfl rfl rfl (by kernel_rfl) Try.func10 (by kernel_rfl)
    (of_decide_eq_true (by kernel_rfl)) (by unfold Func.isWrapper; first | (rw [if_pos (by decide +kernel)]; kernel_rfl) | (rw [if_neg (by decide +kernel)]; exact ⟨rfl, rfl⟩))
    (fun os started H enc _ => lifted os started H enc)

theorem proved : Rows.LinkMakesSaid :=
  over

end Go.Proofs.Ythnehhidlaggeaa.lawMakes
