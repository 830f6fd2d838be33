/- Arguments opened: a slice of numbers; an image. -/
import Derived.Test.YthnehhidlaggeaaSlice
import Derived.Test.YthnehhidlaggeaaMkit
import Derived.Test.YthnehhidlaggeaaPost
import Derived.Lib.SmallJoins
import Derived.ProofKit
import Derived.OpenShut
namespace Go.Proofs.Ythnehhidlaggeaa
set_option linter.unusedVariables false
set_option linter.unusedSimpArgs false
open Go.RowKit Go.WideShapes Go.ChangeShapes Go.Joins

/-- numbers of a kind -/
def WfAll (k : IntKind) (l : List Int) : Prop := ∀ n ∈ l, (Lit.int k n).wf = true
theorem open_row {H : Type} {enc : TypeId × Value → H} {W : World} {t e : TypeId} {k : IntKind} {fuel : Nat} {v : Value} {x : DataW H × List MemPlace} (ht : Try.prog.underlying t = some (.slice e)) (he : Try.prog.underlying e = some (.int k)) (hc : Try.prog.cellsOf e = 1)
    (h : DataW.trod enc Try.prog W 0 (fun _ => true) true fuel t [v] = some x) : ∃ p n c l, v = .slice p n c ∧ n ≤ c ∧ c ≤ 9223372036854775807 ∧ l.length = n ∧ SliceAt W k p l ∧ WfAll k l := by
  rcases open_ints ht he hc h with ⟨hcs, hx⟩ | ⟨a, len, cap, zs, hcs, _, hl, hm, hz, hx, hcell, hwz⟩
  · simp only [List.cons.injEq, and_true] at hcs
    exact ⟨none, 0, 0, [], hcs, by omega, by omega, rfl, .inl rfl, fun n hn => by cases hn⟩
  · simp only [List.cons.injEq, and_true] at hcs
    simp only [if_true] at hz
    refine ⟨some a, len, cap, zs.take len, hcs, hl, by unfold maxLen at hm; omega, by rw [List.length_take]; omega, ?_, fun n hn => hwz n (List.mem_of_mem_take hn)⟩
    by_cases h0 : len = 0
    · exact .inl (by rw [List.length_take]; omega)
    · right
      have c0 := hcell 0 (by omega)
      have hs := World.cell?_spot c0
      obtain ⟨b, off, spot⟩ := a
      have hsp : spot = none := by
        unfold Addr.add at c0
        simp at c0
        exact World.cell?_spot (a := ⟨b, off, spot⟩) c0
      subst hsp
      refine ⟨b, off, rfl, ?_, ?_⟩
      · rw [add_plain] at c0
        exact lt_of_cell c0
      · intro j hj
        rw [List.length_take] at hj
        have cj := hcell j (by omega)
        rw [add_plain] at cj
        rw [cj, List.getD_eq_getElem?_getD, List.getD_eq_getElem?_getD, List.getElem?_take, if_pos (by omega)]
theorem in32_of_wf {l : List Int} (h : WfAll .i32 l) : In32 l := by
  refine in32_of fun v hv => ?_
  simpa [Lit.wf, IntKind.min, IntKind.max, IntKind.signed, IntKind.bits] using h v hv
theorem inu32_of_wf {l : List Int} (h : WfAll .u32 l) : ∀ j : Nat, 0 ≤ l.getD j 0 ∧ l.getD j 0 ≤ 4294967295 := by
  intro j
  rw [List.getD_eq_getElem?_getD]
  by_cases hj : j < l.length
  · rw [List.getElem?_eq_getElem hj]
    simpa [Lit.wf, IntKind.min, IntKind.max, IntKind.signed, IntKind.bits] using h _ (List.getElem_mem hj)
  · rw [List.getElem?_eq_none (by omega)]
    simp

/-- an image that came in -/
structure ImageIn (W : World) (v : Value) (pc pd : Option Addr) (cl dl : List Int) (n kn d kd : Nat) (mem : Int) : Prop where
  val : v = .agg #[.slice pc n kn, .slice pd d kd, .int .i64 mem]
  nl : cl.length = n
  ll : dl.length = d
  nb : n ≤ 9223372036854775807
  db : d ≤ 9223372036854775807
  code : SliceAt W .u32 pc cl
  data : SliceAt W .i32 pd dl
  u32 : ∀ j : Nat, 0 ≤ cl.getD j 0 ∧ cl.getD j 0 ≤ 4294967295
  i32 : In32 dl
  m1 : -9223372036854775808 ≤ mem
  m2 : mem ≤ 9223372036854775807
set_option maxRecDepth 100000 in
theorem open_image {H : Type} {enc : TypeId × Value → H} {W : World} {b0 : Nat} {v : Value} {x : DataW H} {p : List MemPlace} (hv : Value.okWide Try.prog W .any b0 34 v) (h : DataW.Trod enc Try.prog W 0 (fun _ => true) true 34 v x p) :
    ∃ pc pd cl dl n kn d kd mem, ImageIn W v pc pd cl dl n kn d kd mem := by
  obtain ⟨v0, v1, v2, y0, y1, y2, n, rfl, rfl, rfl, h0, h1, h2⟩ := open_agg3 Try.underlying34 (by kernel_rfl) (by kernel_rfl) hv h
  obtain ⟨p0, n0, c0, l0, rfl, a1, a2, a3, a4, a5⟩ := open_row Try.underlying31 Try.underlying22 (by kernel_rfl) h0
  obtain ⟨p1, n1, c1, l1, rfl, b1, b2, b3, b4, b5⟩ := open_row Try.underlying32 Try.underlying21 (by kernel_rfl) h1
  obtain ⟨mem, hc, _, hw⟩ := DataW.trod_int Try.underlying3 h2
  simp only [List.cons.injEq, and_true] at hc
  subst hc
  have hm : -9223372036854775808 ≤ mem ∧ mem ≤ 9223372036854775807 := by simpa [Lit.wf, IntKind.min, IntKind.max, IntKind.signed, IntKind.bits] using hw
  exact ⟨p0, p1, l0, l1, n0, c0, n1, c1, mem, ⟨rfl, a3, b3, by omega, by omega, a4, b4, inu32_of_wf a5, in32_of_wf b5, hm.1, hm.2⟩⟩

end Go.Proofs.Ythnehhidlaggeaa
