/- One start that fits: the seven listed variables as their initialisers lay them; what the list gives. -/
import Derived.Test.YthnehhidlaggeaaDoorCards
import Derived.Test.YthnehhidlaggeaaDoorTie
import Derived.Test.YthnehhidlaggeaaDoorPost
import Derived.ProofKit
import Derived.OpenShut
import Derived.Deep.DeepHandedRow
import Derived.LaidLaws
import Derived.Lib.LaidTab
import Derived.Stop.LaidErr
import Derived.SevenTiedAt
import Derived.Lib.ItoaNum
import Derived.Shelf.Vars
namespace Go.Proofs.YthnehhidlaggeaaDoor
set_option linter.unusedVariables false
set_option linter.unusedSimpArgs false
open Go.RowKit Go.WideShapes Go.ChangeShapes

theorem ownK : ownKnob Tryd.prog.godebug = none := by kernel_rfl
def tab32 : List Int := [0, 1, 28, 2, 29, 14, 24, 3, 30, 22, 20, 15, 25, 17, 4, 8, 31, 27, 13, 23, 21, 19, 16, 7, 26, 12, 18, 6, 11, 5, 10, 9]
def tab64 : List Int := [0, 1, 56, 2, 57, 49, 28, 3, 61, 58, 42, 50, 38, 29, 17, 4, 62, 47, 59, 36, 45, 43, 51, 22, 53, 39, 33, 30, 24, 18, 12, 5, 63, 55, 48, 27, 60, 41, 37, 16, 46, 35, 44, 21, 52, 32, 23, 11, 54, 26, 40, 15, 34, 20, 31, 10, 25, 14, 19, 9, 13, 8, 7, 6]
def tabRng : List Int := [128, 191, 160, 191, 128, 159, 144, 191, 128, 143, 0, 0, 0, 0, 0, 0, 0, 0, 0, 0, 0, 0, 0, 0, 0, 0, 0, 0, 0, 0, 0, 0]
def lay (g : Nat) (cs : Array Value) (h : Array Obj) : Array Obj := h.modify g fun
  | .cells _ t frozen => .cells cs t frozen
  | o => o
def synS : ByteArray := ⟨#[105, 110, 118, 97, 108, 105, 100, 32, 115, 121, 110, 116, 97, 120]⟩
def rngS : ByteArray := ⟨#[118, 97, 108, 117, 101, 32, 111, 117, 116, 32, 111, 102, 32, 114, 97, 110, 103, 101]⟩
noncomputable def low : Nat := (World.holding Tryd.prog default ⟨#[], #[], []⟩).heap.size
noncomputable def laidWorld (os : Os) : World :=
  let w0 := World.holding Tryd.prog os ⟨#[.cells #[.string synS] 120, .cells #[.string rngS] 120], #[], []⟩
  { w0 with heap := lay 0 #[.iface 118 (.pointer (some ⟨low, 0, none⟩))] (lay 1 #[.iface 118 (.pointer (some ⟨low + 1, 0, none⟩))]
      (lay 3 (Lib.pow10Tab.map fun z => Value.int .u64 z).toArray (lay 4 (Pinned.utf8FirstZ.map fun (z : Nat) => Value.int .u8 (z : Int)).toArray (lay 5 (tabRng.map fun z => Value.int .u8 z).toArray (lay 6 (tab32.map fun z => Value.int .u8 z).toArray (lay 7 (tab64.map fun z => Value.int .u8 z).toArray w0.heap)))))) }
theorem laid_met (os : Os) (args : Array Value) : laidMet Tryd.prog Rows.codeBackRow.laid ((laidWorld os).forCall (fun _ _ => 0) ⟨#[], args, []⟩).memory :=
  laidMet_of_run' 8 (by kernel_rfl) (by kernel_rfl)
theorem pow_named : Tryd.prog.globalNamed "internal/strconv.uint64pow10" = some 3 := by kernel_rfl
theorem pow_type : (Tryd.prog.globals[3]?).map (·.type) = some 113 := by kernel_rfl
theorem cells_pow : Tryd.prog.cellsOf 113 = 20 := by kernel_rfl
theorem cells_u64 : Tryd.prog.cellsOf 95 = 1 := by kernel_rfl
theorem tab_of_laid {W : World} (h : laidMet Tryd.prog Rows.codeBackRow.laid W) : Lib.TabIs Tryd.prog W "internal/strconv.uint64pow10" .u64 Lib.pow10Tab :=
  Lib.tabIs_of_head pow_named pow_type Tryd.underlying113 Tryd.underlying95 cells_u64 cells_pow (laidMet.tail (laidMet.tail h))
theorem syn_named : Tryd.prog.globalNamed "strconv.ErrSyntax" = some 0 := by kernel_rfl
theorem syn_type : (Tryd.prog.globals[0]?).map (·.type) = some 57 := by kernel_rfl
theorem rng_named : Tryd.prog.globalNamed "strconv.ErrRange" = some 1 := by kernel_rfl
theorem rng_type : (Tryd.prog.globals[1]?).map (·.type) = some 57 := by kernel_rfl
theorem es_star : "*" ++ "errors.errorString" = "*errors.errorString" := by decide
theorem es_row (u : TypeId) (h : Tryd.prog.typeName? 3 u = some "*errors.errorString") : u = 118 :=
  typeName_ptr_named (nm := "errors.errorString") (by rw [es_star]; kernel_rfl) (by kernel_rfl) (by decide) u (by rw [es_star]; exact h)
theorem cells_es : Tryd.prog.cellsOf 120 = 1 := by kernel_rfl
theorem cells_str : Tryd.prog.cellsOf 9 = 1 := by kernel_rfl
theorem rng_of_laid {W : World} (h : laidMet Tryd.prog Rows.codeBackRow.laid W) : ∃ t p, W.cell? ⟨1, 0, none⟩ = some (.iface t p) := by
  obtain ⟨a, s, hv, _⟩ := laid_sentinel (laidMet.tail (laidMet.tail (laidMet.tail (laidMet.tail h)))) rng_named rng_type Tryd.underlying57 es_row Tryd.underlying118 Tryd.underlying120 rfl rfl Tryd.underlying9 cells_es cells_str
  exact ⟨_, _, by simpa using World.var?_cell rng_named hv 0⟩
theorem syn_of_laid {W : World} (h : laidMet Tryd.prog Rows.codeBackRow.laid W) : ∃ t p, W.cell? ⟨0, 0, none⟩ = some (.iface t p) := by
  obtain ⟨a, s, hv, _⟩ := laid_sentinel (laidMet.tail (laidMet.tail (laidMet.tail (laidMet.tail (laidMet.tail h))))) syn_named syn_type Tryd.underlying57 es_row Tryd.underlying118 Tryd.underlying120 rfl rfl Tryd.underlying9 cells_es cells_str
  exact ⟨_, _, by simpa using World.var?_cell syn_named hv 0⟩
theorem max_of_shaped {W : World} (h : W.ShapedOpen Tryd.prog) : ∃ m, W.cell? ⟨2, 0, none⟩ = some (.int .i64 m) :=
  Go.Proofs.cell_of_shapedOpen_int (zero := #[.int .i64 0]) (t := 3) (g := 2) h (of_decide_eq_true (by kernel_rfl)) (by kernel_rfl) rfl (by kernel_rfl) (by kernel_rfl) Tryd.underlying3

def In64 (n : Int) : Prop := -9223372036854775808 ≤ n ∧ n ≤ 9223372036854775807
theorem in64_of_wf {n : Int} (h : (Lit.int .i64 n).wf = true) : In64 n := by
  unfold In64
  simpa [Lit.wf, IntKind.min, IntKind.max, IntKind.signed, IntKind.bits] using h
set_option maxRecDepth 100000 in
/-- an instruction that came in -/
theorem open_instr {H : Type} {enc : TypeId × Value → H} {W : World} {b0 : Nat} {v : Value} {x : DataW H} {p : List MemPlace} (hv : Value.okWide Tryd.prog W .any b0 23 v) (h : DataW.Trod enc Tryd.prog W 0 (fun _ => true) true 23 v x p) :
    ∃ op a b c i : Int, v = .agg #[.int .i64 op, .int .i64 a, .int .i64 b, .int .i64 c, .int .i64 i] ∧ In64 op := by
  obtain ⟨cs, rfl, hsz⟩ := okWide_struct Tryd.underlying23 hv
  obtain ⟨fuel, hf0⟩ := h
  obtain ⟨l⟩ := cs
  have h5 : l.length = 5 := hsz.trans (by kernel_rfl)
  match l, h5 with
  | [v0, v1, v2, v3, v4], _ =>
    obtain ⟨ys, n', hn', hy, hlen, hyl, hf⟩ := DataW.trod_struct Tryd.underlying23 hf0
    have hys : ys.length = 5 := hyl
    match ys, hys with
    | [y0, y1, y2, y3, y4], _ =>
      have g0 : DataW.trod enc Tryd.prog W 0 (fun _ => true) true n' 3 [v0] = some y0 := hf 0 _ rfl
      have g1 : DataW.trod enc Tryd.prog W 0 (fun _ => true) true n' 3 [v1] = some y1 := hf 1 _ rfl
      have g2 : DataW.trod enc Tryd.prog W 0 (fun _ => true) true n' 3 [v2] = some y2 := hf 2 _ rfl
      have g3 : DataW.trod enc Tryd.prog W 0 (fun _ => true) true n' 3 [v3] = some y3 := hf 3 _ rfl
      have g4 : DataW.trod enc Tryd.prog W 0 (fun _ => true) true n' 3 [v4] = some y4 := hf 4 _ rfl
      obtain ⟨s0, e0, _, z0⟩ := DataW.trod_int Tryd.underlying3 g0
      obtain ⟨s1, e1, _, z1⟩ := DataW.trod_int Tryd.underlying3 g1
      obtain ⟨s2, e2, _, z2⟩ := DataW.trod_int Tryd.underlying3 g2
      obtain ⟨s3, e3, _, z3⟩ := DataW.trod_int Tryd.underlying3 g3
      obtain ⟨s4, e4, _, z4⟩ := DataW.trod_int Tryd.underlying3 g4
      simp only [List.cons.injEq, and_true] at e0 e1 e2 e3 e4
      subst e0 e1 e2 e3 e4
      exact ⟨_, _, _, _, _, rfl, in64_of_wf z0⟩

end Go.Proofs.YthnehhidlaggeaaDoor
