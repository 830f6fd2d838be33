/- Scarfjointref3's Step: what its walks lean on. -/
import Derived.Test.YthnehhidlaggeaaRPut
import Derived.Test.YthnehhidlaggeaaMachStep
import Derived.Test.YthnehhidlaggeaaRop
import Derived.Test.YthnehhidlaggeaaRw1
import Derived.Maps.AppendAt
import Derived.Deep.RegionHeld3
import Derived.BigQuiet
namespace Go.Proofs.Ythnehhidlaggeaa
set_option linter.unusedVariables false
set_option linter.unusedSimpArgs false
open Go.RowKit Mc

/-- an instruction as it lies among the code -/
structure InsAt (w : World) (x g gc gi q : Nat) (op a b c i : Int) : Prop where
  c0 : w.cell? ⟨gc, q * 5, none⟩ = some (.int .i64 op)
  c1 : w.cell? ⟨gc, q * 5 + 1, none⟩ = some (.int .i64 a)
  c2 : w.cell? ⟨gc, q * 5 + 2, none⟩ = some (.int .i64 b)
  c3 : w.cell? ⟨gc, q * 5 + 3, none⟩ = some (.int .i64 c)
  c4 : w.cell? ⟨gc, q * 5 + 4, none⟩ = some (.int .i64 i)
  is : w.cell? ⟨gi, q, none⟩ = some (.bool true)
  nc : gc ≠ x
  ni : gi ≠ x

/-- the machine in a step: its instruction lies in a box -/
def InStep (W : World) (B : Nat) (Fr : Nat → Prop) (x g : Nat) (cv iv : Value) (low : Int) (m : Mach) (op a b c i : Int) (ib : Nat) (wx : World) : Prop :=
  wx.heap[ib]? = some (.cells #[.int .i64 op, .int .i64 a, .int .i64 b, .int .i64 c, .int .i64 i] 24 (0, 0)) ∧ RefW W B Fr x g cv iv low m wx

theorem InsAt.same {w w' : World} {x g gc gi q : Nat} {op a b c i : Int} (h : InsAt w x g gc gi q op a b c i) (h1 : w'.heap[gc]? = w.heap[gc]?) (h2 : w'.heap[gi]? = w.heap[gi]?) : InsAt w' x g gc gi q op a b c i :=
  ⟨(World.cell?_of_block h1).trans h.c0, (World.cell?_of_block h1).trans h.c1, (World.cell?_of_block h1).trans h.c2, (World.cell?_of_block h1).trans h.c3, (World.cell?_of_block h1).trans h.c4, (World.cell?_of_block h2).trans h.is, h.nc, h.ni⟩
/-- ahead of the instruction -/
def StepIn (W : World) (B : Nat) (Fr : Nat → Prop) (x g gc gi n cc ci q : Nat) (low : Int) (m : Mach) (op a b c i : Int) (wx : World) : Prop :=
  RefW W B Fr x g (.slice (some ⟨gc, 0, none⟩) n cc) (.slice (some ⟨gi, 0, none⟩) n ci) low m wx ∧ InsAt wx x g gc gi q op a b c i

/-- behind the instruction: the machine goes on, or has ended -/
theorem next_go {W w : World} {B : Nat} {Fr : Nat → Prop} {x g : Nat} {cv iv : Value} {low : Int} {E : Mach} (h : RefW W B Fr x g cv iv low E w) (hf : E.fin < 0) (p : Int) : RefW W B Fr x g cv iv low (next E p) (w.setCell ⟨x, 20, none⟩ (.int .i64 p)) := by
  have e : next E p = { E with pc := p } := if_pos hf
  rw [e]
  exact h.setPC p
theorem next_stop {W w : World} {B : Nat} {Fr : Nat → Prop} {x g : Nat} {cv iv : Value} {low : Int} {E : Mach} (h : RefW W B Fr x g cv iv low E w) (hf : ¬ E.fin < 0) (p : Int) : RefW W B Fr x g cv iv low (next E p) w := by
  have e : next E p = E := if_neg hf
  rw [e]
  exact h

theorem RefW.setOut {W w w2 : World} {B : Nat} {Fr : Nat → Prop} {x g : Nat} {cv iv : Value} {low : Int} {m : Mach} {ov v' : Value} {l : List Int} {o : Obj} (h1 : RefAt w B x g cv iv low ov m) (h2 : Kept Fr x g W w ov.ownBlock)
    (hg : (w.alloc o).grownBy w2 ov.ownBlock) (ho : w2.ownsRow B 21 1 v' l.length (l.map (Value.int .i32))) (hor : v'.ownBlock = ov.ownBlock ∨ v'.ownBlock = some (w.alloc o).heap.size) :
    RefW W B Fr x g cv iv low { m with out := l } (w2.setCell ⟨x, 21, none⟩ v') := by
  have hb : Below w.heap.size w (w.alloc o) := (Below.refl _ _).alloc (Nat.le_refl _) _
  have hap : v'.ownBlock ≠ some g := by
    rcases hor with e | e
    · rw [e]; exact h1.apart
    · rw [e]
      intro e2
      injection e2 with e2
      have := h1.lt.2
      simp at e2
      omega
  exact ⟨v', (h1.below hb).setOut hg ho hap, ((h2.below hb).grow hg hor).set h2.free.1 _ _⟩

end Go.Proofs.Ythnehhidlaggeaa
