/- Plain facts: the machine: its states, what a step does. No program in sight. -/
import Derived.Test.YthnehhidlaggeaaCodePlain
import Derived.Test.YthnehhidlaggeaaRw1Plain
namespace Go.Proofs.Ythnehhidlaggeaa.Mc
set_option linter.unusedVariables false
set_option linter.unusedSimpArgs false
open Go.RowKit

/-- a machine at work; fin: -1, as long as it goes on -/
structure Mach where
  R : List Int
  pc : Int
  words : List Int
  out : List Int
  fin : Int
  value : Int
  steps : Nat

def reg (m : Mach) (r : Int) : Int := m.R.getD r.toNat 0
/-- how a word for the stack's register ends the machine; -1: not -/
def spEnd (low v : Int) (M : Nat) : Int := if v < low then 3 else if (M : Int) < v then 4 else -1
/-- a register is given a word -/
def put (low : Int) (m : Mach) (r v : Int) : Mach :=
  { m with R := m.R.set r.toNat v, fin := if r = 13 then spEnd low v m.words.length else -1 }
def next (m : Mach) (p : Int) : Mach := if m.fin < 0 then { m with pc := p } else m
def word (m : Mach) (a : Int) : Int := m.words.getD a.toNat 0

/-- what an instruction does: n: how many instructions there are; low: where the stack ends -/
def act (n low : Int) (m : Mach) (op a b c i : Int) : Mach :=
  if op = 1 then next (put low m a (reg m b)) (m.pc + 1)
  else if op = 2 then next (put low m a i) (m.pc + 1)
  else if op = 3 then next (put low m a (wrap32 (i * 65536 + Wd.free (reg m a) % 65536))) (m.pc + 1)
  else if op = 16 then next (put low m a (wrap32 (reg m b + i))) (m.pc + 1)
  else if op = 17 then
    (if reg m b + i < 0 ∨ (m.words.length : Int) ≤ reg m b + i then { m with fin := 4 } else next (put low m a (word m (reg m b + i))) (m.pc + 1))
  else if op = 18 then
    (if reg m b + i < n ∨ (m.words.length : Int) ≤ reg m b + i then { m with fin := 4 } else next { m with words := m.words.set (reg m b + i).toNat (reg m a) } (m.pc + 1))
  else if op = 19 then next m i
  else if op = 20 then next m (if reg m a = 0 then i else m.pc + 1)
  else if op = 21 then next (put low m 14 (m.pc + 1)) i
  else if op = 22 then next (put low m 14 (m.pc + 1)) (reg m a)
  else if op = 23 then next m (reg m a)
  else if op = 24 then next { m with out := m.out ++ [reg m a] } (m.pc + 1)
  else if op = 25 then { m with value := reg m a, fin := 1 }
  else match Wd.op (op - 3) (reg m b) (reg m c) with
    | none => { m with fin := 2 }
    | some v => next (put low m a v) (m.pc + 1)

/-- one step -/
def step (n low : Int) (m : Mach) : Mach :=
  if m.pc < 0 ∨ n ≤ m.pc then { m with steps := m.steps + 1, fin := 4 }
  else match Cp.dec (Wd.free (word m m.pc)) with
    | none => { m with steps := m.steps + 1, fin := 4 }
    | some (op, a, b, c, i) => act n low { m with steps := m.steps + 1 } op a b c i
/-- so many steps at most -/
def run (n low : Int) : Nat → Mach → Mach
  | 0, m => m
  | k + 1, m => if m.fin < 0 then run n low k (step n low m) else m

/-- what stays so: sixteen registers, words, the range of each -/
structure Ok (m : Mach) : Prop where
  regs : m.R.length = 16
  reg_in : ∀ r, -2147483648 ≤ reg m r ∧ reg m r ≤ 2147483647
  word_in : ∀ a, -2147483648 ≤ word m a ∧ word m a ≤ 2147483647
  mem : m.words.length ≤ 16000

end Go.Proofs.Ythnehhidlaggeaa.Mc
