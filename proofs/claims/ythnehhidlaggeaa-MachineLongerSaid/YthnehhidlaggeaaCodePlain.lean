/- Plain facts about the table of instructions (names, fields, ranges): no program in sight. -/
import Derived.Below
import Derived.RowKit
namespace Go.Proofs.Ythnehhidlaggeaa.Cp
set_option linter.unusedVariables false
set_option linter.unusedSimpArgs false

/-- the row of an op: name, fields, signed -/
def find (op : Int) : Option (List UInt8 × List UInt8 × Bool) :=
  if op = 1 then some ([109, 111, 118], [65, 66], false)
  else if op = 2 then some ([109, 111, 118, 105], [65, 73], true)
  else if op = 3 then some ([109, 111, 118, 104], [65, 73], false)
  else if op = 4 then some ([97, 100, 100], [65, 66, 67], false)
  else if op = 5 then some ([115, 117, 98], [65, 66, 67], false)
  else if op = 6 then some ([109, 117, 108], [65, 66, 67], false)
  else if op = 7 then some ([104, 105, 103, 104], [65, 66, 67], false)
  else if op = 8 then some ([100, 105, 118], [65, 66, 67], false)
  else if op = 9 then some ([114, 101, 109], [65, 66, 67], false)
  else if op = 10 then some ([97, 110, 100], [65, 66, 67], false)
  else if op = 11 then some ([111, 114], [65, 66, 67], false)
  else if op = 12 then some ([120, 111, 114], [65, 66, 67], false)
  else if op = 13 then some ([108, 101, 115, 115], [65, 66, 67], false)
  else if op = 14 then some ([108, 111, 119], [65, 66, 67], false)
  else if op = 15 then some ([115, 97, 109, 101], [65, 66, 67], false)
  else if op = 16 then some ([97, 100, 100, 105], [65, 66, 73], true)
  else if op = 17 then some ([108, 111, 97, 100], [65, 66, 73], true)
  else if op = 18 then some ([115, 116, 111, 114, 101], [65, 66, 73], true)
  else if op = 19 then some ([106, 117, 109, 112], [73], false)
  else if op = 20 then some ([122, 101, 114, 111], [65, 73], false)
  else if op = 21 then some ([99, 97, 108, 108], [73], false)
  else if op = 22 then some ([99, 97, 108, 108, 114], [65], false)
  else if op = 23 then some ([106, 117, 109, 112, 114], [65], false)
  else if op = 24 then some ([111, 117, 116], [65], false)
  else if op = 25 then some ([101, 120, 105, 116], [65], false)
  else none

/-- the form of an op, as the program has it -/
def formV (op : Int) : Value :=
  match find op with
  | some (n, f, s) => .agg #[.string ⟨n.toArray⟩, .string ⟨f.toArray⟩, .int .i64 (if s then -32768 else 0), .int .i64 (if s then 32767 else 65535)]
  | none => .agg #[.string ⟨#[]⟩, .string ⟨#[]⟩, .int .i64 0, .int .i64 0]

theorem op_cases (op : Int) : op = 1 ∨ op = 2 ∨ op = 3 ∨ op = 4 ∨ op = 5 ∨ op = 6 ∨ op = 7 ∨ op = 8 ∨ op = 9 ∨ op = 10 ∨ op = 11 ∨ op = 12 ∨ op = 13 ∨ op = 14 ∨ op = 15 ∨ op = 16 ∨ op = 17 ∨ op = 18 ∨ op = 19 ∨ op = 20 ∨ op = 21 ∨ op = 22 ∨ op = 23 ∨ op = 24 ∨ op = 25 ∨ (op ≤ 0 ∨ 26 ≤ op) := by omega

theorem find_none (op : Int) (h : op ≤ 0 ∨ 26 ≤ op) : find op = none := by
  unfold find
  repeat (rw [if_neg (by omega)])

end Go.Proofs.Ythnehhidlaggeaa.Cp
