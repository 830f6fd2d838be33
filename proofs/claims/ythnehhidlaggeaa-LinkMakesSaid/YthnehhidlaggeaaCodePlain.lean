/- Plain facts about the table of instructions (names, fields, ranges): no program in sight. -/
import Derived.Below
import Derived.RowKit
import Derived.Laws.BitsAllLaws
import Derived.Laws.BitsLemmas
namespace Go.Proofs.Ythnehhidlaggeaa.Cp
set_option linter.unusedVariables false
set_option linter.unusedSimpArgs false

/-- the row of an op: name, fields, signed -/
def find (op : Int) : Option (List UInt8 × List UInt8 × Bool) :=
  if op = 1 then some ([109, 111, 118], [65, 66], false)
  else if op = 2 then some ([109, 111, 118, 105], [65, 73], true)
  else if op = 3 then some ([109, 111, 118, 104], [65, 73], false)
  else if op = 4 then some ([97, 100, 100], [65, 66, 67], false)
  else if op = 5 then some ([115, 117, 98], [65, 66, 67], false)
  else if op = 6 then some ([109, 117, 108], [65, 66, 67], false)
  else if op = 7 then some ([104, 105, 103, 104], [65, 66, 67], false)
  else if op = 8 then some ([100, 105, 118], [65, 66, 67], false)
  else if op = 9 then some ([114, 101, 109], [65, 66, 67], false)
  else if op = 10 then some ([97, 110, 100], [65, 66, 67], false)
  else if op = 11 then some ([111, 114], [65, 66, 67], false)
  else if op = 12 then some ([120, 111, 114], [65, 66, 67], false)
  else if op = 13 then some ([108, 101, 115, 115], [65, 66, 67], false)
  else if op = 14 then some ([108, 111, 119], [65, 66, 67], false)
  else if op = 15 then some ([115, 97, 109, 101], [65, 66, 67], false)
  else if op = 16 then some ([97, 100, 100, 105], [65, 66, 73], true)
  else if op = 17 then some ([108, 111, 97, 100], [65, 66, 73], true)
  else if op = 18 then some ([115, 116, 111, 114, 101], [65, 66, 73], true)
  else if op = 19 then some ([106, 117, 109, 112], [73], false)
  else if op = 20 then some ([122, 101, 114, 111], [65, 73], false)
  else if op = 21 then some ([99, 97, 108, 108], [73], false)
  else if op = 22 then some ([99, 97, 108, 108, 114], [65], false)
  else if op = 23 then some ([106, 117, 109, 112, 114], [65], false)
  else if op = 24 then some ([111, 117, 116], [65], false)
  else if op = 25 then some ([101, 120, 105, 116], [65], false)
  else none

/-- the form of an op, as the program has it -/
def formV (op : Int) : Value :=
  match find op with
  | some (n, f, s) => .agg #[.string ⟨n.toArray⟩, .string ⟨f.toArray⟩, .int .i64 (if s then -32768 else 0), .int .i64 (if s then 32767 else 65535)]
  | none => .agg #[.string ⟨#[]⟩, .string ⟨#[]⟩, .int .i64 0, .int .i64 0]

theorem op_cases (op : Int) : op = 1 ∨ op = 2 ∨ op = 3 ∨ op = 4 ∨ op = 5 ∨ op = 6 ∨ op = 7 ∨ op = 8 ∨ op = 9 ∨ op = 10 ∨ op = 11 ∨ op = 12 ∨ op = 13 ∨ op = 14 ∨ op = 15 ∨ op = 16 ∨ op = 17 ∨ op = 18 ∨ op = 19 ∨ op = 20 ∨ op = 21 ∨ op = 22 ∨ op = 23 ∨ op = 24 ∨ op = 25 ∨ (op ≤ 0 ∨ 26 ≤ op) := by omega

theorem find_none (op : Int) (h : op ≤ 0 ∨ 26 ≤ op) : find op = none := by
  unfold find
  repeat (rw [if_neg (by omega)])

end Go.Proofs.Ythnehhidlaggeaa.Cp

/-! Plain facts: what is wrong with an instruction. No program in sight. -/
namespace Go.Proofs.Ythnehhidlaggeaa.Cp
set_option linter.unusedVariables false
set_option linter.unusedSimpArgs false

/-- may a field be so, by the form's least and most? -/
def okV (F : List UInt8) (lo hi x n : Int) : Bool :=
  if F.contains x.toNat.toUInt8 then
    if x = 73 then decide (lo ≤ n ∧ n ≤ hi) else decide (0 ≤ n ∧ n ≤ 15)
  else decide (n = 0)

/-- the four names, the place of each, and what stands there -/
def nameAt (k : Nat) : Int := if k = 0 then 65 else if k = 1 then 66 else if k = 2 then 67 else 73
def fieldAt (a b c i : Int) (k : Nat) : Int := if k = 0 then a else if k = 1 then b else if k = 2 then c else i
/-- all of the first k fields may be so -/
def okTo (F : List UInt8) (lo hi a b c i : Int) (k : Nat) : Prop := ∀ j, j < k → okV F lo hi (nameAt j) (fieldAt a b c i j) = true
def okAll (F : List UInt8) (lo hi a b c i : Int) : Bool := okV F lo hi 65 a && okV F lo hi 66 b && okV F lo hi 67 c && okV F lo hi 73 i

def loOf (s : Bool) : Int := if s then -32768 else 0
def hiOf (s : Bool) : Int := if s then 32767 else 65535
/-- what is wrong with an instruction: 0, 2 (no such op), 6 (a field) -/
def mayE (op a b c i : Int) : Int :=
  match find op with
  | none => 2
  | some (_, f, s) => if okAll f (loOf s) (hiOf s) a b c i then 0 else 6

theorem okTo_zero (F : List UInt8) (lo hi a b c i : Int) : okTo F lo hi a b c i 0 := fun _ h => absurd h (by omega)
theorem okTo_succ {F : List UInt8} {lo hi a b c i : Int} {k : Nat} (h : okTo F lo hi a b c i k) (h' : okV F lo hi (nameAt k) (fieldAt a b c i k) = true) : okTo F lo hi a b c i (k + 1) := fun j hj => by
  by_cases e : j = k
  · subst e; exact h'
  · exact h j (by omega)
theorem okTo_four {F : List UInt8} {lo hi a b c i : Int} (h : okTo F lo hi a b c i 4) : okAll F lo hi a b c i = true := by
  have h0 := h 0 (by omega)
  have h1 := h 1 (by omega)
  have h2 := h 2 (by omega)
  have h3 := h 3 (by omega)
  simp [nameAt, fieldAt] at h0 h1 h2 h3
  simp [okAll, h0, h1, h2, h3]
theorem okAll_false {F : List UInt8} {lo hi a b c i : Int} {k : Nat} (hk : k < 4) (h : okV F lo hi (nameAt k) (fieldAt a b c i k) = false) : okAll F lo hi a b c i = false := by
  have : k = 0 ∨ k = 1 ∨ k = 2 ∨ k = 3 := by omega
  rcases this with rfl | rfl | rfl | rfl <;> simp [nameAt, fieldAt] at h <;> simp [okAll, h]

end Go.Proofs.Ythnehhidlaggeaa.Cp

/-! Plain facts: the instruction of 32 bits. No program in sight. -/
namespace Go.Proofs.Ythnehhidlaggeaa.Cp
set_option linter.unusedVariables false
set_option linter.unusedSimpArgs false

theorem mask15 (m : Int) (h0 : 0 ≤ m) (h1 : m ≤ 4294967295) : bits .and .u32 m 15 = m % 16 := by
  rw [u32_and m 15 h0 (by omega) (by omega) (by omega)]
  rw [show (15 : Int).toNat = 15 from rfl, nat_mask4]
  omega
theorem mask16 (m : Int) (h0 : 0 ≤ m) (h1 : m ≤ 4294967295) : bits .and .u32 m 65535 = m % 65536 := by
  rw [u32_and m 65535 h0 (by omega) (by omega) (by omega)]
  rw [show (65535 : Int).toNat = 65535 from rfl, Nat.and_two_pow_sub_one_eq_mod m.toNat 16]
  omega
theorem wrap16_low (m : Int) (h0 : 0 ≤ m) (h1 : m < 32768) : IntKind.i16.wrap m = m := by
  simp [IntKind.wrap, IntKind.bits, IntKind.signed]; omega
theorem wrap16_high (m : Int) (h0 : 32768 ≤ m) (h1 : m < 65536) : IntKind.i16.wrap m = m - 65536 := by
  simp [IntKind.wrap, IntKind.bits, IntKind.signed]; omega

def decC (f : List UInt8) (n : Int) : Int := if f.contains 73 then 0 else n % 65536
def decI (f : List UInt8) (s : Bool) (n : Int) : Int :=
  if f.contains 73 then (if s then (if 32768 ≤ n % 65536 then n % 65536 - 65536 else n % 65536) else n % 65536) else 0

/-- the instruction of 32 bits: op, A, B, C, Imm -/
def dec (n : Int) : Option (Int × Int × Int × Int × Int) :=
  match find (n / 16777216) with
  | none => none
  | some (_, f, s) =>
    if mayE (n / 16777216) (n / 1048576 % 16) (n / 65536 % 16) (decC f n) (decI f s n) = 0 then
      some (n / 16777216, n / 1048576 % 16, n / 65536 % 16, decC f n, decI f s n)
    else none

def instrOf (op a b c i : Int) : Value := .agg #[.int .i64 op, .int .i64 a, .int .i64 b, .int .i64 c, .int .i64 i]
def decV (d : Option (Int × Int × Int × Int × Int)) : Value :=
  match d with
  | none => instrOf 0 0 0 0 0
  | some (op, a, b, c, i) => instrOf op a b c i

end Go.Proofs.Ythnehhidlaggeaa.Cp

/-! Plain facts: the bits of an instruction. No program in sight. -/
namespace Go.Proofs.Ythnehhidlaggeaa.Cp
set_option linter.unusedVariables false
set_option linter.unusedSimpArgs false

theorem ok_bounds (op a b c i : Int) (h : mayE op a b c i = 0) :
    1 ≤ op ∧ op ≤ 25 ∧ 0 ≤ a ∧ a ≤ 15 ∧ 0 ≤ b ∧ b ≤ 15 ∧ 0 ≤ c ∧ c ≤ 15 ∧ -32768 ≤ i ∧ i ≤ 65535 ∧ (c = 0 ∨ i = 0) := by
  rcases op_cases op with e | e | e | e | e | e | e | e | e | e | e | e | e | e | e | e | e | e | e | e | e | e | e | e | e | e
  case inr.inr.inr.inr.inr.inr.inr.inr.inr.inr.inr.inr.inr.inr.inr.inr.inr.inr.inr.inr.inr.inr.inr.inr.inr =>
    unfold mayE at h
    rw [find_none op e] at h
    simp at h
  all_goals
    subst e
    simp [mayE, find, okAll, okV, loOf, hiOf] at h
    omega

/-- an instruction's bits, of one that may be -/
def encN (op a b c i : Int) : Int := op * 16777216 + a * 1048576 + b * 65536 + (c + i) % 65536
theorem or64_left (i : Int) (h1 : -32768 ≤ i) (h2 : i ≤ 65535) : bits .or .i64 0 i = i := by
  show IntKind.i64.wrap ((BitVec.ofInt 64 0 ||| BitVec.ofInt 64 i).toNat : Int) = i
  rw [show BitVec.ofInt 64 0 = 0#64 from rfl, BitVec.zero_or, BitVec.toNat_ofInt, IntKind.wrap_i64]
  omega
theorem or64_right (c : Int) (h1 : -32768 ≤ c) (h2 : c ≤ 65535) : bits .or .i64 c 0 = c := by
  show IntKind.i64.wrap ((BitVec.ofInt 64 c ||| BitVec.ofInt 64 0).toNat : Int) = c
  rw [show BitVec.ofInt 64 0 = 0#64 from rfl, BitVec.or_zero, BitVec.toNat_ofInt, IntKind.wrap_i64]
  omega
theorem or64 (c i : Int) (c0 : 0 ≤ c) (c1 : c ≤ 15) (h1 : -32768 ≤ i) (h2 : i ≤ 65535) (h : c = 0 ∨ i = 0) : bits .or .i64 c i = c + i := by
  rcases h with h | h
  · subst h; rw [or64_left i h1 h2]; omega
  · subst h; rw [or64_right c (by omega) (by omega)]; omega
theorem or32_add (n k : Nat) (x y : Int) (x0 : 0 ≤ x) (x1 : x < 4294967296) (y0 : 0 ≤ y) (hx : x = 2 ^ k * n) (hy : y < 2 ^ k) (hk : (2 : Int) ^ k ≤ 4294967296) : bits .or .u32 x y = x + y := by
  have e : ∀ a b : Int, 0 ≤ a → a < 4294967296 → 0 ≤ b → b < 4294967296 → bits .or .u32 a b = ((a.toNat ||| b.toNat : Nat) : Int) := fun a b h1 h2 h3 h4 => u32_or a b h1 h2 h3 h4
  rw [e x y x0 x1 y0 (by omega)]
  have hxn : x.toNat = 2 ^ k * n := by
    subst hx
    have : ((2 : Int) ^ k * (n : Int)) = ((2 ^ k * n : Nat) : Int) := by simp
    rw [this, Int.toNat_natCast]
  have hyn : y.toNat < 2 ^ k := by
    have : ((2 : Int) ^ k) = ((2 ^ k : Nat) : Int) := by simp
    rw [this] at hy
    omega
  rw [hxn, ← Nat.two_pow_add_eq_or_of_lt hyn, ← hxn]
  omega
theorem enc_eq (op a b c i : Int) (h1 : 1 ≤ op) (h2 : op ≤ 25) (a1 : 0 ≤ a) (a2 : a ≤ 15) (b1 : 0 ≤ b) (b2 : b ≤ 15) (c1 : 0 ≤ c) (c2 : c ≤ 15) (i1 : -32768 ≤ i) (i2 : i ≤ 65535) (h : c = 0 ∨ i = 0) :
    bits .or .u32 (bits .or .u32 (bits .or .u32 (op * 16777216) (a * 1048576)) (b * 65536)) (IntKind.u16.wrap (bits .or .i64 c i) % 4294967296) = encN op a b c i := by
  rw [or64 c i c1 c2 i1 i2 h]
  rw [or32_add op.toNat 24 (op * 16777216) (a * 1048576) (by omega) (by omega) (by omega) (by omega) (by omega) (by omega)]
  rw [or32_add (op * 16 + a).toNat 20 (op * 16777216 + a * 1048576) (b * 65536) (by omega) (by omega) (by omega) (by omega) (by omega) (by omega)]
  have hw : IntKind.u16.wrap (c + i) % 4294967296 = (c + i) % 65536 := by rw [IntKind.wrap_u16]; omega
  rw [hw]
  rw [or32_add ((op * 16 + a) * 16 + b).toNat 16 (op * 16777216 + a * 1048576 + b * 65536) ((c + i) % 65536) (by omega) (by omega) (by omega) (by omega) (by omega) (by omega)]
  rfl

/-- the upper half set beside the lower one -/
theorem or_movh (l i : Int) (i0 : 0 ≤ i) (i1 : i ≤ 65535) (l0 : 0 ≤ l) (l1 : l < 65536) : bits .or .u32 l (i * 65536) = i * 65536 + l := by
  have e : bits .or .u32 l (i * 65536) = bits .or .u32 (i * 65536) l := by
    rw [u32_or l (i * 65536) l0 (by omega) (by omega) (by omega), u32_or (i * 65536) l (by omega) (by omega) l0 (by omega), Nat.or_comm]
  rw [e, or32_add i.toNat 16 (i * 65536) l (by omega) (by omega) (by omega) (by omega) (by omega) (by omega)]

/-- bits are read as the instruction whose bits they are -/
theorem dec_enc (n : Int) (h0 : 0 ≤ n) (h1 : n ≤ 4294967295) (op a b c i : Int) (h : dec n = some (op, a, b, c, i)) : mayE op a b c i = 0 ∧ encN op a b c i = n := by
  unfold dec at h
  rcases hf : find (n / 16777216) with _ | ⟨nm, f, s⟩
  · rw [hf] at h; simp at h
  · rw [hf] at h
    simp only at h
    split at h
    case isFalse => simp at h
    case isTrue hm =>
      simp only [Option.some.injEq, Prod.mk.injEq] at h
      obtain ⟨rfl, rfl, rfl, rfl, rfl⟩ := h
      refine ⟨hm, ?_⟩
      unfold encN decC decI
      cases f.contains 73 with
      | false => simp; omega
      | true => cases s <;> simp <;> (try split) <;> omega

end Go.Proofs.Ythnehhidlaggeaa.Cp

/-! Plain facts: the reference's table as a row of cells. No program in sight. -/
namespace Go.Proofs.Ythnehhidlaggeaa.Cp
set_option linter.unusedVariables false
set_option linter.unusedSimpArgs false

/-- the table, in the reference's order -/
def ops : List Int := [1, 2, 3, 16, 17, 18, 19, 21, 20, 22, 23, 24, 25, 4, 5, 6, 7, 8, 9, 10, 11, 12, 13, 14, 15]
def rowOf (op : Int) : List UInt8 × List UInt8 × Bool := (find op).getD ([], [], false)
/-- a row's four cells -/
def rowCells (op : Int) : List Value := [.int .i64 op, .string ⟨(rowOf op).1.toArray⟩, .string ⟨(rowOf op).2.1.toArray⟩, .bool (rowOf op).2.2]
def cellsTo (k : Nat) : List Value := (ops.take k).flatMap rowCells
theorem cellsTo_succ (k : Nat) (hk : k < 25) : cellsTo (k + 1) = cellsTo k ++ rowCells (ops.getD k 0) := by
  unfold cellsTo
  rw [List.take_succ_eq_append_getElem (by simpa [ops] using hk), List.flatMap_append]
  simp [List.getD_eq_getElem?_getD, show k < ops.length by simpa [ops] using hk]
/-- the names of the operations 4 to 15 -/
def nameK (k : Nat) : ByteArray := ⟨(rowOf (4 + k)).1.toArray⟩

def names : Array Value := #[.string (nameK 0), .string (nameK 1), .string (nameK 2), .string (nameK 3), .string (nameK 4), .string (nameK 5), .string (nameK 6), .string (nameK 7), .string (nameK 8), .string (nameK 9), .string (nameK 10), .string (nameK 11)]
theorem lt12 {k : Nat} (h : k < 12) : k = 0 ∨ k = 1 ∨ k = 2 ∨ k = 3 ∨ k = 4 ∨ k = 5 ∨ k = 6 ∨ k = 7 ∨ k = 8 ∨ k = 9 ∨ k = 10 ∨ k = 11 := by omega
theorem names_at (k : Nat) (h : k < 12) : names[k]? = some (.string (nameK k)) := by
  rcases lt12 h with rfl | rfl | rfl | rfl | rfl | rfl | rfl | rfl | rfl | rfl | rfl | rfl <;> rfl
theorem row_at (k : Nat) (h : k < 12) : rowCells (ops.getD (13 + k) 0) = [.int .i64 (4 + (k : Int)), .string (nameK k), .string ⟨#[65, 66, 67]⟩, .bool false] := by
  rcases lt12 h with rfl | rfl | rfl | rfl | rfl | rfl | rfl | rfl | rfl | rfl | rfl | rfl <;> rfl

end Go.Proofs.Ythnehhidlaggeaa.Cp

/-! Plain facts: the search in the reference's table. No program in sight. -/
namespace Go.Proofs.Ythnehhidlaggeaa.Cp
set_option linter.unusedVariables false
set_option linter.unusedSimpArgs false

/-- the row of an op, as the reference has it -/
def rowV (op : Int) : Value :=
  match find op with
  | some (n, f, s) => .agg #[.int .i64 op, .string ⟨n.toArray⟩, .string ⟨f.toArray⟩, .bool s]
  | none => .agg #[.int .i64 0, .string ⟨#[]⟩, .string ⟨#[]⟩, .bool false]
theorem lt25 {k : Nat} (h : k < 25) : k = 0 ∨ k = 1 ∨ k = 2 ∨ k = 3 ∨ k = 4 ∨ k = 5 ∨ k = 6 ∨ k = 7 ∨ k = 8 ∨ k = 9 ∨ k = 10 ∨ k = 11 ∨ k = 12 ∨ k = 13 ∨ k = 14 ∨ k = 15 ∨ k = 16 ∨ k = 17 ∨ k = 18 ∨ k = 19 ∨ k = 20 ∨ k = 21 ∨ k = 22 ∨ k = 23 ∨ k = 24 := by omega
def opAt (k : Nat) : Int := ops.getD k 0
theorem cells_at (k : Nat) (h : k < 25) :
    (cellsTo 25)[k * 4]? = some (.int .i64 (opAt k)) ∧ (cellsTo 25)[k * 4 + 1]? = some (.string ⟨(rowOf (opAt k)).1.toArray⟩) ∧
    (cellsTo 25)[k * 4 + 2]? = some (.string ⟨(rowOf (opAt k)).2.1.toArray⟩) ∧ (cellsTo 25)[k * 4 + 3]? = some (.bool (rowOf (opAt k)).2.2) := by
  rcases lt25 h with rfl | rfl | rfl | rfl | rfl | rfl | rfl | rfl | rfl | rfl | rfl | rfl | rfl | rfl | rfl | rfl | rfl | rfl | rfl | rfl | rfl | rfl | rfl | rfl | rfl <;> exact ⟨rfl, rfl, rfl, rfl⟩
theorem find_opAt (k : Nat) (h : k < 25) : find (opAt k) = some (rowOf (opAt k)) := by
  rcases lt25 h with rfl | rfl | rfl | rfl | rfl | rfl | rfl | rfl | rfl | rfl | rfl | rfl | rfl | rfl | rfl | rfl | rfl | rfl | rfl | rfl | rfl | rfl | rfl | rfl | rfl <;> rfl
theorem rowV_opAt (k : Nat) (h : k < 25) : rowV (opAt k) = .agg #[.int .i64 (opAt k), .string ⟨(rowOf (opAt k)).1.toArray⟩, .string ⟨(rowOf (opAt k)).2.1.toArray⟩, .bool (rowOf (opAt k)).2.2] := by
  unfold rowV
  rw [find_opAt k h]
theorem find_none_of (op : Int) (h : ∀ j, j < 25 → opAt j ≠ op) : find op = none := by
  rcases op_cases op with e | e | e | e | e | e | e | e | e | e | e | e | e | e | e | e | e | e | e | e | e | e | e | e | e | e
  case inr.inr.inr.inr.inr.inr.inr.inr.inr.inr.inr.inr.inr.inr.inr.inr.inr.inr.inr.inr.inr.inr.inr.inr.inr => exact find_none op e
  all_goals
    exfalso
    subst e
    first
      | exact h 0 (by omega) rfl | exact h 1 (by omega) rfl | exact h 2 (by omega) rfl | exact h 3 (by omega) rfl | exact h 4 (by omega) rfl | exact h 5 (by omega) rfl | exact h 6 (by omega) rfl
      | exact h 7 (by omega) rfl | exact h 8 (by omega) rfl | exact h 9 (by omega) rfl | exact h 10 (by omega) rfl | exact h 11 (by omega) rfl | exact h 12 (by omega) rfl | exact h 13 (by omega) rfl
      | exact h 14 (by omega) rfl | exact h 15 (by omega) rfl | exact h 16 (by omega) rfl | exact h 17 (by omega) rfl | exact h 18 (by omega) rfl | exact h 19 (by omega) rfl | exact h 20 (by omega) rfl
      | exact h 21 (by omega) rfl | exact h 22 (by omega) rfl | exact h 23 (by omega) rfl | exact h 24 (by omega) rfl

theorem fields_short (op : Int) : (match find op with | some (_, f, _) => f.length | none => 0) ≤ 3 := by
  rcases op_cases op with e | e | e | e | e | e | e | e | e | e | e | e | e | e | e | e | e | e | e | e | e | e | e | e | e | e
  case inr.inr.inr.inr.inr.inr.inr.inr.inr.inr.inr.inr.inr.inr.inr.inr.inr.inr.inr.inr.inr.inr.inr.inr.inr => rw [find_none op e]; exact Nat.zero_le _
  all_goals
    subst e
    decide

end Go.Proofs.Ythnehhidlaggeaa.Cp
