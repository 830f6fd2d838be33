/- code.Decode: the walk. -/
import Derived.Test.YthnehhidlaggeaaMay
import Derived.Test.YthnehhidlaggeaaCodePlain
namespace Go.Proofs.Ythnehhidlaggeaa
set_option linter.unusedVariables false
set_option linter.unusedSimpArgs false
open Go.RowKit

theorem contains_I (F : ByteArray) (t : Bool) (ht : F.data.toList.contains 73 = t) (w : World) :
    Calls Try.prog 34 #[.string F, .int .i32 73] w fun e w' => e = .returned (.bool t) ∧ w = w' := contains_k 3 (by omega) F t ht w

set_option maxHeartbeats 400000 in
theorem decode_none (n : Int) (w : World) (h0 : 0 ≤ n) (h1 : n ≤ 4294967295) (fv : Value)
    (ho : ∀ w, Calls Try.prog 33 #[.int .i64 (n / 16777216)] w fun e w' => e = .returned (.tuple #[.agg #[.string ⟨#[]⟩, .string ⟨#[]⟩, .int .i64 0, .int .i64 0], .bool false]) ∧ Below w.heap.size w w') :
    Calls Try.prog 11 #[.int .u32 n] w fun e w' => e = .returned (.tuple #[Cp.instrOf 0 0 0 0 0, .bool false]) ∧ Below w.heap.size w w' := by
  have HO := Lib.hid ho
  clear ho
  go_enter Try.func11, Try.ntmps11
  go_wp2_with (first
    | (go_at_call 33; refine (HO.out _).mono ?_; rintro e w' ⟨rfl, hb⟩; have hs : w.heap.size < w'.heap.size := by { have := hb.size; simp at this; omega }; have hR : w'.heap[w.heap.size]? = some (.cells #[.int .i64 0, .int .i64 0, .int .i64 0, .int .i64 0, .int .i64 0] 24 (0, 0)) := (hb.block w.heap.size (by simp)).trans (heap_alloc_new w _); obtain ⟨q0, q1, q2, q3, q4, qz⟩ := blk5 hR; have HR := Lib.hid hR; clear hR; have HB := Lib.hid hb; clear hb))
  refine bodyPost_ret (v := .tuple #[Cp.instrOf 0 0 0 0 0, .bool false]) (by simp [results, Try.results11, go_sem, q0, q1, q2, q3, q4, hs, World.cell?_alloc_lt, Cp.instrOf]) rfl ⟨rfl, ?_⟩
  have hB : Below w.heap.size w w' := ((Below.refl _ _).alloc (by simp) _).trans (HB.out.mono (by simp))
  clear HB HR q0 q1 q2 q3 q4 qz
  repeat (first | (with_reducible assumption) | refine Below.alloc ?_ (by simp <;> try omega) _ | refine Below.setCell ?_ (by simp <;> try omega) _)

set_option maxHeartbeats 1000000 in
theorem decode_C0 (n : Int) (w : World) (h0 : 0 ≤ n) (h1 : n ≤ 4294967295) (nm F : ByteArray) (lo hi : Int)
    (ho : ∀ w, Calls Try.prog 33 #[.int .i64 (n / 16777216)] w fun e w' => e = .returned (.tuple #[.agg #[.string nm, .string F, .int .i64 lo, .int .i64 hi], .bool true]) ∧ Below w.heap.size w w')
    (hF : F.data.toList.contains 73 = false) 
    (hm : ∀ w, Calls Try.prog 35 #[Cp.instrOf (n / 16777216) (n / 1048576 % 16) (n / 65536 % 16) (n % 65536) 0] w fun e w' => e = .returned (.tuple #[.agg #[.string nm, .string F, .int .i64 lo, .int .i64 hi], .int .i64 0]) ∧ Below w.heap.size w w') :
    Calls Try.prog 11 #[.int .u32 n] w fun e w' => e = .returned (.tuple #[Cp.instrOf (n / 16777216) (n / 1048576 % 16) (n / 65536 % 16) (n % 65536) 0, .bool true]) ∧ Below w.heap.size w w' := by
  have HO := Lib.hid ho
  clear ho
  unfold Cp.instrOf at hm ⊢
  have HM := Lib.hid hm
  clear hm
  have HC := Lib.hid (contains_I F _ hF)
  clear hF
  have m1 : bits .and .u32 (n / 1048576) 15 = n / 1048576 % 16 := Cp.mask15 _ (by omega) (by omega)
  have m2 : bits .and .u32 (n / 65536) 15 = n / 65536 % 16 := Cp.mask15 _ (by omega) (by omega)
  have m3 : bits .and .u32 n 65535 = n % 65536 := Cp.mask16 _ (by omega) (by omega)
  go_enter Try.func11, Try.ntmps11
  go_wp2_with (first
    | (go_at_call 33; refine (HO.out _).mono ?_; rintro e w' ⟨rfl, hb⟩; have hs : w.heap.size < w'.heap.size := by { have := hb.size; simp at this; omega }; have hR : w'.heap[w.heap.size]? = some (.cells #[.int .i64 0, .int .i64 0, .int .i64 0, .int .i64 0, .int .i64 0] 24 (0, 0)) := (hb.block w.heap.size (by simp)).trans (heap_alloc_new w _); obtain ⟨q0, q1, q2, q3, q4, qz⟩ := blk5 hR; have HR := Lib.hid hR; clear hR; have HB := Lib.hid hb; clear hb)
    | (go_at_call 34; refine (HC.out _).mono ?_; rintro e w' ⟨rfl, rfl⟩))
  refine (HM.out _).mono ?_
  rintro e w2 ⟨rfl, hb2⟩
  have hs2 : w'.heap.size + 1 < w2.heap.size := by have := hb2.size; simp at this; omega
  have hs3 : w.heap.size < w2.heap.size := by omega
  have hR2 : w2.heap[w.heap.size]? = some (.cells #[.int .i64 0, .int .i64 0, .int .i64 0, .int .i64 0, .int .i64 0] 24 (0, 0)) := ((hb2.block w.heap.size (by simp <;> omega)).trans ((Below.heap_alloc _ _ _ (by simp <;> omega)).trans (Below.heap_alloc _ _ _ (by omega)))).trans HR.out
  obtain ⟨p0, p1, p2, p3, p4, pz⟩ := blk5 hR2
  have hI2 := (hb2.block (w'.heap.size + 1) (by simp)).trans (heap_alloc_new2 w' _ _)
  obtain ⟨j0, j1, j2, j3, j4, jz⟩ := blk5 hI2
  have HB2 := Lib.hid hb2
  clear hb2 hR2 hI2 q0 q1 q2 q3 q4 qz
  go_wp2_with fail
  refine bodyPost_ret (v := .tuple #[Cp.instrOf (n / 16777216) (n / 1048576 % 16) (n / 65536 % 16) (n % 65536) 0, .bool true]) (by simp [results, Try.results11, go_sem, p0, p1, p2, p3, p4, hs3, World.cell?_alloc_lt, Cp.instrOf]) rfl ⟨rfl, ?_⟩
  have hB : Below w.heap.size w w' := ((Below.refl _ _).alloc (by simp) _).trans (HB.out.mono (by simp))
  have hB2 : Below w.heap.size w w2 := ((hB.alloc (by omega) _).alloc (by simp <;> omega) _).trans (HB2.out.mono (by simp <;> omega))
  clear HB HB2 HR hB p0 p1 p2 p3 p4 pz j0 j1 j2 j3 j4 jz
  repeat (first | (with_reducible assumption) | refine Below.alloc ?_ (by simp <;> try omega) _ | refine Below.setCell ?_ (by simp <;> try omega) _)

set_option maxHeartbeats 1000000 in
theorem decode_C6 (n : Int) (w : World) (h0 : 0 ≤ n) (h1 : n ≤ 4294967295) (nm F : ByteArray) (lo hi : Int)
    (ho : ∀ w, Calls Try.prog 33 #[.int .i64 (n / 16777216)] w fun e w' => e = .returned (.tuple #[.agg #[.string nm, .string F, .int .i64 lo, .int .i64 hi], .bool true]) ∧ Below w.heap.size w w')
    (hF : F.data.toList.contains 73 = false) 
    (hm : ∀ w, Calls Try.prog 35 #[Cp.instrOf (n / 16777216) (n / 1048576 % 16) (n / 65536 % 16) (n % 65536) 0] w fun e w' => e = .returned (.tuple #[.agg #[.string nm, .string F, .int .i64 lo, .int .i64 hi], .int .i64 6]) ∧ Below w.heap.size w w') :
    Calls Try.prog 11 #[.int .u32 n] w fun e w' => e = .returned (.tuple #[Cp.instrOf 0 0 0 0 0, .bool false]) ∧ Below w.heap.size w w' := by
  have HO := Lib.hid ho
  clear ho
  unfold Cp.instrOf at hm ⊢
  have HM := Lib.hid hm
  clear hm
  have HC := Lib.hid (contains_I F _ hF)
  clear hF
  have m1 : bits .and .u32 (n / 1048576) 15 = n / 1048576 % 16 := Cp.mask15 _ (by omega) (by omega)
  have m2 : bits .and .u32 (n / 65536) 15 = n / 65536 % 16 := Cp.mask15 _ (by omega) (by omega)
  have m3 : bits .and .u32 n 65535 = n % 65536 := Cp.mask16 _ (by omega) (by omega)
  go_enter Try.func11, Try.ntmps11
  go_wp2_with (first
    | (go_at_call 33; refine (HO.out _).mono ?_; rintro e w' ⟨rfl, hb⟩; have hs : w.heap.size < w'.heap.size := by { have := hb.size; simp at this; omega }; have hR : w'.heap[w.heap.size]? = some (.cells #[.int .i64 0, .int .i64 0, .int .i64 0, .int .i64 0, .int .i64 0] 24 (0, 0)) := (hb.block w.heap.size (by simp)).trans (heap_alloc_new w _); obtain ⟨q0, q1, q2, q3, q4, qz⟩ := blk5 hR; have HR := Lib.hid hR; clear hR; have HB := Lib.hid hb; clear hb)
    | (go_at_call 34; refine (HC.out _).mono ?_; rintro e w' ⟨rfl, rfl⟩))
  refine (HM.out _).mono ?_
  rintro e w2 ⟨rfl, hb2⟩
  have hs2 : w'.heap.size + 1 < w2.heap.size := by have := hb2.size; simp at this; omega
  have hs3 : w.heap.size < w2.heap.size := by omega
  have hR2 : w2.heap[w.heap.size]? = some (.cells #[.int .i64 0, .int .i64 0, .int .i64 0, .int .i64 0, .int .i64 0] 24 (0, 0)) := ((hb2.block w.heap.size (by simp <;> omega)).trans ((Below.heap_alloc _ _ _ (by simp <;> omega)).trans (Below.heap_alloc _ _ _ (by omega)))).trans HR.out
  obtain ⟨p0, p1, p2, p3, p4, pz⟩ := blk5 hR2
  have hI2 := (hb2.block (w'.heap.size + 1) (by simp)).trans (heap_alloc_new2 w' _ _)
  obtain ⟨j0, j1, j2, j3, j4, jz⟩ := blk5 hI2
  have HB2 := Lib.hid hb2
  clear hb2 hR2 hI2 q0 q1 q2 q3 q4 qz
  go_wp2_with fail
  refine bodyPost_ret (v := .tuple #[Cp.instrOf 0 0 0 0 0, .bool false]) (by simp [results, Try.results11, go_sem, p0, p1, p2, p3, p4, hs3, World.cell?_alloc_lt, Cp.instrOf]) rfl ⟨rfl, ?_⟩
  have hB : Below w.heap.size w w' := ((Below.refl _ _).alloc (by simp) _).trans (HB.out.mono (by simp))
  have hB2 : Below w.heap.size w w2 := ((hB.alloc (by omega) _).alloc (by simp <;> omega) _).trans (HB2.out.mono (by simp <;> omega))
  clear HB HB2 HR hB p0 p1 p2 p3 p4 pz j0 j1 j2 j3 j4 jz
  repeat (first | (with_reducible assumption) | refine Below.alloc ?_ (by simp <;> try omega) _ | refine Below.setCell ?_ (by simp <;> try omega) _)

set_option maxHeartbeats 1000000 in
theorem decode_S0 (n : Int) (w : World) (h0 : 0 ≤ n) (h1 : n ≤ 4294967295) (nm F : ByteArray) (lo hi : Int) (hlo : lo < 0) (i : Int)
    (ho : ∀ w, Calls Try.prog 33 #[.int .i64 (n / 16777216)] w fun e w' => e = .returned (.tuple #[.agg #[.string nm, .string F, .int .i64 lo, .int .i64 hi], .bool true]) ∧ Below w.heap.size w w')
    (hF : F.data.toList.contains 73 = true) (hw : IntKind.i16.wrap (n % 65536) = i) (hi1 : -32768 ≤ i) (hi2 : i ≤ 32767)
    (hm : ∀ w, Calls Try.prog 35 #[Cp.instrOf (n / 16777216) (n / 1048576 % 16) (n / 65536 % 16) 0 i] w fun e w' => e = .returned (.tuple #[.agg #[.string nm, .string F, .int .i64 lo, .int .i64 hi], .int .i64 0]) ∧ Below w.heap.size w w') :
    Calls Try.prog 11 #[.int .u32 n] w fun e w' => e = .returned (.tuple #[Cp.instrOf (n / 16777216) (n / 1048576 % 16) (n / 65536 % 16) 0 i, .bool true]) ∧ Below w.heap.size w w' := by
  have HO := Lib.hid ho
  clear ho
  unfold Cp.instrOf at hm ⊢
  have HM := Lib.hid hm
  clear hm
  have HC := Lib.hid (contains_I F _ hF)
  clear hF
  have m1 : bits .and .u32 (n / 1048576) 15 = n / 1048576 % 16 := Cp.mask15 _ (by omega) (by omega)
  have m2 : bits .and .u32 (n / 65536) 15 = n / 65536 % 16 := Cp.mask15 _ (by omega) (by omega)
  have m3 : bits .and .u32 n 65535 = n % 65536 := Cp.mask16 _ (by omega) (by omega)
  go_enter Try.func11, Try.ntmps11
  go_wp2_with (first
    | (go_at_call 33; refine (HO.out _).mono ?_; rintro e w' ⟨rfl, hb⟩; have hs : w.heap.size < w'.heap.size := by { have := hb.size; simp at this; omega }; have hR : w'.heap[w.heap.size]? = some (.cells #[.int .i64 0, .int .i64 0, .int .i64 0, .int .i64 0, .int .i64 0] 24 (0, 0)) := (hb.block w.heap.size (by simp)).trans (heap_alloc_new w _); obtain ⟨q0, q1, q2, q3, q4, qz⟩ := blk5 hR; have HR := Lib.hid hR; clear hR; have HB := Lib.hid hb; clear hb)
    | (go_at_call 34; refine (HC.out _).mono ?_; rintro e w' ⟨rfl, rfl⟩))
  refine (HM.out _).mono ?_
  rintro e w2 ⟨rfl, hb2⟩
  have hs2 : w'.heap.size + 1 < w2.heap.size := by have := hb2.size; simp at this; omega
  have hs3 : w.heap.size < w2.heap.size := by omega
  have hR2 : w2.heap[w.heap.size]? = some (.cells #[.int .i64 0, .int .i64 0, .int .i64 0, .int .i64 0, .int .i64 0] 24 (0, 0)) := ((hb2.block w.heap.size (by simp <;> omega)).trans ((Below.heap_alloc _ _ _ (by simp <;> omega)).trans (Below.heap_alloc _ _ _ (by omega)))).trans HR.out
  obtain ⟨p0, p1, p2, p3, p4, pz⟩ := blk5 hR2
  have hI2 := (hb2.block (w'.heap.size + 1) (by simp)).trans (heap_alloc_new2 w' _ _)
  obtain ⟨j0, j1, j2, j3, j4, jz⟩ := blk5 hI2
  have HB2 := Lib.hid hb2
  clear hb2 hR2 hI2 q0 q1 q2 q3 q4 qz
  go_wp2_with fail
  refine bodyPost_ret (v := .tuple #[Cp.instrOf (n / 16777216) (n / 1048576 % 16) (n / 65536 % 16) 0 i, .bool true]) (by simp [results, Try.results11, go_sem, p0, p1, p2, p3, p4, hs3, World.cell?_alloc_lt, Cp.instrOf]) rfl ⟨rfl, ?_⟩
  have hB : Below w.heap.size w w' := ((Below.refl _ _).alloc (by simp) _).trans (HB.out.mono (by simp))
  have hB2 : Below w.heap.size w w2 := ((hB.alloc (by omega) _).alloc (by simp <;> omega) _).trans (HB2.out.mono (by simp <;> omega))
  clear HB HB2 HR hB p0 p1 p2 p3 p4 pz j0 j1 j2 j3 j4 jz
  repeat (first | (with_reducible assumption) | refine Below.alloc ?_ (by simp <;> try omega) _ | refine Below.setCell ?_ (by simp <;> try omega) _)

set_option maxHeartbeats 1000000 in
theorem decode_S6 (n : Int) (w : World) (h0 : 0 ≤ n) (h1 : n ≤ 4294967295) (nm F : ByteArray) (lo hi : Int) (hlo : lo < 0) (i : Int)
    (ho : ∀ w, Calls Try.prog 33 #[.int .i64 (n / 16777216)] w fun e w' => e = .returned (.tuple #[.agg #[.string nm, .string F, .int .i64 lo, .int .i64 hi], .bool true]) ∧ Below w.heap.size w w')
    (hF : F.data.toList.contains 73 = true) (hw : IntKind.i16.wrap (n % 65536) = i) (hi1 : -32768 ≤ i) (hi2 : i ≤ 32767)
    (hm : ∀ w, Calls Try.prog 35 #[Cp.instrOf (n / 16777216) (n / 1048576 % 16) (n / 65536 % 16) 0 i] w fun e w' => e = .returned (.tuple #[.agg #[.string nm, .string F, .int .i64 lo, .int .i64 hi], .int .i64 6]) ∧ Below w.heap.size w w') :
    Calls Try.prog 11 #[.int .u32 n] w fun e w' => e = .returned (.tuple #[Cp.instrOf 0 0 0 0 0, .bool false]) ∧ Below w.heap.size w w' := by
  have HO := Lib.hid ho
  clear ho
  unfold Cp.instrOf at hm ⊢
  have HM := Lib.hid hm
  clear hm
  have HC := Lib.hid (contains_I F _ hF)
  clear hF
  have m1 : bits .and .u32 (n / 1048576) 15 = n / 1048576 % 16 := Cp.mask15 _ (by omega) (by omega)
  have m2 : bits .and .u32 (n / 65536) 15 = n / 65536 % 16 := Cp.mask15 _ (by omega) (by omega)
  have m3 : bits .and .u32 n 65535 = n % 65536 := Cp.mask16 _ (by omega) (by omega)
  go_enter Try.func11, Try.ntmps11
  go_wp2_with (first
    | (go_at_call 33; refine (HO.out _).mono ?_; rintro e w' ⟨rfl, hb⟩; have hs : w.heap.size < w'.heap.size := by { have := hb.size; simp at this; omega }; have hR : w'.heap[w.heap.size]? = some (.cells #[.int .i64 0, .int .i64 0, .int .i64 0, .int .i64 0, .int .i64 0] 24 (0, 0)) := (hb.block w.heap.size (by simp)).trans (heap_alloc_new w _); obtain ⟨q0, q1, q2, q3, q4, qz⟩ := blk5 hR; have HR := Lib.hid hR; clear hR; have HB := Lib.hid hb; clear hb)
    | (go_at_call 34; refine (HC.out _).mono ?_; rintro e w' ⟨rfl, rfl⟩))
  refine (HM.out _).mono ?_
  rintro e w2 ⟨rfl, hb2⟩
  have hs2 : w'.heap.size + 1 < w2.heap.size := by have := hb2.size; simp at this; omega
  have hs3 : w.heap.size < w2.heap.size := by omega
  have hR2 : w2.heap[w.heap.size]? = some (.cells #[.int .i64 0, .int .i64 0, .int .i64 0, .int .i64 0, .int .i64 0] 24 (0, 0)) := ((hb2.block w.heap.size (by simp <;> omega)).trans ((Below.heap_alloc _ _ _ (by simp <;> omega)).trans (Below.heap_alloc _ _ _ (by omega)))).trans HR.out
  obtain ⟨p0, p1, p2, p3, p4, pz⟩ := blk5 hR2
  have hI2 := (hb2.block (w'.heap.size + 1) (by simp)).trans (heap_alloc_new2 w' _ _)
  obtain ⟨j0, j1, j2, j3, j4, jz⟩ := blk5 hI2
  have HB2 := Lib.hid hb2
  clear hb2 hR2 hI2 q0 q1 q2 q3 q4 qz
  go_wp2_with fail
  refine bodyPost_ret (v := .tuple #[Cp.instrOf 0 0 0 0 0, .bool false]) (by simp [results, Try.results11, go_sem, p0, p1, p2, p3, p4, hs3, World.cell?_alloc_lt, Cp.instrOf]) rfl ⟨rfl, ?_⟩
  have hB : Below w.heap.size w w' := ((Below.refl _ _).alloc (by simp) _).trans (HB.out.mono (by simp))
  have hB2 : Below w.heap.size w w2 := ((hB.alloc (by omega) _).alloc (by simp <;> omega) _).trans (HB2.out.mono (by simp <;> omega))
  clear HB HB2 HR hB p0 p1 p2 p3 p4 pz j0 j1 j2 j3 j4 jz
  repeat (first | (with_reducible assumption) | refine Below.alloc ?_ (by simp <;> try omega) _ | refine Below.setCell ?_ (by simp <;> try omega) _)

set_option maxHeartbeats 1000000 in
theorem decode_U0 (n : Int) (w : World) (h0 : 0 ≤ n) (h1 : n ≤ 4294967295) (nm F : ByteArray) (lo hi : Int) (hlo : 0 ≤ lo)
    (ho : ∀ w, Calls Try.prog 33 #[.int .i64 (n / 16777216)] w fun e w' => e = .returned (.tuple #[.agg #[.string nm, .string F, .int .i64 lo, .int .i64 hi], .bool true]) ∧ Below w.heap.size w w')
    (hF : F.data.toList.contains 73 = true) 
    (hm : ∀ w, Calls Try.prog 35 #[Cp.instrOf (n / 16777216) (n / 1048576 % 16) (n / 65536 % 16) 0 (n % 65536)] w fun e w' => e = .returned (.tuple #[.agg #[.string nm, .string F, .int .i64 lo, .int .i64 hi], .int .i64 0]) ∧ Below w.heap.size w w') :
    Calls Try.prog 11 #[.int .u32 n] w fun e w' => e = .returned (.tuple #[Cp.instrOf (n / 16777216) (n / 1048576 % 16) (n / 65536 % 16) 0 (n % 65536), .bool true]) ∧ Below w.heap.size w w' := by
  have HO := Lib.hid ho
  clear ho
  unfold Cp.instrOf at hm ⊢
  have HM := Lib.hid hm
  clear hm
  have HC := Lib.hid (contains_I F _ hF)
  clear hF
  have m1 : bits .and .u32 (n / 1048576) 15 = n / 1048576 % 16 := Cp.mask15 _ (by omega) (by omega)
  have m2 : bits .and .u32 (n / 65536) 15 = n / 65536 % 16 := Cp.mask15 _ (by omega) (by omega)
  have m3 : bits .and .u32 n 65535 = n % 65536 := Cp.mask16 _ (by omega) (by omega)
  go_enter Try.func11, Try.ntmps11
  go_wp2_with (first
    | (go_at_call 33; refine (HO.out _).mono ?_; rintro e w' ⟨rfl, hb⟩; have hs : w.heap.size < w'.heap.size := by { have := hb.size; simp at this; omega }; have hR : w'.heap[w.heap.size]? = some (.cells #[.int .i64 0, .int .i64 0, .int .i64 0, .int .i64 0, .int .i64 0] 24 (0, 0)) := (hb.block w.heap.size (by simp)).trans (heap_alloc_new w _); obtain ⟨q0, q1, q2, q3, q4, qz⟩ := blk5 hR; have HR := Lib.hid hR; clear hR; have HB := Lib.hid hb; clear hb)
    | (go_at_call 34; refine (HC.out _).mono ?_; rintro e w' ⟨rfl, rfl⟩))
  refine (HM.out _).mono ?_
  rintro e w2 ⟨rfl, hb2⟩
  have hs2 : w'.heap.size + 1 < w2.heap.size := by have := hb2.size; simp at this; omega
  have hs3 : w.heap.size < w2.heap.size := by omega
  have hR2 : w2.heap[w.heap.size]? = some (.cells #[.int .i64 0, .int .i64 0, .int .i64 0, .int .i64 0, .int .i64 0] 24 (0, 0)) := ((hb2.block w.heap.size (by simp <;> omega)).trans ((Below.heap_alloc _ _ _ (by simp <;> omega)).trans (Below.heap_alloc _ _ _ (by omega)))).trans HR.out
  obtain ⟨p0, p1, p2, p3, p4, pz⟩ := blk5 hR2
  have hI2 := (hb2.block (w'.heap.size + 1) (by simp)).trans (heap_alloc_new2 w' _ _)
  obtain ⟨j0, j1, j2, j3, j4, jz⟩ := blk5 hI2
  have HB2 := Lib.hid hb2
  clear hb2 hR2 hI2 q0 q1 q2 q3 q4 qz
  go_wp2_with fail
  refine bodyPost_ret (v := .tuple #[Cp.instrOf (n / 16777216) (n / 1048576 % 16) (n / 65536 % 16) 0 (n % 65536), .bool true]) (by simp [results, Try.results11, go_sem, p0, p1, p2, p3, p4, hs3, World.cell?_alloc_lt, Cp.instrOf]) rfl ⟨rfl, ?_⟩
  have hB : Below w.heap.size w w' := ((Below.refl _ _).alloc (by simp) _).trans (HB.out.mono (by simp))
  have hB2 : Below w.heap.size w w2 := ((hB.alloc (by omega) _).alloc (by simp <;> omega) _).trans (HB2.out.mono (by simp <;> omega))
  clear HB HB2 HR hB p0 p1 p2 p3 p4 pz j0 j1 j2 j3 j4 jz
  repeat (first | (with_reducible assumption) | refine Below.alloc ?_ (by simp <;> try omega) _ | refine Below.setCell ?_ (by simp <;> try omega) _)

set_option maxHeartbeats 1000000 in
theorem decode_U6 (n : Int) (w : World) (h0 : 0 ≤ n) (h1 : n ≤ 4294967295) (nm F : ByteArray) (lo hi : Int) (hlo : 0 ≤ lo)
    (ho : ∀ w, Calls Try.prog 33 #[.int .i64 (n / 16777216)] w fun e w' => e = .returned (.tuple #[.agg #[.string nm, .string F, .int .i64 lo, .int .i64 hi], .bool true]) ∧ Below w.heap.size w w')
    (hF : F.data.toList.contains 73 = true) 
    (hm : ∀ w, Calls Try.prog 35 #[Cp.instrOf (n / 16777216) (n / 1048576 % 16) (n / 65536 % 16) 0 (n % 65536)] w fun e w' => e = .returned (.tuple #[.agg #[.string nm, .string F, .int .i64 lo, .int .i64 hi], .int .i64 6]) ∧ Below w.heap.size w w') :
    Calls Try.prog 11 #[.int .u32 n] w fun e w' => e = .returned (.tuple #[Cp.instrOf 0 0 0 0 0, .bool false]) ∧ Below w.heap.size w w' := by
  have HO := Lib.hid ho
  clear ho
  unfold Cp.instrOf at hm ⊢
  have HM := Lib.hid hm
  clear hm
  have HC := Lib.hid (contains_I F _ hF)
  clear hF
  have m1 : bits .and .u32 (n / 1048576) 15 = n / 1048576 % 16 := Cp.mask15 _ (by omega) (by omega)
  have m2 : bits .and .u32 (n / 65536) 15 = n / 65536 % 16 := Cp.mask15 _ (by omega) (by omega)
  have m3 : bits .and .u32 n 65535 = n % 65536 := Cp.mask16 _ (by omega) (by omega)
  go_enter Try.func11, Try.ntmps11
  go_wp2_with (first
    | (go_at_call 33; refine (HO.out _).mono ?_; rintro e w' ⟨rfl, hb⟩; have hs : w.heap.size < w'.heap.size := by { have := hb.size; simp at this; omega }; have hR : w'.heap[w.heap.size]? = some (.cells #[.int .i64 0, .int .i64 0, .int .i64 0, .int .i64 0, .int .i64 0] 24 (0, 0)) := (hb.block w.heap.size (by simp)).trans (heap_alloc_new w _); obtain ⟨q0, q1, q2, q3, q4, qz⟩ := blk5 hR; have HR := Lib.hid hR; clear hR; have HB := Lib.hid hb; clear hb)
    | (go_at_call 34; refine (HC.out _).mono ?_; rintro e w' ⟨rfl, rfl⟩))
  refine (HM.out _).mono ?_
  rintro e w2 ⟨rfl, hb2⟩
  have hs2 : w'.heap.size + 1 < w2.heap.size := by have := hb2.size; simp at this; omega
  have hs3 : w.heap.size < w2.heap.size := by omega
  have hR2 : w2.heap[w.heap.size]? = some (.cells #[.int .i64 0, .int .i64 0, .int .i64 0, .int .i64 0, .int .i64 0] 24 (0, 0)) := ((hb2.block w.heap.size (by simp <;> omega)).trans ((Below.heap_alloc _ _ _ (by simp <;> omega)).trans (Below.heap_alloc _ _ _ (by omega)))).trans HR.out
  obtain ⟨p0, p1, p2, p3, p4, pz⟩ := blk5 hR2
  have hI2 := (hb2.block (w'.heap.size + 1) (by simp)).trans (heap_alloc_new2 w' _ _)
  obtain ⟨j0, j1, j2, j3, j4, jz⟩ := blk5 hI2
  have HB2 := Lib.hid hb2
  clear hb2 hR2 hI2 q0 q1 q2 q3 q4 qz
  go_wp2_with fail
  refine bodyPost_ret (v := .tuple #[Cp.instrOf 0 0 0 0 0, .bool false]) (by simp [results, Try.results11, go_sem, p0, p1, p2, p3, p4, hs3, World.cell?_alloc_lt, Cp.instrOf]) rfl ⟨rfl, ?_⟩
  have hB : Below w.heap.size w w' := ((Below.refl _ _).alloc (by simp) _).trans (HB.out.mono (by simp))
  have hB2 : Below w.heap.size w w2 := ((hB.alloc (by omega) _).alloc (by simp <;> omega) _).trans (HB2.out.mono (by simp <;> omega))
  clear HB HB2 HR hB p0 p1 p2 p3 p4 pz j0 j1 j2 j3 j4 jz
  repeat (first | (with_reducible assumption) | refine Below.alloc ?_ (by simp <;> try omega) _ | refine Below.setCell ?_ (by simp <;> try omega) _)

end Go.Proofs.Ythnehhidlaggeaa
