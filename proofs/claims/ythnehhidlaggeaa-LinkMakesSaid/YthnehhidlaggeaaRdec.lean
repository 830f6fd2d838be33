/- scarfjointref2.Decode: the walk. -/
import Derived.Test.YthnehhidlaggeaaChk
import Derived.Test.YthnehhidlaggeaaCodePlain
namespace Go.Proofs.Ythnehhidlaggeaa
set_option linter.unusedVariables false
set_option linter.unusedSimpArgs false
open Go.RowKit

set_option maxHeartbeats 400000 in
theorem rdecode_none (n : Int) (w : World) (h0 : 0 ≤ n) (h1 : n ≤ 4294967295)
    (ho : ∀ w, Calls Try.prog 36 #[.int .i64 (n / 16777216)] w fun e w' => e = .returned (.tuple #[.agg #[.int .i64 0, .string ⟨#[]⟩, .string ⟨#[]⟩, .bool false], .bool false]) ∧ Below w.heap.size w w') :
    Calls Try.prog 12 #[.int .u32 n] w fun e w' => e = .returned (.tuple #[Cp.instrOf 0 0 0 0 0, .bool false]) ∧ Below w.heap.size w w' := by
  have HO := Lib.hid ho
  clear ho
  go_enter Try.func12, Try.ntmps12
  go_wp2_with fail
  refine (HO.out _).mono ?_
  rintro e w' ⟨rfl, hb⟩
  have hs : w.heap.size < w'.heap.size := by have := hb.size; simp at this; omega
  have hR : w'.heap[w.heap.size]? = some (.cells #[.int .i64 0, .int .i64 0, .int .i64 0, .int .i64 0, .int .i64 0] 24 (0, 0)) := (hb.block w.heap.size (by simp)).trans (heap_alloc_new w _)
  obtain ⟨q0, q1, q2, q3, q4, qz⟩ := blk5 hR
  have hB : Below w.heap.size w w' := ((Below.refl _ _).alloc (Nat.le_refl _) _).trans (hb.mono (by simp))
  clear hb hR
  go_wp2_with fail
  refine bodyPost_ret (v := .tuple #[Cp.instrOf 0 0 0 0 0, .bool false]) (by simp [results, Try.results12, go_sem, q0, q1, q2, q3, q4, hs, World.cell?_alloc_lt, Cp.instrOf]) rfl ⟨rfl, ?_⟩
  clear q0 q1 q2 q3 q4 qz
  repeat (first | (with_reducible assumption) | refine Below.alloc ?_ (by simp <;> try omega) _ | refine Below.setCell ?_ (by simp <;> try omega) _)

set_option maxHeartbeats 1000000 in
theorem rdecode_C0 (n : Int) (w : World) (h0 : 0 ≤ n) (h1 : n ≤ 4294967295) (nm F : ByteArray) (s : Bool)
    (ho : ∀ w, Calls Try.prog 36 #[.int .i64 (n / 16777216)] w fun e w' => e = .returned (.tuple #[.agg #[.int .i64 (n / 16777216), .string nm, .string F, .bool s], .bool true]) ∧ Below w.heap.size w w')
    (hfs : F.size ≤ 9223372036854775807) (hF : F.data.toList.contains 73 = false) 
    (hm : ∀ w, Calls Try.prog 38 #[Cp.instrOf (n / 16777216) (n / 1048576 % 16) (n / 65536 % 16) (n % 65536) 0] w fun e w' => e = .returned (.int .i64 0) ∧ Below w.heap.size w w') :
    Calls Try.prog 12 #[.int .u32 n] w fun e w' => e = .returned (.tuple #[Cp.instrOf (n / 16777216) (n / 1048576 % 16) (n / 65536 % 16) (n % 65536) 0, .bool true]) ∧ Below w.heap.size w w' := by
  have HO := Lib.hid ho
  clear ho
  unfold Cp.instrOf at hm ⊢
  have HM := Lib.hid hm
  clear hm
  have HC := Lib.hid (has_k F 73 _ hfs (by omega) (by omega) hF)
  clear hF hfs
  go_enter Try.func12, Try.ntmps12
  go_wp2_with fail
  refine (HO.out _).mono ?_
  rintro e w' ⟨rfl, hb⟩
  have hs : w.heap.size < w'.heap.size := by have := hb.size; simp at this; omega
  have hR : w'.heap[w.heap.size]? = some (.cells #[.int .i64 0, .int .i64 0, .int .i64 0, .int .i64 0, .int .i64 0] 24 (0, 0)) := (hb.block w.heap.size (by simp)).trans (heap_alloc_new w _)
  have HR := Lib.hid hR
  have hB : Below w.heap.size w w' := ((Below.refl _ _).alloc (Nat.le_refl _) _).trans (hb.mono (by simp))
  have HB := Lib.hid hB
  clear hb hR hB
  go_wp2_with (go_at_call 37; refine (HC.out _).mono ?_; rintro e w' ⟨rfl, rfl⟩)
  refine (HM.out _).mono ?_
  rintro e w2 ⟨rfl, hb2⟩
  have hs2 : w'.heap.size + 1 < w2.heap.size := by have := hb2.size; simp at this; omega
  have hs3 : w.heap.size < w2.heap.size := by omega
  have hR2 : w2.heap[w.heap.size]? = some (.cells #[.int .i64 0, .int .i64 0, .int .i64 0, .int .i64 0, .int .i64 0] 24 (0, 0)) := ((hb2.block w.heap.size (by simp <;> omega)).trans ((Below.heap_alloc _ _ _ (by simp <;> omega)).trans (Below.heap_alloc _ _ _ (by omega)))).trans HR.out
  obtain ⟨p0, p1, p2, p3, p4, pz⟩ := blk5 hR2
  have hI2 := (hb2.block (w'.heap.size + 1) (by simp)).trans (heap_alloc_new2 w' _ _)
  obtain ⟨j0, j1, j2, j3, j4, jz⟩ := blk5 hI2
  have hB2 : Below w.heap.size w w2 := ((HB.out.alloc (by omega) _).alloc (by simp <;> omega) _).trans (hb2.mono (by simp <;> omega))
  have HB2 := Lib.hid hB2
  clear hb2 hR2 hI2 HB HR hB2
  go_wp2_with fail
  refine bodyPost_ret (v := .tuple #[Cp.instrOf (n / 16777216) (n / 1048576 % 16) (n / 65536 % 16) (n % 65536) 0, .bool true]) (by simp [results, Try.results12, go_sem, p0, p1, p2, p3, p4, hs3, World.cell?_alloc_lt, Cp.instrOf]) rfl ⟨rfl, ?_⟩
  have hB2 := HB2.out
  clear HB2 p0 p1 p2 p3 p4 pz j0 j1 j2 j3 j4 jz
  repeat (first | (with_reducible assumption) | refine Below.alloc ?_ (by simp <;> try omega) _ | refine Below.setCell ?_ (by simp <;> try omega) _)

set_option maxHeartbeats 1000000 in
theorem rdecode_C6 (n : Int) (w : World) (h0 : 0 ≤ n) (h1 : n ≤ 4294967295) (nm F : ByteArray) (s : Bool)
    (ho : ∀ w, Calls Try.prog 36 #[.int .i64 (n / 16777216)] w fun e w' => e = .returned (.tuple #[.agg #[.int .i64 (n / 16777216), .string nm, .string F, .bool s], .bool true]) ∧ Below w.heap.size w w')
    (hfs : F.size ≤ 9223372036854775807) (hF : F.data.toList.contains 73 = false) 
    (hm : ∀ w, Calls Try.prog 38 #[Cp.instrOf (n / 16777216) (n / 1048576 % 16) (n / 65536 % 16) (n % 65536) 0] w fun e w' => e = .returned (.int .i64 6) ∧ Below w.heap.size w w') :
    Calls Try.prog 12 #[.int .u32 n] w fun e w' => e = .returned (.tuple #[Cp.instrOf 0 0 0 0 0, .bool false]) ∧ Below w.heap.size w w' := by
  have HO := Lib.hid ho
  clear ho
  unfold Cp.instrOf at hm ⊢
  have HM := Lib.hid hm
  clear hm
  have HC := Lib.hid (has_k F 73 _ hfs (by omega) (by omega) hF)
  clear hF hfs
  go_enter Try.func12, Try.ntmps12
  go_wp2_with fail
  refine (HO.out _).mono ?_
  rintro e w' ⟨rfl, hb⟩
  have hs : w.heap.size < w'.heap.size := by have := hb.size; simp at this; omega
  have hR : w'.heap[w.heap.size]? = some (.cells #[.int .i64 0, .int .i64 0, .int .i64 0, .int .i64 0, .int .i64 0] 24 (0, 0)) := (hb.block w.heap.size (by simp)).trans (heap_alloc_new w _)
  have HR := Lib.hid hR
  have hB : Below w.heap.size w w' := ((Below.refl _ _).alloc (Nat.le_refl _) _).trans (hb.mono (by simp))
  have HB := Lib.hid hB
  clear hb hR hB
  go_wp2_with (go_at_call 37; refine (HC.out _).mono ?_; rintro e w' ⟨rfl, rfl⟩)
  refine (HM.out _).mono ?_
  rintro e w2 ⟨rfl, hb2⟩
  have hs2 : w'.heap.size + 1 < w2.heap.size := by have := hb2.size; simp at this; omega
  have hs3 : w.heap.size < w2.heap.size := by omega
  have hR2 : w2.heap[w.heap.size]? = some (.cells #[.int .i64 0, .int .i64 0, .int .i64 0, .int .i64 0, .int .i64 0] 24 (0, 0)) := ((hb2.block w.heap.size (by simp <;> omega)).trans ((Below.heap_alloc _ _ _ (by simp <;> omega)).trans (Below.heap_alloc _ _ _ (by omega)))).trans HR.out
  obtain ⟨p0, p1, p2, p3, p4, pz⟩ := blk5 hR2
  have hI2 := (hb2.block (w'.heap.size + 1) (by simp)).trans (heap_alloc_new2 w' _ _)
  obtain ⟨j0, j1, j2, j3, j4, jz⟩ := blk5 hI2
  have hB2 : Below w.heap.size w w2 := ((HB.out.alloc (by omega) _).alloc (by simp <;> omega) _).trans (hb2.mono (by simp <;> omega))
  have HB2 := Lib.hid hB2
  clear hb2 hR2 hI2 HB HR hB2
  go_wp2_with fail
  refine bodyPost_ret (v := .tuple #[Cp.instrOf 0 0 0 0 0, .bool false]) (by simp [results, Try.results12, go_sem, p0, p1, p2, p3, p4, hs3, World.cell?_alloc_lt, Cp.instrOf]) rfl ⟨rfl, ?_⟩
  have hB2 := HB2.out
  clear HB2 p0 p1 p2 p3 p4 pz j0 j1 j2 j3 j4 jz
  repeat (first | (with_reducible assumption) | refine Below.alloc ?_ (by simp <;> try omega) _ | refine Below.setCell ?_ (by simp <;> try omega) _)

set_option maxHeartbeats 1000000 in
theorem rdecode_H0 (n : Int) (w : World) (h0 : 0 ≤ n) (h1 : n ≤ 4294967295) (nm F : ByteArray) 
    (ho : ∀ w, Calls Try.prog 36 #[.int .i64 (n / 16777216)] w fun e w' => e = .returned (.tuple #[.agg #[.int .i64 (n / 16777216), .string nm, .string F, .bool true], .bool true]) ∧ Below w.heap.size w w')
    (hfs : F.size ≤ 9223372036854775807) (hF : F.data.toList.contains 73 = true) (hlow : 32768 ≤ n % 65536)
    (hm : ∀ w, Calls Try.prog 38 #[Cp.instrOf (n / 16777216) (n / 1048576 % 16) (n / 65536 % 16) 0 (n % 65536 - 65536)] w fun e w' => e = .returned (.int .i64 0) ∧ Below w.heap.size w w') :
    Calls Try.prog 12 #[.int .u32 n] w fun e w' => e = .returned (.tuple #[Cp.instrOf (n / 16777216) (n / 1048576 % 16) (n / 65536 % 16) 0 (n % 65536 - 65536), .bool true]) ∧ Below w.heap.size w w' := by
  have HO := Lib.hid ho
  clear ho
  unfold Cp.instrOf at hm ⊢
  have HM := Lib.hid hm
  clear hm
  have HC := Lib.hid (has_k F 73 _ hfs (by omega) (by omega) hF)
  clear hF hfs
  go_enter Try.func12, Try.ntmps12
  go_wp2_with fail
  refine (HO.out _).mono ?_
  rintro e w' ⟨rfl, hb⟩
  have hs : w.heap.size < w'.heap.size := by have := hb.size; simp at this; omega
  have hR : w'.heap[w.heap.size]? = some (.cells #[.int .i64 0, .int .i64 0, .int .i64 0, .int .i64 0, .int .i64 0] 24 (0, 0)) := (hb.block w.heap.size (by simp)).trans (heap_alloc_new w _)
  have HR := Lib.hid hR
  have hB : Below w.heap.size w w' := ((Below.refl _ _).alloc (Nat.le_refl _) _).trans (hb.mono (by simp))
  have HB := Lib.hid hB
  clear hb hR hB
  go_wp2_with (go_at_call 37; refine (HC.out _).mono ?_; rintro e w' ⟨rfl, rfl⟩)
  refine (HM.out _).mono ?_
  rintro e w2 ⟨rfl, hb2⟩
  have hs2 : w'.heap.size + 1 < w2.heap.size := by have := hb2.size; simp at this; omega
  have hs3 : w.heap.size < w2.heap.size := by omega
  have hR2 : w2.heap[w.heap.size]? = some (.cells #[.int .i64 0, .int .i64 0, .int .i64 0, .int .i64 0, .int .i64 0] 24 (0, 0)) := ((hb2.block w.heap.size (by simp <;> omega)).trans ((Below.heap_alloc _ _ _ (by simp <;> omega)).trans (Below.heap_alloc _ _ _ (by omega)))).trans HR.out
  obtain ⟨p0, p1, p2, p3, p4, pz⟩ := blk5 hR2
  have hI2 := (hb2.block (w'.heap.size + 1) (by simp)).trans (heap_alloc_new2 w' _ _)
  obtain ⟨j0, j1, j2, j3, j4, jz⟩ := blk5 hI2
  have hB2 : Below w.heap.size w w2 := ((HB.out.alloc (by omega) _).alloc (by simp <;> omega) _).trans (hb2.mono (by simp <;> omega))
  have HB2 := Lib.hid hB2
  clear hb2 hR2 hI2 HB HR hB2
  go_wp2_with fail
  refine bodyPost_ret (v := .tuple #[Cp.instrOf (n / 16777216) (n / 1048576 % 16) (n / 65536 % 16) 0 (n % 65536 - 65536), .bool true]) (by simp [results, Try.results12, go_sem, p0, p1, p2, p3, p4, hs3, World.cell?_alloc_lt, Cp.instrOf]) rfl ⟨rfl, ?_⟩
  have hB2 := HB2.out
  clear HB2 p0 p1 p2 p3 p4 pz j0 j1 j2 j3 j4 jz
  repeat (first | (with_reducible assumption) | refine Below.alloc ?_ (by simp <;> try omega) _ | refine Below.setCell ?_ (by simp <;> try omega) _)

set_option maxHeartbeats 1000000 in
theorem rdecode_H6 (n : Int) (w : World) (h0 : 0 ≤ n) (h1 : n ≤ 4294967295) (nm F : ByteArray) 
    (ho : ∀ w, Calls Try.prog 36 #[.int .i64 (n / 16777216)] w fun e w' => e = .returned (.tuple #[.agg #[.int .i64 (n / 16777216), .string nm, .string F, .bool true], .bool true]) ∧ Below w.heap.size w w')
    (hfs : F.size ≤ 9223372036854775807) (hF : F.data.toList.contains 73 = true) (hlow : 32768 ≤ n % 65536)
    (hm : ∀ w, Calls Try.prog 38 #[Cp.instrOf (n / 16777216) (n / 1048576 % 16) (n / 65536 % 16) 0 (n % 65536 - 65536)] w fun e w' => e = .returned (.int .i64 6) ∧ Below w.heap.size w w') :
    Calls Try.prog 12 #[.int .u32 n] w fun e w' => e = .returned (.tuple #[Cp.instrOf 0 0 0 0 0, .bool false]) ∧ Below w.heap.size w w' := by
  have HO := Lib.hid ho
  clear ho
  unfold Cp.instrOf at hm ⊢
  have HM := Lib.hid hm
  clear hm
  have HC := Lib.hid (has_k F 73 _ hfs (by omega) (by omega) hF)
  clear hF hfs
  go_enter Try.func12, Try.ntmps12
  go_wp2_with fail
  refine (HO.out _).mono ?_
  rintro e w' ⟨rfl, hb⟩
  have hs : w.heap.size < w'.heap.size := by have := hb.size; simp at this; omega
  have hR : w'.heap[w.heap.size]? = some (.cells #[.int .i64 0, .int .i64 0, .int .i64 0, .int .i64 0, .int .i64 0] 24 (0, 0)) := (hb.block w.heap.size (by simp)).trans (heap_alloc_new w _)
  have HR := Lib.hid hR
  have hB : Below w.heap.size w w' := ((Below.refl _ _).alloc (Nat.le_refl _) _).trans (hb.mono (by simp))
  have HB := Lib.hid hB
  clear hb hR hB
  go_wp2_with (go_at_call 37; refine (HC.out _).mono ?_; rintro e w' ⟨rfl, rfl⟩)
  refine (HM.out _).mono ?_
  rintro e w2 ⟨rfl, hb2⟩
  have hs2 : w'.heap.size + 1 < w2.heap.size := by have := hb2.size; simp at this; omega
  have hs3 : w.heap.size < w2.heap.size := by omega
  have hR2 : w2.heap[w.heap.size]? = some (.cells #[.int .i64 0, .int .i64 0, .int .i64 0, .int .i64 0, .int .i64 0] 24 (0, 0)) := ((hb2.block w.heap.size (by simp <;> omega)).trans ((Below.heap_alloc _ _ _ (by simp <;> omega)).trans (Below.heap_alloc _ _ _ (by omega)))).trans HR.out
  obtain ⟨p0, p1, p2, p3, p4, pz⟩ := blk5 hR2
  have hI2 := (hb2.block (w'.heap.size + 1) (by simp)).trans (heap_alloc_new2 w' _ _)
  obtain ⟨j0, j1, j2, j3, j4, jz⟩ := blk5 hI2
  have hB2 : Below w.heap.size w w2 := ((HB.out.alloc (by omega) _).alloc (by simp <;> omega) _).trans (hb2.mono (by simp <;> omega))
  have HB2 := Lib.hid hB2
  clear hb2 hR2 hI2 HB HR hB2
  go_wp2_with fail
  refine bodyPost_ret (v := .tuple #[Cp.instrOf 0 0 0 0 0, .bool false]) (by simp [results, Try.results12, go_sem, p0, p1, p2, p3, p4, hs3, World.cell?_alloc_lt, Cp.instrOf]) rfl ⟨rfl, ?_⟩
  have hB2 := HB2.out
  clear HB2 p0 p1 p2 p3 p4 pz j0 j1 j2 j3 j4 jz
  repeat (first | (with_reducible assumption) | refine Below.alloc ?_ (by simp <;> try omega) _ | refine Below.setCell ?_ (by simp <;> try omega) _)

set_option maxHeartbeats 1000000 in
theorem rdecode_L0 (n : Int) (w : World) (h0 : 0 ≤ n) (h1 : n ≤ 4294967295) (nm F : ByteArray) 
    (ho : ∀ w, Calls Try.prog 36 #[.int .i64 (n / 16777216)] w fun e w' => e = .returned (.tuple #[.agg #[.int .i64 (n / 16777216), .string nm, .string F, .bool true], .bool true]) ∧ Below w.heap.size w w')
    (hfs : F.size ≤ 9223372036854775807) (hF : F.data.toList.contains 73 = true) (hlow : n % 65536 < 32768)
    (hm : ∀ w, Calls Try.prog 38 #[Cp.instrOf (n / 16777216) (n / 1048576 % 16) (n / 65536 % 16) 0 (n % 65536)] w fun e w' => e = .returned (.int .i64 0) ∧ Below w.heap.size w w') :
    Calls Try.prog 12 #[.int .u32 n] w fun e w' => e = .returned (.tuple #[Cp.instrOf (n / 16777216) (n / 1048576 % 16) (n / 65536 % 16) 0 (n % 65536), .bool true]) ∧ Below w.heap.size w w' := by
  have HO := Lib.hid ho
  clear ho
  unfold Cp.instrOf at hm ⊢
  have HM := Lib.hid hm
  clear hm
  have HC := Lib.hid (has_k F 73 _ hfs (by omega) (by omega) hF)
  clear hF hfs
  go_enter Try.func12, Try.ntmps12
  go_wp2_with fail
  refine (HO.out _).mono ?_
  rintro e w' ⟨rfl, hb⟩
  have hs : w.heap.size < w'.heap.size := by have := hb.size; simp at this; omega
  have hR : w'.heap[w.heap.size]? = some (.cells #[.int .i64 0, .int .i64 0, .int .i64 0, .int .i64 0, .int .i64 0] 24 (0, 0)) := (hb.block w.heap.size (by simp)).trans (heap_alloc_new w _)
  have HR := Lib.hid hR
  have hB : Below w.heap.size w w' := ((Below.refl _ _).alloc (Nat.le_refl _) _).trans (hb.mono (by simp))
  have HB := Lib.hid hB
  clear hb hR hB
  go_wp2_with (go_at_call 37; refine (HC.out _).mono ?_; rintro e w' ⟨rfl, rfl⟩)
  refine (HM.out _).mono ?_
  rintro e w2 ⟨rfl, hb2⟩
  have hs2 : w'.heap.size + 1 < w2.heap.size := by have := hb2.size; simp at this; omega
  have hs3 : w.heap.size < w2.heap.size := by omega
  have hR2 : w2.heap[w.heap.size]? = some (.cells #[.int .i64 0, .int .i64 0, .int .i64 0, .int .i64 0, .int .i64 0] 24 (0, 0)) := ((hb2.block w.heap.size (by simp <;> omega)).trans ((Below.heap_alloc _ _ _ (by simp <;> omega)).trans (Below.heap_alloc _ _ _ (by omega)))).trans HR.out
  obtain ⟨p0, p1, p2, p3, p4, pz⟩ := blk5 hR2
  have hI2 := (hb2.block (w'.heap.size + 1) (by simp)).trans (heap_alloc_new2 w' _ _)
  obtain ⟨j0, j1, j2, j3, j4, jz⟩ := blk5 hI2
  have hB2 : Below w.heap.size w w2 := ((HB.out.alloc (by omega) _).alloc (by simp <;> omega) _).trans (hb2.mono (by simp <;> omega))
  have HB2 := Lib.hid hB2
  clear hb2 hR2 hI2 HB HR hB2
  go_wp2_with fail
  refine bodyPost_ret (v := .tuple #[Cp.instrOf (n / 16777216) (n / 1048576 % 16) (n / 65536 % 16) 0 (n % 65536), .bool true]) (by simp [results, Try.results12, go_sem, p0, p1, p2, p3, p4, hs3, World.cell?_alloc_lt, Cp.instrOf]) rfl ⟨rfl, ?_⟩
  have hB2 := HB2.out
  clear HB2 p0 p1 p2 p3 p4 pz j0 j1 j2 j3 j4 jz
  repeat (first | (with_reducible assumption) | refine Below.alloc ?_ (by simp <;> try omega) _ | refine Below.setCell ?_ (by simp <;> try omega) _)

set_option maxHeartbeats 1000000 in
theorem rdecode_L6 (n : Int) (w : World) (h0 : 0 ≤ n) (h1 : n ≤ 4294967295) (nm F : ByteArray) 
    (ho : ∀ w, Calls Try.prog 36 #[.int .i64 (n / 16777216)] w fun e w' => e = .returned (.tuple #[.agg #[.int .i64 (n / 16777216), .string nm, .string F, .bool true], .bool true]) ∧ Below w.heap.size w w')
    (hfs : F.size ≤ 9223372036854775807) (hF : F.data.toList.contains 73 = true) (hlow : n % 65536 < 32768)
    (hm : ∀ w, Calls Try.prog 38 #[Cp.instrOf (n / 16777216) (n / 1048576 % 16) (n / 65536 % 16) 0 (n % 65536)] w fun e w' => e = .returned (.int .i64 6) ∧ Below w.heap.size w w') :
    Calls Try.prog 12 #[.int .u32 n] w fun e w' => e = .returned (.tuple #[Cp.instrOf 0 0 0 0 0, .bool false]) ∧ Below w.heap.size w w' := by
  have HO := Lib.hid ho
  clear ho
  unfold Cp.instrOf at hm ⊢
  have HM := Lib.hid hm
  clear hm
  have HC := Lib.hid (has_k F 73 _ hfs (by omega) (by omega) hF)
  clear hF hfs
  go_enter Try.func12, Try.ntmps12
  go_wp2_with fail
  refine (HO.out _).mono ?_
  rintro e w' ⟨rfl, hb⟩
  have hs : w.heap.size < w'.heap.size := by have := hb.size; simp at this; omega
  have hR : w'.heap[w.heap.size]? = some (.cells #[.int .i64 0, .int .i64 0, .int .i64 0, .int .i64 0, .int .i64 0] 24 (0, 0)) := (hb.block w.heap.size (by simp)).trans (heap_alloc_new w _)
  have HR := Lib.hid hR
  have hB : Below w.heap.size w w' := ((Below.refl _ _).alloc (Nat.le_refl _) _).trans (hb.mono (by simp))
  have HB := Lib.hid hB
  clear hb hR hB
  go_wp2_with (go_at_call 37; refine (HC.out _).mono ?_; rintro e w' ⟨rfl, rfl⟩)
  refine (HM.out _).mono ?_
  rintro e w2 ⟨rfl, hb2⟩
  have hs2 : w'.heap.size + 1 < w2.heap.size := by have := hb2.size; simp at this; omega
  have hs3 : w.heap.size < w2.heap.size := by omega
  have hR2 : w2.heap[w.heap.size]? = some (.cells #[.int .i64 0, .int .i64 0, .int .i64 0, .int .i64 0, .int .i64 0] 24 (0, 0)) := ((hb2.block w.heap.size (by simp <;> omega)).trans ((Below.heap_alloc _ _ _ (by simp <;> omega)).trans (Below.heap_alloc _ _ _ (by omega)))).trans HR.out
  obtain ⟨p0, p1, p2, p3, p4, pz⟩ := blk5 hR2
  have hI2 := (hb2.block (w'.heap.size + 1) (by simp)).trans (heap_alloc_new2 w' _ _)
  obtain ⟨j0, j1, j2, j3, j4, jz⟩ := blk5 hI2
  have hB2 : Below w.heap.size w w2 := ((HB.out.alloc (by omega) _).alloc (by simp <;> omega) _).trans (hb2.mono (by simp <;> omega))
  have HB2 := Lib.hid hB2
  clear hb2 hR2 hI2 HB HR hB2
  go_wp2_with fail
  refine bodyPost_ret (v := .tuple #[Cp.instrOf 0 0 0 0 0, .bool false]) (by simp [results, Try.results12, go_sem, p0, p1, p2, p3, p4, hs3, World.cell?_alloc_lt, Cp.instrOf]) rfl ⟨rfl, ?_⟩
  have hB2 := HB2.out
  clear HB2 p0 p1 p2 p3 p4 pz j0 j1 j2 j3 j4 jz
  repeat (first | (with_reducible assumption) | refine Below.alloc ?_ (by simp <;> try omega) _ | refine Below.setCell ?_ (by simp <;> try omega) _)

set_option maxHeartbeats 1000000 in
theorem rdecode_U0 (n : Int) (w : World) (h0 : 0 ≤ n) (h1 : n ≤ 4294967295) (nm F : ByteArray) 
    (ho : ∀ w, Calls Try.prog 36 #[.int .i64 (n / 16777216)] w fun e w' => e = .returned (.tuple #[.agg #[.int .i64 (n / 16777216), .string nm, .string F, .bool false], .bool true]) ∧ Below w.heap.size w w')
    (hfs : F.size ≤ 9223372036854775807) (hF : F.data.toList.contains 73 = true) 
    (hm : ∀ w, Calls Try.prog 38 #[Cp.instrOf (n / 16777216) (n / 1048576 % 16) (n / 65536 % 16) 0 (n % 65536)] w fun e w' => e = .returned (.int .i64 0) ∧ Below w.heap.size w w') :
    Calls Try.prog 12 #[.int .u32 n] w fun e w' => e = .returned (.tuple #[Cp.instrOf (n / 16777216) (n / 1048576 % 16) (n / 65536 % 16) 0 (n % 65536), .bool true]) ∧ Below w.heap.size w w' := by
  have HO := Lib.hid ho
  clear ho
  unfold Cp.instrOf at hm ⊢
  have HM := Lib.hid hm
  clear hm
  have HC := Lib.hid (has_k F 73 _ hfs (by omega) (by omega) hF)
  clear hF hfs
  go_enter Try.func12, Try.ntmps12
  go_wp2_with fail
  refine (HO.out _).mono ?_
  rintro e w' ⟨rfl, hb⟩
  have hs : w.heap.size < w'.heap.size := by have := hb.size; simp at this; omega
  have hR : w'.heap[w.heap.size]? = some (.cells #[.int .i64 0, .int .i64 0, .int .i64 0, .int .i64 0, .int .i64 0] 24 (0, 0)) := (hb.block w.heap.size (by simp)).trans (heap_alloc_new w _)
  have HR := Lib.hid hR
  have hB : Below w.heap.size w w' := ((Below.refl _ _).alloc (Nat.le_refl _) _).trans (hb.mono (by simp))
  have HB := Lib.hid hB
  clear hb hR hB
  go_wp2_with (go_at_call 37; refine (HC.out _).mono ?_; rintro e w' ⟨rfl, rfl⟩)
  refine (HM.out _).mono ?_
  rintro e w2 ⟨rfl, hb2⟩
  have hs2 : w'.heap.size + 1 < w2.heap.size := by have := hb2.size; simp at this; omega
  have hs3 : w.heap.size < w2.heap.size := by omega
  have hR2 : w2.heap[w.heap.size]? = some (.cells #[.int .i64 0, .int .i64 0, .int .i64 0, .int .i64 0, .int .i64 0] 24 (0, 0)) := ((hb2.block w.heap.size (by simp <;> omega)).trans ((Below.heap_alloc _ _ _ (by simp <;> omega)).trans (Below.heap_alloc _ _ _ (by omega)))).trans HR.out
  obtain ⟨p0, p1, p2, p3, p4, pz⟩ := blk5 hR2
  have hI2 := (hb2.block (w'.heap.size + 1) (by simp)).trans (heap_alloc_new2 w' _ _)
  obtain ⟨j0, j1, j2, j3, j4, jz⟩ := blk5 hI2
  have hB2 : Below w.heap.size w w2 := ((HB.out.alloc (by omega) _).alloc (by simp <;> omega) _).trans (hb2.mono (by simp <;> omega))
  have HB2 := Lib.hid hB2
  clear hb2 hR2 hI2 HB HR hB2
  go_wp2_with fail
  refine bodyPost_ret (v := .tuple #[Cp.instrOf (n / 16777216) (n / 1048576 % 16) (n / 65536 % 16) 0 (n % 65536), .bool true]) (by simp [results, Try.results12, go_sem, p0, p1, p2, p3, p4, hs3, World.cell?_alloc_lt, Cp.instrOf]) rfl ⟨rfl, ?_⟩
  have hB2 := HB2.out
  clear HB2 p0 p1 p2 p3 p4 pz j0 j1 j2 j3 j4 jz
  repeat (first | (with_reducible assumption) | refine Below.alloc ?_ (by simp <;> try omega) _ | refine Below.setCell ?_ (by simp <;> try omega) _)

set_option maxHeartbeats 1000000 in
theorem rdecode_U6 (n : Int) (w : World) (h0 : 0 ≤ n) (h1 : n ≤ 4294967295) (nm F : ByteArray) 
    (ho : ∀ w, Calls Try.prog 36 #[.int .i64 (n / 16777216)] w fun e w' => e = .returned (.tuple #[.agg #[.int .i64 (n / 16777216), .string nm, .string F, .bool false], .bool true]) ∧ Below w.heap.size w w')
    (hfs : F.size ≤ 9223372036854775807) (hF : F.data.toList.contains 73 = true) 
    (hm : ∀ w, Calls Try.prog 38 #[Cp.instrOf (n / 16777216) (n / 1048576 % 16) (n / 65536 % 16) 0 (n % 65536)] w fun e w' => e = .returned (.int .i64 6) ∧ Below w.heap.size w w') :
    Calls Try.prog 12 #[.int .u32 n] w fun e w' => e = .returned (.tuple #[Cp.instrOf 0 0 0 0 0, .bool false]) ∧ Below w.heap.size w w' := by
  have HO := Lib.hid ho
  clear ho
  unfold Cp.instrOf at hm ⊢
  have HM := Lib.hid hm
  clear hm
  have HC := Lib.hid (has_k F 73 _ hfs (by omega) (by omega) hF)
  clear hF hfs
  go_enter Try.func12, Try.ntmps12
  go_wp2_with fail
  refine (HO.out _).mono ?_
  rintro e w' ⟨rfl, hb⟩
  have hs : w.heap.size < w'.heap.size := by have := hb.size; simp at this; omega
  have hR : w'.heap[w.heap.size]? = some (.cells #[.int .i64 0, .int .i64 0, .int .i64 0, .int .i64 0, .int .i64 0] 24 (0, 0)) := (hb.block w.heap.size (by simp)).trans (heap_alloc_new w _)
  have HR := Lib.hid hR
  have hB : Below w.heap.size w w' := ((Below.refl _ _).alloc (Nat.le_refl _) _).trans (hb.mono (by simp))
  have HB := Lib.hid hB
  clear hb hR hB
  go_wp2_with (go_at_call 37; refine (HC.out _).mono ?_; rintro e w' ⟨rfl, rfl⟩)
  refine (HM.out _).mono ?_
  rintro e w2 ⟨rfl, hb2⟩
  have hs2 : w'.heap.size + 1 < w2.heap.size := by have := hb2.size; simp at this; omega
  have hs3 : w.heap.size < w2.heap.size := by omega
  have hR2 : w2.heap[w.heap.size]? = some (.cells #[.int .i64 0, .int .i64 0, .int .i64 0, .int .i64 0, .int .i64 0] 24 (0, 0)) := ((hb2.block w.heap.size (by simp <;> omega)).trans ((Below.heap_alloc _ _ _ (by simp <;> omega)).trans (Below.heap_alloc _ _ _ (by omega)))).trans HR.out
  obtain ⟨p0, p1, p2, p3, p4, pz⟩ := blk5 hR2
  have hI2 := (hb2.block (w'.heap.size + 1) (by simp)).trans (heap_alloc_new2 w' _ _)
  obtain ⟨j0, j1, j2, j3, j4, jz⟩ := blk5 hI2
  have hB2 : Below w.heap.size w w2 := ((HB.out.alloc (by omega) _).alloc (by simp <;> omega) _).trans (hb2.mono (by simp <;> omega))
  have HB2 := Lib.hid hB2
  clear hb2 hR2 hI2 HB HR hB2
  go_wp2_with fail
  refine bodyPost_ret (v := .tuple #[Cp.instrOf 0 0 0 0 0, .bool false]) (by simp [results, Try.results12, go_sem, p0, p1, p2, p3, p4, hs3, World.cell?_alloc_lt, Cp.instrOf]) rfl ⟨rfl, ?_⟩
  have hB2 := HB2.out
  clear HB2 p0 p1 p2 p3 p4 pz j0 j1 j2 j3 j4 jz
  repeat (first | (with_reducible assumption) | refine Below.alloc ?_ (by simp <;> try omega) _ | refine Below.setCell ?_ (by simp <;> try omega) _)

theorem rdecode_any (n : Int) (w : World) (h0 : 0 ≤ n) (h1 : n ≤ 4294967295) :
    Calls Try.prog 12 #[.int .u32 n] w fun e w' => e = .returned (.tuple #[Cp.decV (Cp.dec n), .bool (Cp.dec n).isSome]) ∧ Below w.heap.size w w' := by
  have ho := fun w => find_any (n / 16777216) w
  have hm := fun (c i : Int) (w : World) => check_any (n / 16777216) (n / 1048576 % 16) (n / 65536 % 16) c i w
  have hfs := Cp.fields_short (n / 16777216)
  rcases hf : Cp.find (n / 16777216) with _ | ⟨nm, f, s⟩
  · have e : Cp.dec n = none := by unfold Cp.dec; rw [hf]
    rw [e]
    have hv : Cp.rowV (n / 16777216) = .agg #[.int .i64 0, .string ⟨#[]⟩, .string ⟨#[]⟩, .bool false] := by unfold Cp.rowV; rw [hf]
    rw [hv, hf] at ho
    exact rdecode_none n w h0 h1 ho
  · have hv : Cp.rowV (n / 16777216) = .agg #[.int .i64 (n / 16777216), .string ⟨nm.toArray⟩, .string ⟨f.toArray⟩, .bool s] := by unfold Cp.rowV; rw [hf]
    rw [hv, hf] at ho
    have hsz : (⟨f.toArray⟩ : ByteArray).size ≤ 9223372036854775807 := by rw [hf] at hfs; simp only at hfs; show f.toArray.size ≤ _; rw [List.size_toArray]; omega
    clear hfs
    have hE : ∀ c i, Cp.mayE (n / 16777216) (n / 1048576 % 16) (n / 65536 % 16) c i = 0 ∨ Cp.mayE (n / 16777216) (n / 1048576 % 16) (n / 65536 % 16) c i = 6 := by
      intro c i
      unfold Cp.mayE
      rw [hf]
      simp only
      split <;> simp
    have hd : Cp.dec n = if Cp.mayE (n / 16777216) (n / 1048576 % 16) (n / 65536 % 16) (Cp.decC f n) (Cp.decI f s n) = 0 then
      some (n / 16777216, n / 1048576 % 16, n / 65536 % 16, Cp.decC f n, Cp.decI f s n) else none := by unfold Cp.dec; rw [hf]
    have hm' := hm (Cp.decC f n) (Cp.decI f s n)
    have hE' := hE (Cp.decC f n) (Cp.decI f s n)
    clear hm hE
    cases hF : f.contains 73 with
    | false =>
      have hc : Cp.decC f n = n % 65536 := by unfold Cp.decC; rw [hF]; rfl
      have hi : Cp.decI f s n = 0 := by unfold Cp.decI; rw [hF]; rfl
      rw [hc, hi] at hm' hE' hd
      rcases hE' with e | e
      · rw [e] at hm' hd
        rw [hd]
        exact rdecode_C0 n w h0 h1 _ _ s ho hsz (by simpa using hF) hm'
      · rw [e] at hm' hd
        rw [hd]
        exact rdecode_C6 n w h0 h1 _ _ s ho hsz (by simpa using hF) hm'
    | true =>
      have hc : Cp.decC f n = 0 := by unfold Cp.decC; rw [hF]; rfl
      rw [hc] at hm' hE' hd
      cases s with
      | true =>
        by_cases hlow : 32768 ≤ n % 65536
        · have hi : Cp.decI f true n = n % 65536 - 65536 := by unfold Cp.decI; rw [hF]; simp [hlow]
          rw [hi] at hm' hE' hd
          rcases hE' with e | e
          · rw [e] at hm' hd
            rw [hd]
            exact rdecode_H0 n w h0 h1 _ _ ho hsz (by simpa using hF) hlow hm'
          · rw [e] at hm' hd
            rw [hd]
            exact rdecode_H6 n w h0 h1 _ _ ho hsz (by simpa using hF) hlow hm'
        · have hi : Cp.decI f true n = n % 65536 := by unfold Cp.decI; rw [hF]; simp [hlow]
          rw [hi] at hm' hE' hd
          rcases hE' with e | e
          · rw [e] at hm' hd
            rw [hd]
            exact rdecode_L0 n w h0 h1 _ _ ho hsz (by simpa using hF) (by omega) hm'
          · rw [e] at hm' hd
            rw [hd]
            exact rdecode_L6 n w h0 h1 _ _ ho hsz (by simpa using hF) (by omega) hm'
      | false =>
        have hi : Cp.decI f false n = n % 65536 := by unfold Cp.decI; rw [hF]; rfl
        rw [hi] at hm' hE' hd
        rcases hE' with e | e
        · rw [e] at hm' hd
          rw [hd]
          exact rdecode_U0 n w h0 h1 _ _ ho hsz (by simpa using hF) hm'
        · rw [e] at hm' hd
          rw [hd]
          exact rdecode_U6 n w h0 h1 _ _ ho hsz (by simpa using hF) hm'

end Go.Proofs.Ythnehhidlaggeaa
