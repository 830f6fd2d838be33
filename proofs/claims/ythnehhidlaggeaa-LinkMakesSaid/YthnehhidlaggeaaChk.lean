/- scarfjointref2.Check: the walk. -/
import Derived.Test.YthnehhidlaggeaaFits
namespace Go.Proofs.Ythnehhidlaggeaa
set_option linter.unusedVariables false
set_option linter.unusedSimpArgs false
open Go.RowKit

/-- the world within Check: the instruction's block, the row's block -/
def ChkAt (B J : Nat) (cI cR : Array Value) (W wr : World) : Prop :=
  wr.heap[B]? = some (.cells cI 24 (0, 0)) ∧ wr.heap[J]? = some (.cells cR 89 (0, 0)) ∧ Below B W wr
theorem ChkAt.step {B J : Nat} {cI cR : Array Value} {W wr w' : World} (h : ChkAt B J cI cR W wr) (hb : Below wr.heap.size wr w') : ChkAt B J cI cR W w' :=
  ⟨(hb.block B (lt_of_block h.1)).trans h.1, (hb.block J (lt_of_block h.2.1)).trans h.2.1, h.2.2.trans (hb.mono (by have := lt_of_block h.1; omega))⟩

set_option maxHeartbeats 400000 in
theorem check_none (op a b c i : Int) (w : World)
    (ho : ∀ w, Calls Try.prog 36 #[.int .i64 op] w fun e w' => e = .returned (.tuple #[.agg #[.int .i64 0, .string ⟨#[]⟩, .string ⟨#[]⟩, .bool false], .bool false]) ∧ Below w.heap.size w w') :
    Calls Try.prog 38 #[.agg #[.int .i64 op, .int .i64 a, .int .i64 b, .int .i64 c, .int .i64 i]] w fun e w' => e = .returned (.int .i64 2) ∧ Below w.heap.size w w' := by
  have HO := Lib.hid ho
  clear ho
  go_enter Try.func38, Try.ntmps38
  go_wp2_with fail
  refine (HO.out _).mono ?_
  rintro e w1 ⟨rfl, hb⟩
  have hB : Below w.heap.size w w1 := ((Below.refl _ _).alloc (Nat.le_refl _) _).trans (hb.mono (by simp))
  clear hb
  go_wp2_with fail
  go_ret
  exact ⟨rfl, hB.alloc hB.size _⟩

set_option maxHeartbeats 1000000 in
theorem check_bad0 (op a b c i : Int) (nm F : ByteArray) (s : Bool) (w : World)
    (ho : ∀ w, Calls Try.prog 36 #[.int .i64 op] w fun e w' => e = .returned (.tuple #[.agg #[.int .i64 op, .string nm, .string F, .bool s], .bool true]) ∧ Below w.heap.size w w')
    (h0 : ∀ w, Calls Try.prog 71 #[.agg #[.int .i64 op, .string nm, .string F, .bool s], .int .u8 65, .int .i64 a] w fun e w' => e = .returned (.bool false) ∧ Below w.heap.size w w') :
    Calls Try.prog 38 #[.agg #[.int .i64 op, .int .i64 a, .int .i64 b, .int .i64 c, .int .i64 i]] w fun e w' => e = .returned (.int .i64 6) ∧ Below w.heap.size w w' := by
  have HO := Lib.hid ho
  clear ho
  have H0 := Lib.hid h0
  clear h0
  go_enter Try.func38, Try.ntmps38
  go_wp2_with fail
  refine (HO.out _).mono ?_
  rintro e w1 ⟨rfl, hb⟩
  have HA0 : Hid (ChkAt w.heap.size w1.heap.size #[.int .i64 op, .int .i64 a, .int .i64 b, .int .i64 c, .int .i64 i] #[.int .i64 op, .string nm, .string F, .bool s] w
      (w1.alloc (.cells #[.int .i64 op, .string nm, .string F, .bool s] 89))) := by
    have hB : Below w.heap.size w w1 := ((Below.refl _ _).alloc (Nat.le_refl _) _).trans (hb.mono (by simp))
    refine ⟨?_, heap_alloc_new _ _, hB.alloc hB.size _⟩
    have hl : w.heap.size < w1.heap.size := by have := hb.size; simp at this; omega
    rw [Below.heap_alloc _ _ _ hl, hb.block w.heap.size (by simp)]
    exact heap_alloc_new w _
  have HA1 := HA0
  have hi := blk5 HA0.out.1
  obtain ⟨hl, i0, i1, i2, i3, i4, iz⟩ : w.heap.size < w1.heap.size ∧ w1.cell? ⟨w.heap.size, 0, none⟩ = some (.int .i64 op) ∧ w1.cell? ⟨w.heap.size, 1, none⟩ = some (.int .i64 a) ∧ w1.cell? ⟨w.heap.size, 2, none⟩ = some (.int .i64 b) ∧ w1.cell? ⟨w.heap.size, 3, none⟩ = some (.int .i64 c) ∧
      w1.cell? ⟨w.heap.size, 4, none⟩ = some (.int .i64 i) ∧ ∀ o, w1.frozen? ⟨w.heap.size, o, none⟩ = false :=
    ⟨by have := hb.size; simp at this; omega, blk5 ((hb.block w.heap.size (by simp)).trans (heap_alloc_new w _))⟩
  clear hb hi HA0
  go_wp2_with fail
  refine (H0.out _).mono ?_
  rintro e w2 ⟨rfl, hb2⟩
  have HA2 := Lib.hid (HA1.out.step hb2)
  obtain ⟨i0, i1, i2, i3, i4, iz⟩ := blk5 HA2.out.1
  obtain ⟨r0, r1, r2, r3, rz⟩ := blk4 HA2.out.2.1
  clear hb2
  go_wp2_with fail
  go_ret
  exact ⟨rfl, HA2.out.2.2⟩

set_option maxHeartbeats 1000000 in
theorem check_bad1 (op a b c i : Int) (nm F : ByteArray) (s : Bool) (w : World)
    (ho : ∀ w, Calls Try.prog 36 #[.int .i64 op] w fun e w' => e = .returned (.tuple #[.agg #[.int .i64 op, .string nm, .string F, .bool s], .bool true]) ∧ Below w.heap.size w w')
    (h0 : ∀ w, Calls Try.prog 71 #[.agg #[.int .i64 op, .string nm, .string F, .bool s], .int .u8 65, .int .i64 a] w fun e w' => e = .returned (.bool true) ∧ Below w.heap.size w w')
    (h1 : ∀ w, Calls Try.prog 71 #[.agg #[.int .i64 op, .string nm, .string F, .bool s], .int .u8 66, .int .i64 b] w fun e w' => e = .returned (.bool false) ∧ Below w.heap.size w w') :
    Calls Try.prog 38 #[.agg #[.int .i64 op, .int .i64 a, .int .i64 b, .int .i64 c, .int .i64 i]] w fun e w' => e = .returned (.int .i64 6) ∧ Below w.heap.size w w' := by
  have HO := Lib.hid ho
  clear ho
  have H0 := Lib.hid h0
  clear h0
  have H1 := Lib.hid h1
  clear h1
  go_enter Try.func38, Try.ntmps38
  go_wp2_with fail
  refine (HO.out _).mono ?_
  rintro e w1 ⟨rfl, hb⟩
  have HA0 : Hid (ChkAt w.heap.size w1.heap.size #[.int .i64 op, .int .i64 a, .int .i64 b, .int .i64 c, .int .i64 i] #[.int .i64 op, .string nm, .string F, .bool s] w
      (w1.alloc (.cells #[.int .i64 op, .string nm, .string F, .bool s] 89))) := by
    have hB : Below w.heap.size w w1 := ((Below.refl _ _).alloc (Nat.le_refl _) _).trans (hb.mono (by simp))
    refine ⟨?_, heap_alloc_new _ _, hB.alloc hB.size _⟩
    have hl : w.heap.size < w1.heap.size := by have := hb.size; simp at this; omega
    rw [Below.heap_alloc _ _ _ hl, hb.block w.heap.size (by simp)]
    exact heap_alloc_new w _
  have HA1 := HA0
  have hi := blk5 HA0.out.1
  obtain ⟨hl, i0, i1, i2, i3, i4, iz⟩ : w.heap.size < w1.heap.size ∧ w1.cell? ⟨w.heap.size, 0, none⟩ = some (.int .i64 op) ∧ w1.cell? ⟨w.heap.size, 1, none⟩ = some (.int .i64 a) ∧ w1.cell? ⟨w.heap.size, 2, none⟩ = some (.int .i64 b) ∧ w1.cell? ⟨w.heap.size, 3, none⟩ = some (.int .i64 c) ∧
      w1.cell? ⟨w.heap.size, 4, none⟩ = some (.int .i64 i) ∧ ∀ o, w1.frozen? ⟨w.heap.size, o, none⟩ = false :=
    ⟨by have := hb.size; simp at this; omega, blk5 ((hb.block w.heap.size (by simp)).trans (heap_alloc_new w _))⟩
  clear hb hi HA0
  go_wp2_with fail
  refine (H0.out _).mono ?_
  rintro e w2 ⟨rfl, hb2⟩
  have HA2 := Lib.hid (HA1.out.step hb2)
  obtain ⟨i0, i1, i2, i3, i4, iz⟩ := blk5 HA2.out.1
  obtain ⟨r0, r1, r2, r3, rz⟩ := blk4 HA2.out.2.1
  clear hb2
  go_wp2_with fail
  refine (H1.out _).mono ?_
  rintro e w3 ⟨rfl, hb3⟩
  have HA3 := Lib.hid (HA2.out.step hb3)
  obtain ⟨i0, i1, i2, i3, i4, iz⟩ := blk5 HA3.out.1
  obtain ⟨r0, r1, r2, r3, rz⟩ := blk4 HA3.out.2.1
  clear hb3
  go_wp2_with fail
  go_ret
  exact ⟨rfl, HA3.out.2.2⟩

set_option maxHeartbeats 1000000 in
theorem check_bad2 (op a b c i : Int) (nm F : ByteArray) (s : Bool) (w : World)
    (ho : ∀ w, Calls Try.prog 36 #[.int .i64 op] w fun e w' => e = .returned (.tuple #[.agg #[.int .i64 op, .string nm, .string F, .bool s], .bool true]) ∧ Below w.heap.size w w')
    (h0 : ∀ w, Calls Try.prog 71 #[.agg #[.int .i64 op, .string nm, .string F, .bool s], .int .u8 65, .int .i64 a] w fun e w' => e = .returned (.bool true) ∧ Below w.heap.size w w')
    (h1 : ∀ w, Calls Try.prog 71 #[.agg #[.int .i64 op, .string nm, .string F, .bool s], .int .u8 66, .int .i64 b] w fun e w' => e = .returned (.bool true) ∧ Below w.heap.size w w')
    (h2 : ∀ w, Calls Try.prog 71 #[.agg #[.int .i64 op, .string nm, .string F, .bool s], .int .u8 67, .int .i64 c] w fun e w' => e = .returned (.bool false) ∧ Below w.heap.size w w') :
    Calls Try.prog 38 #[.agg #[.int .i64 op, .int .i64 a, .int .i64 b, .int .i64 c, .int .i64 i]] w fun e w' => e = .returned (.int .i64 6) ∧ Below w.heap.size w w' := by
  have HO := Lib.hid ho
  clear ho
  have H0 := Lib.hid h0
  clear h0
  have H1 := Lib.hid h1
  clear h1
  have H2 := Lib.hid h2
  clear h2
  go_enter Try.func38, Try.ntmps38
  go_wp2_with fail
  refine (HO.out _).mono ?_
  rintro e w1 ⟨rfl, hb⟩
  have HA0 : Hid (ChkAt w.heap.size w1.heap.size #[.int .i64 op, .int .i64 a, .int .i64 b, .int .i64 c, .int .i64 i] #[.int .i64 op, .string nm, .string F, .bool s] w
      (w1.alloc (.cells #[.int .i64 op, .string nm, .string F, .bool s] 89))) := by
    have hB : Below w.heap.size w w1 := ((Below.refl _ _).alloc (Nat.le_refl _) _).trans (hb.mono (by simp))
    refine ⟨?_, heap_alloc_new _ _, hB.alloc hB.size _⟩
    have hl : w.heap.size < w1.heap.size := by have := hb.size; simp at this; omega
    rw [Below.heap_alloc _ _ _ hl, hb.block w.heap.size (by simp)]
    exact heap_alloc_new w _
  have HA1 := HA0
  have hi := blk5 HA0.out.1
  obtain ⟨hl, i0, i1, i2, i3, i4, iz⟩ : w.heap.size < w1.heap.size ∧ w1.cell? ⟨w.heap.size, 0, none⟩ = some (.int .i64 op) ∧ w1.cell? ⟨w.heap.size, 1, none⟩ = some (.int .i64 a) ∧ w1.cell? ⟨w.heap.size, 2, none⟩ = some (.int .i64 b) ∧ w1.cell? ⟨w.heap.size, 3, none⟩ = some (.int .i64 c) ∧
      w1.cell? ⟨w.heap.size, 4, none⟩ = some (.int .i64 i) ∧ ∀ o, w1.frozen? ⟨w.heap.size, o, none⟩ = false :=
    ⟨by have := hb.size; simp at this; omega, blk5 ((hb.block w.heap.size (by simp)).trans (heap_alloc_new w _))⟩
  clear hb hi HA0
  go_wp2_with fail
  refine (H0.out _).mono ?_
  rintro e w2 ⟨rfl, hb2⟩
  have HA2 := Lib.hid (HA1.out.step hb2)
  obtain ⟨i0, i1, i2, i3, i4, iz⟩ := blk5 HA2.out.1
  obtain ⟨r0, r1, r2, r3, rz⟩ := blk4 HA2.out.2.1
  clear hb2
  go_wp2_with fail
  refine (H1.out _).mono ?_
  rintro e w3 ⟨rfl, hb3⟩
  have HA3 := Lib.hid (HA2.out.step hb3)
  obtain ⟨i0, i1, i2, i3, i4, iz⟩ := blk5 HA3.out.1
  obtain ⟨r0, r1, r2, r3, rz⟩ := blk4 HA3.out.2.1
  clear hb3
  go_wp2_with fail
  refine (H2.out _).mono ?_
  rintro e w4 ⟨rfl, hb4⟩
  have HA4 := Lib.hid (HA3.out.step hb4)
  obtain ⟨i0, i1, i2, i3, i4, iz⟩ := blk5 HA4.out.1
  obtain ⟨r0, r1, r2, r3, rz⟩ := blk4 HA4.out.2.1
  clear hb4
  go_wp2_with fail
  go_ret
  exact ⟨rfl, HA4.out.2.2⟩

set_option maxHeartbeats 1000000 in
theorem check_bad3 (op a b c i : Int) (nm F : ByteArray) (s : Bool) (w : World)
    (ho : ∀ w, Calls Try.prog 36 #[.int .i64 op] w fun e w' => e = .returned (.tuple #[.agg #[.int .i64 op, .string nm, .string F, .bool s], .bool true]) ∧ Below w.heap.size w w')
    (h0 : ∀ w, Calls Try.prog 71 #[.agg #[.int .i64 op, .string nm, .string F, .bool s], .int .u8 65, .int .i64 a] w fun e w' => e = .returned (.bool true) ∧ Below w.heap.size w w')
    (h1 : ∀ w, Calls Try.prog 71 #[.agg #[.int .i64 op, .string nm, .string F, .bool s], .int .u8 66, .int .i64 b] w fun e w' => e = .returned (.bool true) ∧ Below w.heap.size w w')
    (h2 : ∀ w, Calls Try.prog 71 #[.agg #[.int .i64 op, .string nm, .string F, .bool s], .int .u8 67, .int .i64 c] w fun e w' => e = .returned (.bool true) ∧ Below w.heap.size w w')
    (h3 : ∀ w, Calls Try.prog 71 #[.agg #[.int .i64 op, .string nm, .string F, .bool s], .int .u8 73, .int .i64 i] w fun e w' => e = .returned (.bool false) ∧ Below w.heap.size w w') :
    Calls Try.prog 38 #[.agg #[.int .i64 op, .int .i64 a, .int .i64 b, .int .i64 c, .int .i64 i]] w fun e w' => e = .returned (.int .i64 6) ∧ Below w.heap.size w w' := by
  have HO := Lib.hid ho
  clear ho
  have H0 := Lib.hid h0
  clear h0
  have H1 := Lib.hid h1
  clear h1
  have H2 := Lib.hid h2
  clear h2
  have H3 := Lib.hid h3
  clear h3
  go_enter Try.func38, Try.ntmps38
  go_wp2_with fail
  refine (HO.out _).mono ?_
  rintro e w1 ⟨rfl, hb⟩
  have HA0 : Hid (ChkAt w.heap.size w1.heap.size #[.int .i64 op, .int .i64 a, .int .i64 b, .int .i64 c, .int .i64 i] #[.int .i64 op, .string nm, .string F, .bool s] w
      (w1.alloc (.cells #[.int .i64 op, .string nm, .string F, .bool s] 89))) := by
    have hB : Below w.heap.size w w1 := ((Below.refl _ _).alloc (Nat.le_refl _) _).trans (hb.mono (by simp))
    refine ⟨?_, heap_alloc_new _ _, hB.alloc hB.size _⟩
    have hl : w.heap.size < w1.heap.size := by have := hb.size; simp at this; omega
    rw [Below.heap_alloc _ _ _ hl, hb.block w.heap.size (by simp)]
    exact heap_alloc_new w _
  have HA1 := HA0
  have hi := blk5 HA0.out.1
  obtain ⟨hl, i0, i1, i2, i3, i4, iz⟩ : w.heap.size < w1.heap.size ∧ w1.cell? ⟨w.heap.size, 0, none⟩ = some (.int .i64 op) ∧ w1.cell? ⟨w.heap.size, 1, none⟩ = some (.int .i64 a) ∧ w1.cell? ⟨w.heap.size, 2, none⟩ = some (.int .i64 b) ∧ w1.cell? ⟨w.heap.size, 3, none⟩ = some (.int .i64 c) ∧
      w1.cell? ⟨w.heap.size, 4, none⟩ = some (.int .i64 i) ∧ ∀ o, w1.frozen? ⟨w.heap.size, o, none⟩ = false :=
    ⟨by have := hb.size; simp at this; omega, blk5 ((hb.block w.heap.size (by simp)).trans (heap_alloc_new w _))⟩
  clear hb hi HA0
  go_wp2_with fail
  refine (H0.out _).mono ?_
  rintro e w2 ⟨rfl, hb2⟩
  have HA2 := Lib.hid (HA1.out.step hb2)
  obtain ⟨i0, i1, i2, i3, i4, iz⟩ := blk5 HA2.out.1
  obtain ⟨r0, r1, r2, r3, rz⟩ := blk4 HA2.out.2.1
  clear hb2
  go_wp2_with fail
  refine (H1.out _).mono ?_
  rintro e w3 ⟨rfl, hb3⟩
  have HA3 := Lib.hid (HA2.out.step hb3)
  obtain ⟨i0, i1, i2, i3, i4, iz⟩ := blk5 HA3.out.1
  obtain ⟨r0, r1, r2, r3, rz⟩ := blk4 HA3.out.2.1
  clear hb3
  go_wp2_with fail
  refine (H2.out _).mono ?_
  rintro e w4 ⟨rfl, hb4⟩
  have HA4 := Lib.hid (HA3.out.step hb4)
  obtain ⟨i0, i1, i2, i3, i4, iz⟩ := blk5 HA4.out.1
  obtain ⟨r0, r1, r2, r3, rz⟩ := blk4 HA4.out.2.1
  clear hb4
  go_wp2_with fail
  refine (H3.out _).mono ?_
  rintro e w5 ⟨rfl, hb5⟩
  have HA5 := Lib.hid (HA4.out.step hb5)
  obtain ⟨i0, i1, i2, i3, i4, iz⟩ := blk5 HA5.out.1
  obtain ⟨r0, r1, r2, r3, rz⟩ := blk4 HA5.out.2.1
  clear hb5
  go_wp2_with fail
  go_ret
  exact ⟨rfl, HA5.out.2.2⟩

set_option maxHeartbeats 1000000 in
theorem check_bad4 (op a b c i : Int) (nm F : ByteArray) (s : Bool) (w : World)
    (ho : ∀ w, Calls Try.prog 36 #[.int .i64 op] w fun e w' => e = .returned (.tuple #[.agg #[.int .i64 op, .string nm, .string F, .bool s], .bool true]) ∧ Below w.heap.size w w')
    (h0 : ∀ w, Calls Try.prog 71 #[.agg #[.int .i64 op, .string nm, .string F, .bool s], .int .u8 65, .int .i64 a] w fun e w' => e = .returned (.bool true) ∧ Below w.heap.size w w')
    (h1 : ∀ w, Calls Try.prog 71 #[.agg #[.int .i64 op, .string nm, .string F, .bool s], .int .u8 66, .int .i64 b] w fun e w' => e = .returned (.bool true) ∧ Below w.heap.size w w')
    (h2 : ∀ w, Calls Try.prog 71 #[.agg #[.int .i64 op, .string nm, .string F, .bool s], .int .u8 67, .int .i64 c] w fun e w' => e = .returned (.bool true) ∧ Below w.heap.size w w')
    (h3 : ∀ w, Calls Try.prog 71 #[.agg #[.int .i64 op, .string nm, .string F, .bool s], .int .u8 73, .int .i64 i] w fun e w' => e = .returned (.bool true) ∧ Below w.heap.size w w') :
    Calls Try.prog 38 #[.agg #[.int .i64 op, .int .i64 a, .int .i64 b, .int .i64 c, .int .i64 i]] w fun e w' => e = .returned (.int .i64 0) ∧ Below w.heap.size w w' := by
  have HO := Lib.hid ho
  clear ho
  have H0 := Lib.hid h0
  clear h0
  have H1 := Lib.hid h1
  clear h1
  have H2 := Lib.hid h2
  clear h2
  have H3 := Lib.hid h3
  clear h3
  go_enter Try.func38, Try.ntmps38
  go_wp2_with fail
  refine (HO.out _).mono ?_
  rintro e w1 ⟨rfl, hb⟩
  have HA0 : Hid (ChkAt w.heap.size w1.heap.size #[.int .i64 op, .int .i64 a, .int .i64 b, .int .i64 c, .int .i64 i] #[.int .i64 op, .string nm, .string F, .bool s] w
      (w1.alloc (.cells #[.int .i64 op, .string nm, .string F, .bool s] 89))) := by
    have hB : Below w.heap.size w w1 := ((Below.refl _ _).alloc (Nat.le_refl _) _).trans (hb.mono (by simp))
    refine ⟨?_, heap_alloc_new _ _, hB.alloc hB.size _⟩
    have hl : w.heap.size < w1.heap.size := by have := hb.size; simp at this; omega
    rw [Below.heap_alloc _ _ _ hl, hb.block w.heap.size (by simp)]
    exact heap_alloc_new w _
  have HA1 := HA0
  have hi := blk5 HA0.out.1
  obtain ⟨hl, i0, i1, i2, i3, i4, iz⟩ : w.heap.size < w1.heap.size ∧ w1.cell? ⟨w.heap.size, 0, none⟩ = some (.int .i64 op) ∧ w1.cell? ⟨w.heap.size, 1, none⟩ = some (.int .i64 a) ∧ w1.cell? ⟨w.heap.size, 2, none⟩ = some (.int .i64 b) ∧ w1.cell? ⟨w.heap.size, 3, none⟩ = some (.int .i64 c) ∧
      w1.cell? ⟨w.heap.size, 4, none⟩ = some (.int .i64 i) ∧ ∀ o, w1.frozen? ⟨w.heap.size, o, none⟩ = false :=
    ⟨by have := hb.size; simp at this; omega, blk5 ((hb.block w.heap.size (by simp)).trans (heap_alloc_new w _))⟩
  clear hb hi HA0
  go_wp2_with fail
  refine (H0.out _).mono ?_
  rintro e w2 ⟨rfl, hb2⟩
  have HA2 := Lib.hid (HA1.out.step hb2)
  obtain ⟨i0, i1, i2, i3, i4, iz⟩ := blk5 HA2.out.1
  obtain ⟨r0, r1, r2, r3, rz⟩ := blk4 HA2.out.2.1
  clear hb2
  go_wp2_with fail
  refine (H1.out _).mono ?_
  rintro e w3 ⟨rfl, hb3⟩
  have HA3 := Lib.hid (HA2.out.step hb3)
  obtain ⟨i0, i1, i2, i3, i4, iz⟩ := blk5 HA3.out.1
  obtain ⟨r0, r1, r2, r3, rz⟩ := blk4 HA3.out.2.1
  clear hb3
  go_wp2_with fail
  refine (H2.out _).mono ?_
  rintro e w4 ⟨rfl, hb4⟩
  have HA4 := Lib.hid (HA3.out.step hb4)
  obtain ⟨i0, i1, i2, i3, i4, iz⟩ := blk5 HA4.out.1
  obtain ⟨r0, r1, r2, r3, rz⟩ := blk4 HA4.out.2.1
  clear hb4
  go_wp2_with fail
  refine (H3.out _).mono ?_
  rintro e w5 ⟨rfl, hb5⟩
  have HA5 := Lib.hid (HA4.out.step hb5)
  obtain ⟨i0, i1, i2, i3, i4, iz⟩ := blk5 HA5.out.1
  obtain ⟨r0, r1, r2, r3, rz⟩ := blk4 HA5.out.2.1
  clear hb5
  go_wp2_with fail
  go_ret
  exact ⟨rfl, HA5.out.2.2⟩

theorem check_any (op a b c i : Int) (w : World) :
    Calls Try.prog 38 #[.agg #[.int .i64 op, .int .i64 a, .int .i64 b, .int .i64 c, .int .i64 i]] w fun e w' => e = .returned (.int .i64 (Cp.mayE op a b c i)) ∧ Below w.heap.size w w' := by
  have ho := fun w => find_any op w
  unfold Cp.mayE
  rcases hf : Cp.find op with _ | ⟨n, f, s⟩
  · have hv : Cp.rowV op = .agg #[.int .i64 0, .string ⟨#[]⟩, .string ⟨#[]⟩, .bool false] := by unfold Cp.rowV; rw [hf]
    rw [hf, hv] at ho
    exact check_none op a b c i w ho
  · have hv : Cp.rowV op = .agg #[.int .i64 op, .string ⟨n.toArray⟩, .string ⟨f.toArray⟩, .bool s] := by unfold Cp.rowV; rw [hf]
    rw [hf, hv] at ho
    have hs : (⟨f.toArray⟩ : ByteArray).size ≤ 9223372036854775807 := by have := Cp.fields_short op; rw [hf] at this; simp only at this; show f.toArray.size ≤ _; rw [List.size_toArray]; omega
    have h := fun (x m : Int) (h0 : 0 ≤ x) (h1 : x < 256) w => fits_any op x m ⟨n.toArray⟩ ⟨f.toArray⟩ s w hs h0 h1
    simp only at h ⊢
    unfold Cp.okAll
    have hA := h 65 a (by omega) (by omega)
    have hB := h 66 b (by omega) (by omega)
    have hC := h 67 c (by omega) (by omega)
    have hI := h 73 i (by omega) (by omega)
    clear h
    cases eA : Cp.okV f (Cp.loOf s) (Cp.hiOf s) 65 a with
    | false => simp only [eA] at hA; simpa using check_bad0 op a b c i _ _ s w ho hA
    | true =>
      simp only [eA] at hA
      cases eB : Cp.okV f (Cp.loOf s) (Cp.hiOf s) 66 b with
      | false => simp only [eB] at hB; simpa using check_bad1 op a b c i _ _ s w ho hA hB
      | true =>
        simp only [eB] at hB
        cases eC : Cp.okV f (Cp.loOf s) (Cp.hiOf s) 67 c with
        | false => simp only [eC] at hC; simpa using check_bad2 op a b c i _ _ s w ho hA hB hC
        | true =>
          simp only [eC] at hC
          cases eI : Cp.okV f (Cp.loOf s) (Cp.hiOf s) 73 i with
          | false => simp only [eI] at hI; simpa using check_bad3 op a b c i _ _ s w ho hA hB hC hI
          | true => simp only [eI] at hI; simpa using check_bad4 op a b c i _ _ s w ho hA hB hC hI

end Go.Proofs.Ythnehhidlaggeaa
