/- link.Link: the walk. -/
import Derived.Test.YthnehhidlaggeaaLkJoinA
import Derived.Test.YthnehhidlaggeaaLkRng
import Derived.Test.YthnehhidlaggeaaRLink
namespace Go.Proofs.Ythnehhidlaggeaa
set_option linter.unusedVariables false
set_option linter.unusedSimpArgs false
open Go.RowKit Ob

set_option maxRecDepth 100000 in
set_option maxHeartbeats 1000000 in
theorem link_size (p : Option Addr) (n kap : Nat) (mem : Int) (w : World) (hn : n < 1 ∨ 4 < n) :
    Calls Try.prog 30 #[.slice p n kap, .int .i64 mem] w fun e w' => e = .returned (.tuple #[.agg #[.slice none 0 0, .slice none 0 0, .int .i64 0], .slice none 0 0, trV (0, 1, 0)]) ∧ Below w.heap.size w w' := by
  have hj := fun w' => joined_size p n kap mem w' hn
  unfold trV at hj ⊢
  have HJ := Lib.hid hj
  clear hj
  obtain ⟨w0, hw0⟩ : ∃ w0, w0 = (w.alloc (.cells #[.slice none 0 0, .slice none 0 0, .int .i64 0] 34)).alloc (.cells #[.int .i64 0, .int .i64 0, .int .i64 0] 73) := ⟨_, rfl⟩
  have hb0 : Below w.heap.size w w0 := by rw [hw0]; exact ((Below.refl _ _).alloc (Nat.le_refl _) _).alloc (by simp) _
  have hi0 : w0.heap[w.heap.size]? = some (.cells #[.slice none 0 0, .slice none 0 0, .int .i64 0] 34 (0, 0)) := by rw [hw0, Below.heap_alloc _ _ _ (by simp)]; exact heap_alloc_new _ _
  have ht0 : w0.heap[w.heap.size + 1]? = some (.cells #[.int .i64 0, .int .i64 0, .int .i64 0] 73 (0, 0)) := by rw [hw0]; exact heap_alloc_new2 w _ _
  have HB0 := Lib.hid hb0
  have HI0 := Lib.hid hi0
  have HT0 := Lib.hid ht0
  clear hb0 hi0 ht0
  go_enter Try.func30, Try.ntmps30
  go_upto_region 1 with fail
  rw [← hw0]
  clear hw0
  go_wp2_with fail
  refine (HJ.out _).mono ?_
  rintro e w1 ⟨rfl, hb⟩
  obtain ⟨w2, hw2⟩ : ∃ w2, w2 = w1.alloc (.cells #[.int .i64 0, .int .i64 1, .int .i64 0] 73) := ⟨_, rfl⟩
  have hb2 : Below w0.heap.size w0 w2 := by rw [hw2]; exact hb.alloc hb.size _
  have ht2 : w2.heap[w1.heap.size]? = some (.cells #[.int .i64 0, .int .i64 1, .int .i64 0] 73 (0, 0)) := by rw [hw2]; exact heap_alloc_new _ _
  have HB2 := Lib.hid (HB0.out.trans (hb2.mono HB0.out.size))
  have HI2 := Lib.hid ((hb2.block _ (lt_of_block HI0.out)).trans HI0.out)
  have HT2 := Lib.hid ((hb2.block _ (lt_of_block HT0.out)).trans HT0.out)
  obtain ⟨y0, y1, y2, yz⟩ := blk3 ht2
  have hb7 : w.heap.size + 1 < w1.heap.size := Nat.lt_of_lt_of_le (lt_of_block HT0.out) hb.size
  have hbz : w1.heap.size < w2.heap.size := lt_of_block ht2
  clear hb hb2 ht2 HB0 HI0 HT0 HJ
  go_upto_region 2 with fail
  rw [← hw2]
  clear hw2
  obtain ⟨i0, i1, i2, iz⟩ := blk3 HI2.out
  obtain ⟨r0, r1, r2, rz⟩ := blk3 HT2.out
  go_wp2_with fail
  go_region
  all_goals go_wp2_with fail
  all_goals
    refine bodyPost_ret (v := .tuple #[.agg #[.slice none 0 0, .slice none 0 0, .int .i64 0], .slice none 0 0, .agg #[.int .i64 0, .int .i64 1, .int .i64 0]]) (by simp [results, Try.results30, go_sem, i0, i1, i2, r0, r1, r2]) rfl ⟨rfl, ?_⟩
    clear i0 i1 i2 iz r0 r1 r2 rz y0 y1 y2 yz
    have hB := HB2.out
    repeat (first | (with_reducible exact hB) | (with_reducible refine Below.setCell ?_ (by simp) _) | (with_reducible refine Below.drew ?_))

set_option maxRecDepth 100000 in
set_option maxHeartbeats 4000000 in
theorem link_any (c co n kap : Nat) (vs : List OV) (os : List Ob.Obj) (mem mx : Int) (w : World) (ho : ObjsAt w c co n vs os) (hmx : w.cell? ⟨0, 0, none⟩ = some (.int .i64 mx)) (hn1 : 1 ≤ n) (hn : n ≤ 4) :
    Calls Try.prog 30 #[.slice (some ⟨c, co, none⟩) n kap, .int .i64 mem] w (LkTells w (linkR os mem) mem) := by
  obtain ⟨res, hres⟩ : ∃ res, res = linkR os mem := ⟨_, rfl⟩
  rw [← hres]
  have HRES := Lib.hid hres
  clear hres
  have HO := Lib.hid ho
  have HNL := Lib.hid ho.nl
  have hxl := lt_of_cell hmx
  clear ho
  obtain ⟨w0, hw0⟩ : ∃ w0, w0 = (w.alloc (.cells #[.slice none 0 0, .slice none 0 0, .int .i64 0] 34)).alloc (.cells #[.int .i64 0, .int .i64 0, .int .i64 0] 73) := ⟨_, rfl⟩
  have hb0 : Below w.heap.size w w0 := by rw [hw0]; exact ((Below.refl _ _).alloc (Nat.le_refl _) _).alloc (by simp) _
  have hz0 : w0.heap.size = w.heap.size + 2 := by rw [hw0]; simp
  have hi0 : w0.heap[w.heap.size]? = some (.cells #[.slice none 0 0, .slice none 0 0, .int .i64 0] 34 (0, 0)) := by rw [hw0, Below.heap_alloc _ _ _ (by simp)]; exact heap_alloc_new _ _
  have ht0 : w0.heap[w.heap.size + 1]? = some (.cells #[.int .i64 0, .int .i64 0, .int .i64 0] 73 (0, 0)) := by rw [hw0]; exact heap_alloc_new2 w _ _
  have HJ := Lib.hid (joined_any c co n kap vs os mem mx w0 (HO.out.below hb0) ((hb0.cell (p := ⟨0, 0, none⟩) hxl).trans hmx) hn1 hn)
  have HB0 := Lib.hid hb0
  have HI0 := Lib.hid hi0
  have HT0 := Lib.hid ht0
  have HZ0 := Lib.hid hz0
  clear hb0 hi0 ht0 hz0 hmx hxl
  go_enter Try.func30, Try.ntmps30
  go_upto_region 1 with fail
  rw [← hw0]
  clear hw0
  go_wp2_with fail
  refine HJ.out.mono ?_
  intro e w1 hj
  cases res with
  | error T =>
    obtain ⟨T1, T2, T3⟩ := T
    have hj2 : e = .returned (.tuple #[.pointer none, trV (T1, T2, T3)]) ∧ Below w0.heap.size w0 w1 := by
      unfold JnTells at hj
      rw [← HRES.out] at hj
      exact hj
    obtain ⟨rfl, hb⟩ := hj2
    unfold trV
    simp only
    have hc0 : T2 ≠ 0 := link_code HRES.out.symm
    have hne : (T2 == 0) = false := beq_eq_false_iff_ne.2 hc0
    have hne2 : (T2 != 0) = true := by unfold bne; rw [hne]; rfl
    clear hj hc0 HJ
    obtain ⟨w2, hw2⟩ : ∃ w2, w2 = w1.alloc (.cells #[.int .i64 T1, .int .i64 T2, .int .i64 T3] 73) := ⟨_, rfl⟩
    have hb2 : Below w0.heap.size w0 w2 := by rw [hw2]; exact hb.alloc hb.size _
    have ht2 : w2.heap[w1.heap.size]? = some (.cells #[.int .i64 T1, .int .i64 T2, .int .i64 T3] 73 (0, 0)) := by rw [hw2]; exact heap_alloc_new _ _
    have HB2 := Lib.hid (HB0.out.trans (hb2.mono HB0.out.size))
    have HI2 := Lib.hid ((hb2.block _ (lt_of_block HI0.out)).trans HI0.out)
    have HT2 := Lib.hid ((hb2.block _ (lt_of_block HT0.out)).trans HT0.out)
    obtain ⟨y0, y1, y2, yz⟩ := blk3 ht2
    have hb7 : w.heap.size + 1 < w1.heap.size := Nat.lt_of_lt_of_le (lt_of_block HT0.out) hb.size
    have hbz : w1.heap.size < w2.heap.size := lt_of_block ht2
    clear hb hb2 ht2 HB0 HI0 HT0
    go_upto_region 2 with fail
    rw [← hw2]
    clear hw2
    obtain ⟨i0, i1, i2, iz⟩ := blk3 HI2.out
    obtain ⟨r0, r1, r2, rz⟩ := blk3 HT2.out
    go_wp2_with fail
    go_region
    all_goals go_wp2_with fail
    all_goals
      refine bodyPost_ret (v := .tuple #[.agg #[.slice none 0 0, .slice none 0 0, .int .i64 0], .slice none 0 0, .agg #[.int .i64 T1, .int .i64 T2, .int .i64 T3]]) (by simp [results, Try.results30, go_sem, i0, i1, i2, r0, r1, r2]) rfl (show LkTells _ _ _ _ _ from ⟨rfl, ?_⟩)
      clear i0 i1 i2 iz r0 r1 r2 rz y0 y1 y2 yz
      have hB := HB2.out
      repeat (first | (with_reducible exact hB) | (with_reducible refine Below.setCell ?_ (by simp) _) | (with_reducible refine Below.drew ?_))
  | ok R =>
    obtain ⟨xc, xd, xr⟩ := R
    have hj2 : ∃ bl bm vk vd vC vD, e = .returned (.tuple #[.pointer (some ⟨bl, 0, none⟩), trV noTrb]) ∧ LkAt w0 w1 bl bm c co n kap vk vd vC vD mem (opens os n) (ksAll os) (dsAll os) xc xd := by
      unfold JnTells at hj
      rw [← HRES.out] at hj
      exact hj
    obtain ⟨bl, bm, vk, vd, vC, vD, rfl, hl⟩ := hj2
    obtain ⟨pC, kC, rfl⟩ := own_form hl.rC
    obtain ⟨pD, kD, rfl⟩ := own_form hl.rD
    obtain ⟨N, hN⟩ : ∃ N, N = xc.length := ⟨_, rfl⟩
    obtain ⟨D, hD⟩ : ∃ D, D = xd.length := ⟨_, rfl⟩
    rw [← hN, ← hD] at hl
    have HN := Lib.hid hN
    have HD := Lib.hid hD
    clear hN hD
    obtain ⟨hok, rfl⟩ := link_oks HRES.out.symm
    unfold trV noTrb
    simp only
    clear hj HJ
    obtain ⟨w2, hw2⟩ : ∃ w2, w2 = w1.alloc (.cells #[.int .i64 0, .int .i64 0, .int .i64 0] 73) := ⟨_, rfl⟩
    have hb12 : Below w1.heap.size w1 w2 := by rw [hw2]; exact (Below.refl _ _).alloc (Nat.le_refl _) _
    have ht2 : w2.heap[w1.heap.size]? = some (.cells #[.int .i64 0, .int .i64 0, .int .i64 0] 73 (0, 0)) := by rw [hw2]; exact heap_alloc_new _ _
    have HL2 := Lib.hid (hl.go hb12)
    have hbl1 := hl.size
    have hbase := hl.base
    have hb7 : w.heap.size + 1 < w1.heap.size := Nat.lt_of_lt_of_le (lt_of_block HT0.out) hl.below.size
    obtain ⟨b8, hb8⟩ : ∃ b8, b8 = w1.heap.size := ⟨_, rfl⟩
    go_upto_region 2 with fail
    rw [← hw2, ← hb8]
    rw [← hb8] at ht2 hbl1 hb7
    obtain ⟨y0, y1, y2, yz⟩ := blk3 ht2
    clear hw2 hb12 hl hb8
    have HI2 := Lib.hid ((HL2.out.below.block _ (lt_of_block HI0.out)).trans HI0.out)
    have HT2 := Lib.hid ((HL2.out.below.block _ (lt_of_block HT0.out)).trans HT0.out)
    have HT8 := Lib.hid ht2
    have HOK := Lib.hid hok
    obtain ⟨i0, i1, i2, iz⟩ := blk3 HI2.out
    obtain ⟨r0, r1, r2, rz⟩ := blk3 HT2.out
    obtain ⟨b0, b1, b2, b3, b4, b5, b6, bz⟩ := blk7l HL2.out.box
    rw [HZ0.out] at hbase
    clear ht2 hok
    go_wp2_with fail
    obtain ⟨gR, hgR⟩ : ∃ gR, gR = rngTo os n := ⟨_, rfl⟩
    have HR : Hid (∀ w', LkAt w0 w' bl bm c co n kap vk vd (.slice pC N kC) (.slice pD D kD) mem (opens os n) (ksAll os) (dsAll os) xc xd → Calls Try.prog 60 #[.pointer (some ⟨bl, 0, none⟩)] w' fun e w'' => ∃ vr, e = .returned vr ∧ Below w'.heap.size w' w'' ∧ w''.ownsRow w'.heap.size 77 5 vr gR.length (rngs gR)) := Lib.hid (fun w' h' => by
      rw [hgR]
      exact ranges_any h' (HO.out.below HB0.out) HOK.out hn1 hn)
    have HGR := Lib.hid hgR
    have e1 : w.heap.size ≠ bl := by omega
    have e2 : w.heap.size + 1 ≠ bl := by omega
    have e3 : w.heap.size ≠ b8 := by omega
    have e4 : w.heap.size + 1 ≠ b8 := by omega
    clear hgR
    go_region_held3 (fun w' => w'.cell? ⟨bl, 4, none⟩ = some (.slice pC N kC) ∧ w'.cell? ⟨bl, 5, none⟩ = some (.slice pD D kD) ∧ w'.cell? ⟨bl, 6, none⟩ = some (.int .i64 mem) ∧ w'.cell? ⟨b8, 0, none⟩ = some (.int .i64 0) ∧ w'.cell? ⟨b8, 1, none⟩ = some (.int .i64 0) ∧ w'.cell? ⟨b8, 2, none⟩ = some (.int .i64 0)) (go_keep) (first | (go_at_call 60; (with_reducible refine (HR.out _ (HL2.out.go (Below.refl _ _).drew)).mono ?_); rintro e w3 ⟨vr, rfl, hb, hrow⟩; obtain ⟨pR, kR, rfl⟩ := own_form hrow; have hb2 : Below w2.heap.size w2 w3 := ⟨hb.os, hb.tape, hb.output, hb.size, hb.block⟩; have hl3 := HL2.out.go hb2; have hx8 := (hb2.block _ (lt_of_block HT8.out)).trans HT8.out; have hxi := (hb2.block _ (lt_of_block HI2.out)).trans HI2.out; have hxt := (hb2.block _ (lt_of_block HT2.out)).trans HT2.out; clear y0 y1 y2 yz b0 b1 b2 b3 b4 b5 b6 bz i0 i1 i2 iz r0 r1 r2 rz; obtain ⟨y0, y1, y2, yz⟩ := blk3 hx8; obtain ⟨i0, i1, i2, iz⟩ := blk3 hxi; obtain ⟨r0, r1, r2, rz⟩ := blk3 hxt; obtain ⟨b0, b1, b2, b3, b4, b5, b6, bz⟩ := blk7l hl3.box; have HL3 := Lib.hid hl3; have HROW := Lib.hid (hrow.mono HL2.out.below.size); have HB3 := Lib.hid (HB0.out.trans (hl3.below.mono HB0.out.size)); clear hb hb2 hl3 hx8 hxi hxt hrow))
    all_goals go_wp2_with fail
    all_goals
      refine bodyPost_ret (v := .tuple #[.agg #[.slice pC N kC, .slice pD D kD, .int .i64 mem], .slice pR gR.length kR, .agg #[.int .i64 0, .int .i64 0, .int .i64 0]]) (by simp [results, Try.results30, go_sem, i0, i1, i2, r0, r1, r2]) rfl (show LkTells _ _ _ _ _ from ⟨_, _, _, rfl, ?_, ?_, ?_, ?_⟩)
      · have hB := HB3.out
        repeat (first | (with_reducible exact hB) | (with_reducible refine Below.setCell ?_ (by simp) _) | (with_reducible refine Below.drew ?_))
      · have hB := HL3.out.rC
        rw [HZ0.out] at hB
        repeat (first | (with_reducible exact hB) | (with_reducible refine ownsRow_setCell_below ?_ (by simp) _) | (with_reducible refine World.ownsRow.drew ?_))
      · have hB := HL3.out.rD
        rw [HZ0.out] at hB
        repeat (first | (with_reducible exact hB) | (with_reducible refine ownsRow_setCell_below ?_ (by simp) _) | (with_reducible refine World.ownsRow.drew ?_))
      · have hB := HROW.out
        rw [HZ0.out] at hB
        have hg := HGR.out
        rw [HNL.out, ← hg]
        repeat (first | (with_reducible exact hB) | (with_reducible refine ownsRow_setCell_below ?_ (by simp) _) | (with_reducible refine World.ownsRow.drew ?_))

end Go.Proofs.Ythnehhidlaggeaa
