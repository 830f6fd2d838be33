/- scarfjointlaw.LinkMakes: the walk. -/
import Derived.Test.YthnehhidlaggeaaLkLink
import Derived.Test.YthnehhidlaggeaaSame
namespace Go.Proofs.Ythnehhidlaggeaa
set_option linter.unusedVariables false
set_option linter.unusedSimpArgs false
open Go.RowKit Ob

set_option maxRecDepth 100000 in
set_option maxHeartbeats 1000000 in
theorem rlink_size (p : Option Addr) (n kap : Nat) (mem : Int) (w : World) (hn : n < 1 ∨ 4 < n) :
    Calls Try.prog 31 #[.slice p n kap, .int .i64 mem] w fun e w' => e = .returned (.tuple #[.agg #[.slice none 0 0, .slice none 0 0, .int .i64 0], .slice none 0 0, trV (0, 1, 0)]) ∧ Below w.heap.size w w' := by
  have hj := fun w' => rcheck_size p n kap w' hn
  unfold trV at hj ⊢
  have HJ := Lib.hid hj
  clear hj
  obtain ⟨w0, hw0⟩ : ∃ w0, w0 = (w.alloc (.cells #[.slice none 0 0, .slice none 0 0, .int .i64 0] 34)).alloc (.cells #[.int .i64 0, .int .i64 0, .int .i64 0] 73) := ⟨_, rfl⟩
  have hb0 : Below w.heap.size w w0 := by rw [hw0]; exact ((Below.refl _ _).alloc (Nat.le_refl _) _).alloc (by simp) _
  have hi0 : w0.heap[w.heap.size]? = some (.cells #[.slice none 0 0, .slice none 0 0, .int .i64 0] 34 (0, 0)) := by rw [hw0, Below.heap_alloc _ _ _ (by simp)]; exact heap_alloc_new _ _
  have ht0 : w0.heap[w.heap.size + 1]? = some (.cells #[.int .i64 0, .int .i64 0, .int .i64 0] 73 (0, 0)) := by rw [hw0]; exact heap_alloc_new2 w _ _
  have HB0 := Lib.hid hb0
  have HI0 := Lib.hid hi0
  have HT0 := Lib.hid ht0
  clear hb0 hi0 ht0
  go_enter Try.func31, Try.ntmps31
  go_upto_region 1 with fail
  rw [← hw0]
  clear hw0
  go_wp2_with fail
  refine (HJ.out _).mono ?_
  rintro e w1 ⟨rfl, hb⟩
  obtain ⟨w2, hw2⟩ : ∃ w2, w2 = w1.alloc (.cells #[.int .i64 0, .int .i64 1, .int .i64 0] 73) := ⟨_, rfl⟩
  have hb2 : Below w0.heap.size w0 w2 := by rw [hw2]; exact hb.alloc hb.size _
  have ht2 : w2.heap[w1.heap.size]? = some (.cells #[.int .i64 0, .int .i64 1, .int .i64 0] 73 (0, 0)) := by rw [hw2]; exact heap_alloc_new _ _
  have HB2 := Lib.hid (HB0.out.trans (hb2.mono HB0.out.size))
  have HI2 := Lib.hid ((hb2.block _ (lt_of_block HI0.out)).trans HI0.out)
  have HT2 := Lib.hid ((hb2.block _ (lt_of_block HT0.out)).trans HT0.out)
  obtain ⟨y0, y1, y2, yz⟩ := blk3 ht2
  have hb7 : w.heap.size + 1 < w1.heap.size := Nat.lt_of_lt_of_le (lt_of_block HT0.out) hb.size
  have hbz : w1.heap.size < w2.heap.size := lt_of_block ht2
  clear hb hb2 ht2 HB0 HI0 HT0 HJ
  go_upto_region 2 with fail
  rw [← hw2]
  clear hw2
  obtain ⟨i0, i1, i2, iz⟩ := blk3 HI2.out
  obtain ⟨r0, r1, r2, rz⟩ := blk3 HT2.out
  go_wp2_with fail
  go_region
  all_goals go_wp2_with fail
  all_goals
    refine bodyPost_ret (v := .tuple #[.agg #[.slice none 0 0, .slice none 0 0, .int .i64 0], .slice none 0 0, .agg #[.int .i64 0, .int .i64 1, .int .i64 0]]) (by simp [results, Try.results31, go_sem, i0, i1, i2, r0, r1, r2]) rfl ⟨rfl, ?_⟩
    clear i0 i1 i2 iz r0 r1 r2 rz y0 y1 y2 yz
    have hB := HB2.out
    repeat (first | (with_reducible exact hB) | (with_reducible refine Below.setCell ?_ (by simp) _) | (with_reducible refine Below.drew ?_))

/-- two images and two troubles -/
structure MkAt (w wr : World) (b1 b2 : Nat) (i1 t1 i2 t2 : Array Value) : Prop where
  below : Below w.heap.size w wr
  im1 : wr.heap[b1]? = some (.cells i1 34 (0, 0))
  tr1 : wr.heap[b1 + 1]? = some (.cells t1 73 (0, 0))
  im2 : wr.heap[b2]? = some (.cells i2 34 (0, 0))
  tr2 : wr.heap[b2 + 1]? = some (.cells t2 73 (0, 0))
theorem MkAt.go {w wr w2 : World} {b1 b2 : Nat} {i1 t1 i2 t2 : Array Value} (h : MkAt w wr b1 b2 i1 t1 i2 t2) (hb : Below wr.heap.size wr w2) : MkAt w w2 b1 b2 i1 t1 i2 t2 :=
  ⟨h.below.trans (hb.mono h.below.size), (hb.block _ (lt_of_block h.im1)).trans h.im1, (hb.block _ (lt_of_block h.tr1)).trans h.tr1, (hb.block _ (lt_of_block h.im2)).trans h.im2, (hb.block _ (lt_of_block h.tr2)).trans h.tr2⟩
theorem MkAt.new {w w1 w3 : World} {i1 t1 i2 t2 : Array Value} (hb1 : Below w.heap.size w w1) (hb3 : Below ((w1.alloc (.cells i1 34)).alloc (.cells t1 73)).heap.size ((w1.alloc (.cells i1 34)).alloc (.cells t1 73)) w3) :
    MkAt w ((w3.alloc (.cells i2 34)).alloc (.cells t2 73)) w1.heap.size w3.heap.size i1 t1 i2 t2 := by
  have hz := hb3.size
  simp only [World.size_alloc] at hz
  have e1 : ((w1.alloc (.cells i1 34)).alloc (.cells t1 73)).heap[w1.heap.size]? = some (.cells i1 34 (0, 0)) := by rw [Below.heap_alloc _ _ _ (by simp)]; exact heap_alloc_new _ _
  have e2 : ((w1.alloc (.cells i1 34)).alloc (.cells t1 73)).heap[w1.heap.size + 1]? = some (.cells t1 73 (0, 0)) := heap_alloc_new2 w1 _ _
  refine ⟨?_, ?_, ?_, ?_, heap_alloc_new2 w3 _ _⟩
  · have h1 := (hb1.alloc hb1.size (.cells i1 34)).alloc (by have := hb1.size; simp; omega) (.cells t1 73)
    exact ((h1.trans (hb3.mono h1.size)).alloc (by have := hb1.size; omega) _).alloc (by have := hb1.size; simp; omega) _
  · rw [Below.heap_alloc _ _ _ (by simp; omega), Below.heap_alloc _ _ _ (by omega)]
    exact (hb3.block _ (lt_of_block e1)).trans e1
  · rw [Below.heap_alloc _ _ _ (by simp; omega), Below.heap_alloc _ _ _ (by omega)]
    exact (hb3.block _ (lt_of_block e2)).trans e2
  · rw [Below.heap_alloc _ _ _ (by simp)]
    exact heap_alloc_new _ _

/-- what is told alike -/
def Alike1 (w : World) (N D R : Nat) (mm T1 T2 T3 : Int) (xc xd : List Int) (xr : List Rng) (e : Ending) (w' : World) : Prop :=
  ∃ p k q l r m, e = .returned (.tuple #[.agg #[.slice p N k, .slice q D l, .int .i64 mm], .slice r R m, .agg #[.int .i64 T1, .int .i64 T2, .int .i64 T3]]) ∧ Below w.heap.size w w' ∧ SliceAt w' .u32 p xc ∧ SliceAt w' .i32 q xd ∧ RowsAt w' r 5 (xr.map rngCells)
theorem lkTells_alike {w w' : World} {res : Except Trb (List Int × List Int × List Rng)} {mem : Int} {e : Ending} (h : LkTells w res mem e w') : match res with
  | .error t => Alike1 w 0 0 0 0 t.1 t.2.1 t.2.2 [] [] [] e w'
  | .ok (xc, xd, xr) => Alike1 w xc.length xd.length xr.length mem 0 0 0 xc xd xr e w' := by
  cases res with
  | error t =>
    obtain ⟨h1, h2⟩ := h
    exact ⟨none, 0, none, 0, none, 0, h1, h2, .inl rfl, .inl rfl, .inl rfl⟩
  | ok x =>
    obtain ⟨xc, xd, xr⟩ := x
    obtain ⟨vc, vd, vr, h1, h2, h3, h4, h5⟩ := h
    obtain ⟨p, k, rfl⟩ := own_form h3
    obtain ⟨q, l, rfl⟩ := own_form h4
    obtain ⟨r, m, rfl⟩ := own_form h5
    have e1 : ∀ (K : IntKind) (L : List Int), L.map (Value.int K) = L.flatMap fun x => [Value.int K x] := fun K L => by
      induction L with
      | nil => rfl
      | cons a L ih => rw [List.flatMap_cons, ← ih]; rfl
    unfold u32s at h3
    unfold i32s at h4
    rw [e1] at h3 h4
    exact ⟨p, k, q, l, r, m, h1, h2, slcAt_own h3, slcAt_own h4, rwsAt_own rngCells 5 (fun _ => rfl) rfl h5⟩

set_option maxRecDepth 100000 in
set_option maxHeartbeats 4000000 in
theorem makes_same (p : Option Addr) (n kap : Nat) (mem : Int) (w : World) (N D R : Nat) (mm T1 T2 T3 : Int) (xc xd : List Int) (xr : List Rng) (hN : xc.length = N) (hD : xd.length = D) (hR : xr.length = R) (hN1 : N ≤ 10000000) (hD1 : D ≤ 10000000) (hR1 : R ≤ 10000000)
    (h1 : ∀ w', Below w.heap.size w w' → Calls Try.prog 30 #[.slice p n kap, .int .i64 mem] w' (Alike1 w' N D R mm T1 T2 T3 xc xd xr))
    (h2 : ∀ w', Below w.heap.size w w' → Calls Try.prog 31 #[.slice p n kap, .int .i64 mem] w' (Alike1 w' N D R mm T1 T2 T3 xc xd xr)) :
    Calls Try.prog 10 #[.slice p n kap, .int .i64 mem] w fun e w' => e = .returned (.bool true) ∧ Below w.heap.size w w' := by
  have H1 := Lib.hid h1
  have H2 := Lib.hid h2
  have HN := Lib.hid hN
  have HD := Lib.hid hD
  have HR := Lib.hid hR
  clear h1 h2 hN hD hR
  go_enter Try.func10, Try.ntmps10
  go_wp2_with fail
  refine (H1.out _ (Below.refl _ _)).mono ?_
  rintro e w1 ⟨p1, k1, q1, l1, r1, m1, rfl, hb1, hc1, hd1, hr1⟩
  go_upto_region 2 with fail
  have hb12 : Below w1.heap.size w1 ((w1.alloc (.cells #[.slice p1 N k1, .slice q1 D l1, .int .i64 mm] 34)).alloc (.cells #[.int .i64 T1, .int .i64 T2, .int .i64 T3] 73)) := ((Below.refl _ _).alloc (Nat.le_refl _) _).alloc (by simp) _
  have HB1 := Lib.hid hb1
  have HB12 := Lib.hid hb12
  have HX1 := Lib.hid (And.intro hc1 (And.intro hd1 hr1))
  clear hb1 hb12 hc1 hd1 hr1
  go_wp2_with fail
  refine (H2.out _ (HB1.out.trans (HB12.out.mono HB1.out.size))).mono ?_
  rintro e w3 ⟨p2, k2, q2, l2, r2, m2, rfl, hb3, hc2, hd2, hr2⟩
  go_upto_region 3 with fail
  have hm := MkAt.new (i2 := #[.slice p2 N k2, .slice q2 D l2, .int .i64 mm]) (t2 := #[.int .i64 T1, .int .i64 T2, .int .i64 T3]) HB1.out hb3
  obtain ⟨w4, hw4⟩ : ∃ w4, w4 = (w3.alloc (.cells #[.slice p2 N k2, .slice q2 D l2, .int .i64 mm] 34)).alloc (.cells #[.int .i64 T1, .int .i64 T2, .int .i64 T3] 73) := ⟨_, rfl⟩
  have hb34 : Below w3.heap.size w3 w4 := by rw [hw4]; exact ((Below.refl _ _).alloc (Nat.le_refl _) _).alloc (by simp) _
  have hb14 : Below w1.heap.size w1 w4 := by
    have h13 := HB12.out.trans (hb3.mono HB12.out.size)
    exact h13.trans (hb34.mono h13.size)
  have HX := Lib.hid (show (SliceAt w4 .u32 p1 xc ∧ SliceAt w4 .i32 q1 xd ∧ RowsAt w4 r1 5 (xr.map rngCells)) ∧ SliceAt w4 .u32 p2 xc ∧ SliceAt w4 .i32 q2 xd ∧ RowsAt w4 r2 5 (xr.map rngCells) from
    ⟨⟨HX1.out.1.below hb14, HX1.out.2.1.below hb14, HX1.out.2.2.below hb14⟩, hc2.below hb34, hd2.below hb34, hr2.below hb34⟩)
  obtain ⟨b1, hb1⟩ : ∃ b1, b1 = w1.heap.size := ⟨_, rfl⟩
  obtain ⟨b2, hb2⟩ : ∃ b2, b2 = w3.heap.size := ⟨_, rfl⟩
  rw [← hw4, ← hb1, ← hb2] at hm ⊢
  clear hw4 hb1 hb2 hb3 HB1 HB12 H1 H2 hb34 hb14 HX1 hc2 hd2 hr2
  have HW := Lib.hid (words_same q1 q2 D l1 l2 xd w4 HD.out (by omega) HX.out.1.2.1 HX.out.2.2.1)
  obtain ⟨i0, i1, i2, iz⟩ := blk3 hm.im1
  obtain ⟨j0, j1, j2, jz⟩ := blk3 hm.im2
  obtain ⟨r0', r1', r2', rz⟩ := blk3 hm.tr1
  obtain ⟨s0, s1, s2, sz⟩ := blk3 hm.tr2
  have HM := Lib.hid hm
  clear hm
  go_wp2_with fail
  refine HW.out.mono ?_
  rintro e w5 ⟨rfl, hb5⟩
  have HM5 := Lib.hid (HM.out.go hb5)
  have HX5 := Lib.hid (show (SliceAt w5 .u32 p1 xc ∧ RowsAt w5 r1 5 (xr.map rngCells)) ∧ SliceAt w5 .u32 p2 xc ∧ RowsAt w5 r2 5 (xr.map rngCells) from
    ⟨⟨HX.out.1.1.below hb5, HX.out.1.2.2.below hb5⟩, HX.out.2.1.below hb5, HX.out.2.2.2.below hb5⟩)
  clear i0 i1 i2 iz j0 j1 j2 jz r0' r1' r2' rz s0 s1 s2 sz hb5 HM HW HX
  obtain ⟨i0, i1, i2, iz⟩ := blk3 HM5.out.im1
  obtain ⟨j0, j1, j2, jz⟩ := blk3 HM5.out.im2
  go_wp2_with fail
  clear i0 i1 i2 iz j0 j1 j2 jz
  go_loopg [11] N (fun gk i wr => ∃ j : Nat, j ≤ N ∧ gk = N - j ∧ i = .int .i64 j ∧ MkAt w wr b1 b2 #[.slice p1 N k1, .slice q1 D l1, .int .i64 mm] #[.int .i64 T1, .int .i64 T2, .int .i64 T3] #[.slice p2 N k2, .slice q2 D l2, .int .i64 mm] #[.int .i64 T1, .int .i64 T2, .int .i64 T3] ∧ Below w5.heap.size w5 wr)
  case atStart => exact ⟨0, by omega, rfl, rfl, HM5.out, Below.refl _ _⟩
  case round =>
    obtain ⟨j, hj, hgk, rfl, hm, hb⟩ := hrel
    have HG := Lib.hid hgk
    have HM := Lib.hid hm
    have HB := Lib.hid hb
    clear hgk hm hb HM5
    obtain ⟨i0, i1, i2, iz⟩ := blk3 HM.out.im1
    obtain ⟨j0, j1, j2, jz⟩ := blk3 HM.out.im2
    by_cases hlt : j < N
    · have hji : (j : Int) < N := by omega
      obtain ⟨x, c, co, c', co', rfl, rfl, k0', k1'⟩ : ∃ x c co c' co', p1 = some ⟨c, co, none⟩ ∧ p2 = some ⟨c', co', none⟩ ∧ wr.cell? ⟨c, co + j, none⟩ = some (.int .u32 x) ∧ wr.cell? ⟨c', co' + j, none⟩ = some (.int .u32 x) := by
        have hjl : j < xc.length := by rw [HN.out]; exact hlt
        rcases HX5.out.1.1 with h0 | ⟨c, co, rfl, hc, hr⟩
        · omega
        rcases HX5.out.2.1 with h0 | ⟨c', co', rfl, hc', hr'⟩
        · omega
        exact ⟨xc.getD j 0, c, co, c', co', rfl, rfl, (HB.out.cell (p := ⟨c, co + j, none⟩) hc).trans (hr j hjl), (HB.out.cell (p := ⟨c', co' + j, none⟩) hc').trans (hr' j hjl)⟩
      go_upto_region 8 with fail
      go_quiet (fail)
      go_wp2_with fail
      go_roundg (N - (j + 1))
      case measure => have := HG.out; omega
      case rel => exact ⟨j + 1, by omega, rfl, by go_num, HM.out.go ⟨rfl, rfl, rfl, Nat.le_refl _, fun _ _ => rfl⟩, below_drewN HB.out _⟩
    · obtain rfl : N = j := by omega
      go_wp2_with fail
      clear i0 i1 i2 iz j0 j1 j2 jz
      go_loopg [12] R (fun gk i wr => ∃ j : Nat, j ≤ R ∧ gk = R - j ∧ i = .int .i64 j ∧ MkAt w wr b1 b2 #[.slice p1 N k1, .slice q1 D l1, .int .i64 mm] #[.int .i64 T1, .int .i64 T2, .int .i64 T3] #[.slice p2 N k2, .slice q2 D l2, .int .i64 mm] #[.int .i64 T1, .int .i64 T2, .int .i64 T3] ∧ Below w5.heap.size w5 wr)
      case atStart => exact ⟨0, by omega, rfl, rfl, HM.out, HB.out⟩
      case round =>
        obtain ⟨j, hj, hgk, rfl, hm, hb⟩ := hrel
        have HG := Lib.hid hgk
        clear HM HB
        have HM := Lib.hid hm
        have HB := Lib.hid hb
        clear hgk hm hb
        by_cases hlt : j < R
        · have hji : (j : Int) < R := by omega
          obtain ⟨c, co, c', co', x, rfl, rfl, hr1, hr2⟩ : ∃ c co c' co' x, r1 = some ⟨c, co, none⟩ ∧ r2 = some ⟨c', co', none⟩ ∧ wr.rangeAt c (co + j * 5) (rngCells x) ∧ wr.rangeAt c' (co' + j * 5) (rngCells x) := by
            have hjl : j < (xr.map rngCells).length := by rw [List.length_map, HR.out]; exact hlt
            have hjl2 : j < xr.length := by rw [HR.out]; exact hlt
            rcases (HX5.out.1.2.below HB.out) with h0 | ⟨c, co, rfl, hc, hr⟩
            · omega
            rcases (HX5.out.2.2.below HB.out) with h0 | ⟨c', co', rfl, hc', hr'⟩
            · omega
            have a1 := hr j hjl
            have a2 := hr' j hjl
            rw [List.getElem_map] at a1 a2
            exact ⟨c, co, c', co', xr[j], rfl, rfl, a1, a2⟩
          have HR1 := Lib.hid hr1
          have HR2 := Lib.hid hr2
          clear hr1 hr2
          go_upto_region 13 with fail
          (refine wp_region_quiet_lit (by kernel_rfl) (by kernel_rfl) ?_; (repeat (first | (go_big_quiet_want; first | (refine quiet_load_mid wr 77 (.tmp 87) (by rfl) c (co + j * 5) (by rfl) [.string x.name, .int .i64 x.unit, .int .i64 x.lo, .int .i64 x.hi, .int .i64 x.frame] _ HR1.out Try.underlying77 (by rfl) (by kernel_rfl) ?_; go_simp; go_big_quiet_on) | (refine quiet_load_mid wr 77 (.tmp 91) (by rfl) c' (co' + j * 5) (by rfl) [.string x.name, .int .i64 x.unit, .int .i64 x.lo, .int .i64 x.hi, .int .i64 x.frame] _ HR2.out Try.underlying77 (by rfl) (by kernel_rfl) ?_; go_simp; go_big_quiet_on)) | (go_big_quiet_step (fail)))); refine wpQuiet_nil ?_; intro _ hw'; obtain ⟨nq, hw''⟩ := hw'; subst hw'')
          go_wp2_with fail
          go_roundg (R - (j + 1))
          case measure => have := HG.out; omega
          case rel => exact ⟨j + 1, by omega, rfl, by go_num, HM.out.go ⟨rfl, rfl, rfl, Nat.le_refl _, fun _ _ => rfl⟩, below_drewN HB.out _⟩
        · obtain rfl : R = j := by omega
          go_wp2_with fail
          go_ret
          exact ⟨rfl, HM.out.below⟩

/-- the law's body -/
theorem makes_law (c co n kap : Nat) (vs : List OV) (os : List Ob.Obj) (mem mx : Int) (w : World) (ho : ObjsAt w c co n vs os) (hmx : w.cell? ⟨0, 0, none⟩ = some (.int .i64 mx)) (m1 : -9223372036854775808 ≤ mem) (m2 : mem ≤ 9223372036854775807) (hn1 : 1 ≤ n) (hn : n ≤ 4) :
    Calls Try.prog 10 #[.slice (some ⟨c, co, none⟩) n kap, .int .i64 mem] w fun e w' => e = .returned (.bool true) ∧ Below w.heap.size w w' := by
  have hl := fun w' (hb : Below w.heap.size w w') => link_any c co n kap vs os mem mx w' (ho.below hb) ((hb.cell (p := ⟨0, 0, none⟩) (lt_of_cell hmx)).trans hmx) hn1 hn
  have hr := fun w' (hb : Below w.heap.size w w') => rlink_any c co n kap vs os mem w' (ho.below hb) hn1 hn m1 m2
  cases hres : linkR os mem with
  | error t =>
    rw [hres] at hl hr
    exact makes_same _ n kap mem w 0 0 0 0 t.1 t.2.1 t.2.2 [] [] [] rfl rfl rfl (by omega) (by omega) (by omega) (fun w' hb => (hl w' hb).mono fun e w'' h => lkTells_alike h) (fun w' hb => (hr w' hb).mono fun e w'' h => lkTells_alike h)
  | ok x =>
    obtain ⟨xc, xd, xr⟩ := x
    rw [hres] at hl hr
    obtain ⟨a1, a2, a3⟩ := link_sizes hres (by rw [ho.nl]; exact hn)
    exact makes_same _ n kap mem w _ _ _ mem 0 0 0 xc xd xr rfl rfl rfl a1 a2 a3 (fun w' hb => (hl w' hb).mono fun e w'' h => lkTells_alike h) (fun w' hb => (hr w' hb).mono fun e w'' h => lkTells_alike h)
theorem makes_size (p : Option Addr) (n kap : Nat) (mem : Int) (w : World) (hn : n < 1 ∨ 4 < n) :
    Calls Try.prog 10 #[.slice p n kap, .int .i64 mem] w fun e w' => e = .returned (.bool true) ∧ Below w.heap.size w w' :=
  makes_same p n kap mem w 0 0 0 0 0 1 0 [] [] [] rfl rfl rfl (by omega) (by omega) (by omega)
    (fun w' _ => (link_size p n kap mem w' hn).mono fun e w'' h => ⟨none, 0, none, 0, none, 0, h.1, h.2, .inl rfl, .inl rfl, .inl rfl⟩)
    (fun w' _ => (rlink_size p n kap mem w' hn).mono fun e w'' h => ⟨none, 0, none, 0, none, 0, h.1, h.2, .inl rfl, .inl rfl, .inl rfl⟩)

end Go.Proofs.Ythnehhidlaggeaa
