/- For every object that has bytes: they are read as the same, and no other bytes of as many are: the statement ObjectBack. No conditions. -/
import Derived.Test.YthnehhidlaggeaaGetRec
import Derived.Test.YthnehhidlaggeaaImage
import Derived.Test.YthnehhidlaggeaaObjMem
import Derived.HandedShaped
namespace Go.Proofs.Ythnehhidlaggeaa
set_option linter.unusedVariables false
set_option linter.unusedSimpArgs false
open Go.RowKit Ob

/-- an owned row of bytes, as an argument -/
theorem own_slc {w : World} {B : Nat} {v : Value} {l : List UInt8} (h : w.ownsRow B 5 1 v l.length (l.map u8V)) : ∃ a c, v = .slice a l.length c ∧ SlcAt w w.heap.size a l.length c l := by
  have hlt := h.lt
  have hc := fun g => h.cells (g := g)
  rcases h.2 with ⟨rfl, h0⟩ | ⟨g, cap, cur, rfl, _, _, h1, h2, _⟩
  · rw [h0]
    exact ⟨none, 0, rfl, ⟨h0, Nat.le_refl _, by omega, .inl ⟨rfl, rfl⟩⟩⟩
  · refine ⟨_, cap, rfl, ⟨rfl, h1, by unfold maxLen at h2; omega, .inr ⟨g, 0, rfl, (hlt g rfl).2, fun i hi => ?_⟩⟩⟩
    have := hc g rfl i (u8V l[i]) (by rw [List.getElem?_map, List.getElem?_eq_getElem hi]; rfl)
    by_cases h0 : i = 0
    · subst h0
      simpa [Addr.add] using this
    · simpa [Addr.add, h0] using this
theorem objIn_of {w : World} {pc pd ps pr : Option Addr} {n d m r : Nat} {o : Ob.Obj} (h : ObjAt w pc pd ps pr n d m r o) : ObjIn o := by
  refine ⟨fun x hx => ?_, fun x hx => ?_⟩
  · obtain ⟨j, hj, rfl⟩ := List.getElem_of_mem hx
    have := h.u32 j
    rwa [List.getD_eq_getElem?_getD, List.getElem?_eq_getElem hj, Option.getD_some] at this
  · obtain ⟨j, hj, rfl⟩ := List.getElem_of_mem hx
    have := h.i32 j
    rwa [List.getD_eq_getElem?_getD, List.getElem?_eq_getElem hj, Option.getD_some] at this
/-- what the program tells of an object's bytes -/
theorem getR_put {o : Ob.Obj} (hb : mayB o = true) (hi : ObjIn o) : getR (putB o) = (0, o) := by
  rw [getR_may (parse_of (mayB_fine hb) hi), if_pos hb]
theorem getR_back {l : List UInt8} (h : (getR l).1 = 0) : mayB (getR l).2 = true ∧ putB (getR l).2 = l := by
  unfold getR at h ⊢
  split at h
  · rename_i o hp
    split at h
    · rename_i hm
      simp only [hm, if_true]
      have := parse_put hp
      rw [List.append_nil] at this
      exact ⟨trivial, this.symm⟩
    · exact absurd h (by decide)
  · exact absurd h (by decide)

set_option maxRecDepth 100000 in
set_option maxHeartbeats 4000000 in
theorem back_no (o : Ob.Obj) (pc pd ps pr : Option Addr) (n kn d kd m km r kr : Nat) (mx at0 by0 : Int) (w : World) (ho : ObjAt w pc pd ps pr n d m r o) (hmx : w.cell? ⟨0, 0, none⟩ = some (.int .i64 mx)) (hb : mayB o = false) :
    Calls Try.prog 9 #[objV pc pd ps pr n kn d kd m km r kr, .int .i64 at0, .int .u8 by0] w fun e w' => e = .returned (.bool true) ∧ Below w.heap.size w w' := by
  have hb0 : Below w.heap.size w (w.alloc (.cells #[.slice pc n kn, .slice pd d kd, .slice ps m km, .slice pr r kr] 60)) := (Below.refl _ _).alloc (Nat.le_refl _) _
  have hlt := lt_of_cell hmx
  have H := Lib.hid (oput_no o pc pd ps pr n kn d kd m km r kr mx _ (ho.below hb0) ((hb0.cell (p := ⟨0, 0, none⟩) hlt).trans hmx) hb)
  obtain ⟨y0, y1, y2, y3, yz⟩ := blk4 (heap_alloc_new w (.cells #[.slice pc n kn, .slice pd d kd, .slice ps m km, .slice pr r kr] 60))
  have HB := Lib.hid hb0
  clear ho hmx hb hb0 hlt
  unfold objV at H ⊢
  go_enter Try.func9, Try.ntmps9
  go_wp2_with fail
  refine H.out.mono ?_
  rintro e w1 ⟨rfl, hb1⟩
  have HB1 := Lib.hid (HB.out.trans (hb1.mono HB.out.size))
  clear hb1 y0 y1 y2 y3 yz
  go_wp2_with fail
  go_ret
  exact ⟨rfl, HB1.out⟩

end Go.Proofs.Ythnehhidlaggeaa
namespace Go.Proofs.Ythnehhidlaggeaa
set_option linter.unusedVariables false
set_option linter.unusedSimpArgs false
open Go.RowKit Ob

theorem putB_pos {o : Ob.Obj} (hb : mayB o = true) (hi : ObjIn o) : 0 < (putB o).length := by
  have h := parse_of (mayB_fine hb) hi
  cases hp : putB o with
  | nil =>
    rw [hp] at h
    have h0 : parse [] = none := by decide
    rw [h0] at h
    cases h
  | cons a l => simp

/-- at most so many bytes -/
theorem putB_few {o : Ob.Obj} (hb : mayB o = true) : (putB o).length ≤ 1000000 := by
  have hf := mayB_fine hb
  have h0 := hf.few
  unfold few at h0
  have h1 := flatMap_len be4 o.code 4 (fun x _ => Nat.le_of_eq (be4_len x))
  have h2 := flatMap_len be4 o.data 4 (fun x _ => Nat.le_of_eq (be4_len x))
  have h3 := flatMap_len symBytes o.syms 2048 (fun s hs => symBytes_len (hf.syms s hs))
  have h4 := flatMap_len relBytes o.rels 12 (fun x _ => Nat.le_of_eq (relBytes_len x))
  unfold putB
  simp only [List.length_append, be4_len]
  omega
/-- a byte turned -/
theorem set_u8 (l : List UInt8) (j : Nat) (y : UInt8) : (l.map u8V).set j (u8V y) = (l.set j y).map u8V := by rw [List.map_set]
/-- a block of slices holds no part of an object -/
theorem SliceAt.boxed {w w2 : World} {b : Nat} {k : IntKind} {p : Option Addr} {l : List Int} (h : SliceAt w k p l) (hg : w.grownBy w2 (some b)) (hx : ∀ o v, w.cell? ⟨b, o, none⟩ = some v → ∃ s n c, v = .slice s n c) : SliceAt w2 k p l := by
  rcases h with h | ⟨c, co, e, hlt, hc⟩
  · exact .inl h
  · refine .inr ⟨c, co, e, Nat.lt_of_lt_of_le hlt hg.size, fun j hj => ?_⟩
    have h1 := hc j hj
    by_cases hcb : c = b
    · subst hcb
      obtain ⟨s, n, q, h2⟩ := hx _ _ h1
      cases h2
    · exact (World.cell?_of_block (hg.block c hlt (fun e => hcb (Option.some.inj e)))).trans h1
theorem RowsAt.boxed {w w2 : World} {b : Nat} {p : Option Addr} {sz : Nat} {ls : List (List Value)} (h : RowsAt w p sz ls) (hg : w.grownBy w2 (some b)) (hx : ∀ o v, w.cell? ⟨b, o, none⟩ = some v → ∃ s n c, v = .slice s n c) (hl : ∀ l ∈ ls, ∀ u ∈ l, ∀ s n c, u ≠ .slice s n c) : RowsAt w2 p sz ls := by
  rcases h with h | ⟨c, co, e, hlt, hc⟩
  · exact .inl h
  · refine .inr ⟨c, co, e, Nat.lt_of_lt_of_le hlt hg.size, fun j hj i u hu => ?_⟩
    have h1 := hc j hj i u hu
    by_cases hcb : c = b
    · subst hcb
      obtain ⟨s, n, q, h2⟩ := hx _ _ h1
      exact absurd h2 (hl _ (List.getElem_mem hj) u (List.mem_of_getElem? hu) s n q)
    · exact (World.cell?_of_block (hg.block c hlt (fun e => hcb (Option.some.inj e)))).trans h1
theorem ObjAt.boxed {w w2 : World} {b : Nat} {pc pd ps pr : Option Addr} {n d m r : Nat} {o : Ob.Obj} (h : ObjAt w pc pd ps pr n d m r o) (hg : w.grownBy w2 (some b)) (hx : ∀ o v, w.cell? ⟨b, o, none⟩ = some v → ∃ s n c, v = .slice s n c) : ObjAt w2 pc pd ps pr n d m r o :=
  ⟨h.nl, h.dl, h.ml, h.rl, h.nb, h.db, h.mb, h.rb, h.code.boxed hg hx, h.data.boxed hg hx, h.syms.boxed hg hx (fun l hl u hu s n c => by
    obtain ⟨y, _, rfl⟩ := List.mem_map.1 hl
    unfold symCells at hu
    simp only [List.mem_cons, List.not_mem_nil, or_false] at hu
    rcases hu with rfl | rfl | rfl | rfl | rfl | rfl | rfl <;> intro e <;> cases e), h.rels.boxed hg hx (fun l hl u hu s n c => by
    obtain ⟨y, _, rfl⟩ := List.mem_map.1 hl
    unfold relCells at hu
    simp only [List.mem_cons, List.not_mem_nil, or_false] at hu
    rcases hu with rfl | rfl | rfl <;> intro e <;> cases e), h.u32, h.i32, h.symIn, h.relIn⟩
theorem box_slices {w : World} {b : Nat} {t : TypeId} {a0 a1 a2 a3 : Option Addr} {n0 n1 n2 n3 c0 c1 c2 c3 : Nat} (h : w.heap[b]? = some (.cells #[.slice a0 n0 c0, .slice a1 n1 c1, .slice a2 n2 c2, .slice a3 n3 c3] t (0, 0))) : ∀ o v, w.cell? ⟨b, o, none⟩ = some v → ∃ s n c, v = .slice s n c := by
  intro o v hv
  rw [cell_of_row w b o _ _ _ h] at hv
  match o, hv with
  | 0, hv => simp at hv; exact ⟨_, _, _, hv.symm⟩
  | 1, hv => simp at hv; exact ⟨_, _, _, hv.symm⟩
  | 2, hv => simp at hv; exact ⟨_, _, _, hv.symm⟩
  | 3, hv => simp at hv; exact ⟨_, _, _, hv.symm⟩
  | o + 4, hv => simp at hv
theorem grown_set4 (w : World) (b : Nat) (v0 v1 v2 v3 : Value) : w.grownBy ((((w.setCell ⟨b, 0, none⟩ v0).setCell ⟨b, 1, none⟩ v1).setCell ⟨b, 2, none⟩ v2).setCell ⟨b, 3, none⟩ v3) (some b) :=
  ⟨rfl, rfl, rfl, by simp, fun k _ hk => by
    have h : k ≠ b := fun e => hk (by rw [e])
    rw [heap_setCell_other _ _ _ _ h, heap_setCell_other _ _ _ _ h, heap_setCell_other _ _ _ _ h, heap_setCell_other _ _ _ _ h]⟩
theorem heap_set4 {w : World} {b : Nat} {t : TypeId} {u0 u1 u2 u3 : Value} (h : w.heap[b]? = some (.cells #[u0, u1, u2, u3] t (0, 0))) (v0 v1 v2 v3 : Value) :
    ((((w.setCell ⟨b, 0, none⟩ v0).setCell ⟨b, 1, none⟩ v1).setCell ⟨b, 2, none⟩ v2).setCell ⟨b, 3, none⟩ v3).heap[b]? = some (.cells #[v0, v1, v2, v3] t (0, 0)) :=
  heap_setCell_same _ b 3 _ t v3 (heap_setCell_same _ b 2 _ t v2 (heap_setCell_same _ b 1 _ t v1 (heap_setCell_same w b 0 _ t v0 h)))
theorem xor_u8 (a b : Int) : ∃ y : UInt8, bits .xor .u8 a b = y.toNat := by
  obtain ⟨z, hz⟩ : ∃ z, bits .xor .u8 a b = IntKind.u8.wrap z := ⟨_, (by simp only [bits]; rfl)⟩
  refine ⟨UInt8.ofNat (z % 256).toNat, ?_⟩
  rw [hz, IntKind.wrap_u8, UInt8.toNat_ofNat']
  omega
theorem own_u8 {w : World} {B g n cap : Nat} {l : List UInt8} {q : Nat} (h : w.ownsRow B 5 1 (.slice (some ⟨g, 0, none⟩) n cap) n (l.map u8V)) (hq : q < l.length) : w.cell? ⟨g, q, none⟩ = some (.int .u8 (l[q]).toNat) := by
  have h1 := h.1
  rw [List.length_map] at h1
  rw [h.cellAt q (by omega), List.getElem?_map, List.getElem?_eq_getElem hq]
  rfl

set_option maxRecDepth 100000 in
set_option maxHeartbeats 4000000 in
theorem back_yes (o : Ob.Obj) (pc pd ps pr : Option Addr) (n kn d kd m km r kr : Nat) (mx at0 by0 : Int) (w : World) (ho : ObjAt w pc pd ps pr n d m r o) (hmx : w.cell? ⟨0, 0, none⟩ = some (.int .i64 mx)) (hb : mayB o = true) :
    Calls Try.prog 9 #[objV pc pd ps pr n kn d kd m km r kr, .int .i64 at0, .int .u8 by0] w fun e w' => e = .returned (.bool true) ∧ Below w.heap.size w w' := by
  have hb0 : Below w.heap.size w (w.alloc (.cells #[.slice pc n kn, .slice pd d kd, .slice ps m km, .slice pr r kr] 60)) := (Below.refl _ _).alloc (Nat.le_refl _) _
  have hlt := lt_of_cell hmx
  have H := Lib.hid (oput_yes o pc pd ps pr n kn d kd m km r kr mx _ (ho.below hb0) ((hb0.cell (p := ⟨0, 0, none⟩) hlt).trans hmx) hb)
  obtain ⟨y0, y1, y2, y3, yz⟩ := blk4 (heap_alloc_new w (.cells #[.slice pc n kn, .slice pd d kd, .slice ps m km, .slice pr r kr] 60))
  have hin := objIn_of ho
  have hpos := putB_pos hb hin
  have HPOS := Lib.hid hpos
  have HR := Lib.hid (getR_put hb hin)
  have HB := Lib.hid hb0
  have HMX := Lib.hid hmx
  have HMAY := Lib.hid hb
  clear ho hmx hb hb0 hlt hin hpos
  unfold objV at H ⊢
  go_enter Try.func9, Try.ntmps9
  go_wp2_with fail
  refine H.out.mono ?_
  rintro e w1 ⟨v, rfl, hb1, hv⟩
  obtain ⟨a, c, rfl, hs⟩ := own_slc hv
  have hbw := HB.out.trans (hb1.mono HB.out.size)
  have HG := Lib.hid (get_any a (putB o).length c mx (putB o) w1 hs ((hbw.cell (p := ⟨0, 0, none⟩) (lt_of_cell HMX.out)).trans HMX.out))
  have HS := Lib.hid hs
  have HBW := Lib.hid hbw
  clear hb1 hv hs hbw y0 y1 y2 y3 yz H HB
  go_wp2_with fail
  refine HG.out.mono ?_
  rintro e w2 ⟨qc, qd, qs, qr, m1, m2, m3, m4, m5, m6, m7, m8, rfl, hb2, ho2⟩
  rw [HR.out] at ho2 ⊢
  unfold objV
  have hst : ∀ w : World, (storeCells ⟨w.heap.size, 0, none⟩ [.slice qc m1 m2, .slice qd m3 m4, .slice qs m5 m6, .slice qr m7 m8] 0).run Try.prog (w.alloc (.cells #[.slice none 0 0, .slice none 0 0, .slice none 0 0, .slice none 0 0] 60)) = .ok () (w.alloc (.cells #[.slice qc m1 m2, .slice qd m3 m4, .slice qs m5 m6, .slice qr m7 m8] 60)) :=
    fun w => run_storeCells_new (P := Try.prog) w 60 #[.slice none 0 0, .slice none 0 0, .slice none 0 0, .slice none 0 0] #[.slice qc m1 m2, .slice qd m3 m4, .slice qs m5 m6, .slice qr m7 m8] (by kernel_rfl) rfl (by kernel_rfl)
  obtain ⟨w3, hw3⟩ : ∃ w3, w3 = w2.alloc (.cells #[.slice qc m1 m2, .slice qd m3 m4, .slice qs m5 m6, .slice qr m7 m8] 60) := ⟨_, rfl⟩
  have hn3 : Below w2.heap.size w2 w3 := by rw [hw3]; exact (Below.refl _ _).alloc (Nat.le_refl _) _
  have hbox : w3.heap[w2.heap.size]? = some (.cells #[.slice qc m1 m2, .slice qd m3 m4, .slice qs m5 m6, .slice qr m7 m8] 60 (0, 0)) := by rw [hw3]; exact heap_alloc_new w2 _
  have hb13 := hb2.trans (hn3.mono hb2.size)
  have hbw3 := HBW.out.trans (hb13.mono HBW.out.size)
  have HP2 := Lib.hid (oput_yes o qc qd qs qr m1 m2 m3 m4 m5 m6 m7 m8 mx w3 (ho2.below hn3) ((hbw3.cell (p := ⟨0, 0, none⟩) (lt_of_cell HMX.out)).trans HMX.out) HMAY.out)
  unfold objV at HP2
  have HS3 := Lib.hid (HS.out.below hb13)
  have HBOX := Lib.hid hbox
  have HBW3 := Lib.hid hbw3
  have HSZ := Lib.hid hb13.size
  obtain ⟨y0, y1, y2, y3, yz⟩ := blk4 hbox
  have hl9 : w2.heap.size < w3.heap.size := lt_of_block hbox
  have HB9 := Lib.hid (Nat.le_trans HBW.out.size hb2.size)
  clear hn3 hbox hb13 hbw3 hb2 ho2 HS HBW HG
  go_upto_region 5 with fail
  rw [← hw3]
  clear hw3 hst
  obtain ⟨b9, hb9⟩ : ∃ b9, b9 = w2.heap.size := ⟨_, rfl⟩
  rw [← hb9] at HBOX HB9 y0 y1 y2 y3 yz hl9 ⊢
  clear hb9
  go_wp2_with fail
  refine HP2.out.mono ?_
  rintro e w4 ⟨v2, rfl, hb4, hv2⟩
  obtain ⟨L, hL⟩ : ∃ L, L = putB o := ⟨_, rfl⟩
  have hS4 := HS3.out.below (hb4.mono HSZ.out)
  have hpos := HPOS.out
  rw [← hL] at hv2 hS4 hpos ⊢
  obtain ⟨a2, c2, rfl, hs2⟩ := own_slc hv2
  have k1 := (hs2.bytesIn (Nat.le_refl _)).run
  have k2 := (hS4.bytesIn (Nat.le_trans HSZ.out hb4.size)).run
  have hbox4 := (hb4.block _ (lt_of_block HBOX.out)).trans HBOX.out
  have HBOX4 := Lib.hid hbox4
  have HBW4 := Lib.hid (HBW3.out.trans (hb4.mono HBW3.out.size))
  have HS4 := Lib.hid hS4
  have HL := Lib.hid hL
  have hsz4 : w1.heap.size ≤ w4.heap.size := Nat.le_trans HSZ.out hb4.size
  have HSZ4 := Lib.hid hsz4
  clear hsz4
  have hfew : L.length ≤ 1000000 := by rw [hL]; exact putB_few HMAY.out
  have hcap := hS4.cap
  have hbig := hS4.big
  have hle : L.length ≤ 9223372036854775807 := Nat.le_trans hcap hbig
  clear hb4 hv2 hs2 hS4 hbox4 y0 y1 y2 y3 yz HS3 HBOX HBW3 HP2 hL
  have hN : ¬ L.length = 0 := by omega
  have hNi : ¬ ((L.length : Int) = 0) := by omega
  have hNb : ((L.length : Int) == 0) = false := beq_eq_false_iff_ne.2 hNi
  go_upto_region 8 with fail
  obtain ⟨t, ht⟩ : ∃ t : Int, t = at0.tmod L.length := ⟨_, rfl⟩
  have ht1 : -(L.length : Int) < t ∧ t < L.length := by
    rw [ht]
    have h1 := Int.tmod_lt_of_pos at0 (show (0 : Int) < L.length by omega)
    have h2 := Int.lt_tmod_of_pos at0 (show (0 : Int) < L.length by omega)
    omega
  have htw : IntKind.i64.wrap t = t := IntWalk.i64_in _ (by omega)
  rw [ht] at htw
  go_upto_region 9 with fail
  rw [← ht]
  clear ht htw
  go_cut [1, 57] from 56 to 57 (fun v1 v57 wx => v1 = .int .i64 t ∧ v57 = .bool (decide (t < 0)) ∧ w4 = wx)
  case first =>
    go_wp2_with fail
    go_meet
    exact ⟨rfl, rfl, rfl⟩
  case rest =>
    obtain ⟨rfl, rfl, rfl⟩ := hcut
    go_step
    go_cut [1, 57] from 58 to 61 (fun v1 v57 wx => ∃ q : Nat, q < L.length ∧ v1 = .int .i64 q ∧ w4 = wx)
    case first =>
      by_cases h0 : t < 0
      · have hd : decide (t < 0) = true := decide_eq_true h0
        have hw2 : IntKind.i64.wrap (t + L.length) = t + L.length := IntWalk.i64_in _ (by omega)
        go_wp2_with fail
        go_meet
        exact ⟨(t + L.length).toNat, by omega, by rw [Int.toNat_of_nonneg (by omega)], rfl⟩
      · have hd : decide (t < 0) = false := decide_eq_false h0
        go_wp2_with fail
        go_meet
        exact ⟨t.toNat, by omega, by rw [Int.toNat_of_nonneg (by omega)], rfl⟩
    case rest =>
      obtain ⟨q, hq, rfl, rfl⟩ := hcut
      by_cases h0 : by0 = 0
      · subst h0
        go_wp2_with fail
        go_ret
        exact ⟨rfl, HBW4.out⟩
      · have hd : decide (by0 = 0) = false := decide_eq_false h0
        have hd2 : (by0 == 0) = false := beq_eq_false_iff_ne.2 h0
        go_upto_region 13 with fail
        obtain ⟨ba, off, rfl, hba, hca⟩ : ∃ ba off, a = some ⟨ba, off, none⟩ ∧ ba < w1.heap.size ∧ ∀ i (h : i < L.length), w4.cell? ⟨ba, off + i, none⟩ = some (u8V L[i]) := by
          rcases HS4.out.loc with ⟨rfl, h0⟩ | h
          · omega
          · exact h
        have hlt4 : w1.heap.size ≤ w4.heap.size := HSZ4.out
        have hb40 : Below w4.heap.size w4 (w4.alloc (.cells #[] 5)) := (Below.refl _ _).alloc (Nat.le_refl _) _
        have hsrc : Src Try.prog 1 61 (.slice (some ⟨ba, off, none⟩) L.length c) L.length (L.map u8V) (w4.alloc (.cells #[] 5)) :=
          Src.ofSlice _ Try.underlying61 _ _ _ _ (by rw [List.length_map, Nat.mul_one]) (fun j u hj => by
            have hj' : j < L.length := by have := (List.getElem?_eq_some_iff.1 hj).1; simpa using this
            rw [Go.WideShapes.add_plain, (hb40.cell (p := ⟨ba, off + j, none⟩) (by show ba < _; omega)).trans (hca j hj')]
            rw [List.getElem?_map, List.getElem?_eq_getElem hj'] at hj
            exact hj) (u8V_one _)
        have HSRC := Lib.hid hsrc
        clear hca hsrc hb40
        obtain ⟨i0, hi0, hz0, hz1, hz2⟩ := info_parts Try.infoU8
        go_wp2_with (at_builtin; go_loud (refine wpList_append_own_src (by rfl) (.tmp 64) (.tmp 65) 61 61 (by rfl) w4.heap.size 5 i0 _ 1 1 Try.underlying61 hi0 hz0 hz1 hz2 (by rfl) (by decide) (.slice (some ⟨w4.heap.size, 0, none⟩) 0 0) 0 [] (by rfl) (World.ownsRow_lit w4 #[] 0 (Nat.le_refl _) (by decide) rfl) (.slice (some ⟨ba, off, none⟩) L.length c) L.length (L.map u8V) (by rfl) HSRC.out (by unfold maxLen; omega) (by omega) (by simp) ?_); intro v' w5 hown hgr hor; simp only [Nat.zero_add, List.nil_append] at hown; obtain ⟨g, cap, rfl⟩ := own_slice hown hpos; have hcell := own_u8 hown hq; have hfz := hown.frozenAt q; have HOW := Lib.hid hown; have HGR := Lib.hid hgr; clear hown hgr hor)
        obtain ⟨y, hy⟩ := xor_u8 (L[q].toNat) by0
        rw [hy]
        obtain ⟨M, hM⟩ : ∃ M, M = L.set q y := ⟨_, rfl⟩
        have hML : M.length = L.length := by rw [hM, List.length_set]
        obtain ⟨hst, hgs⟩ := HOW.out.stored q (u8V y)
        rw [set_u8, ← hM, ← hML] at hst
        have hgl := HOW.out.lt g rfl
        have HGB := Lib.hid (show b9 < g by have := lt_of_block HBOX4.out; omega)
        have hb46 : Below w4.heap.size w4 (w5.setCell ⟨g, q, none⟩ (.int .u8 y.toNat)) :=
          ((((Below.refl _ _).alloc (Nat.le_refl _) _).grown HGR.out (by simp) (fun k hk => by
            have : k = w4.heap.size := by simpa [Value.ownBlock] using hk.symm
            omega))).setCell hgl.1 _
        obtain ⟨w6, hw6⟩ : ∃ w6, w6 = w5.setCell ⟨g, q, none⟩ (.int .u8 y.toNat) := ⟨_, rfl⟩
        have hst6 : w6.ownsRow w4.heap.size 5 1 (.slice (some ⟨g, 0, none⟩) M.length cap) M.length (M.map u8V) := by rw [hw6]; exact hst
        rw [← hw6] at hb46 ⊢
        obtain ⟨a6, c6, hv6, hs6⟩ := own_slc hst6
        injection hv6 with e1 _ e3
        subst e1 e3
        have HG6 := Lib.hid (get_any (some ⟨g, 0, none⟩) M.length cap mx M w6 hs6 ((hb46.cell (p := ⟨0, 0, none⟩) (lt_of_cell ((HBW4.out.cell (p := ⟨0, 0, none⟩) (lt_of_cell HMX.out)).trans HMX.out))).trans ((HBW4.out.cell (p := ⟨0, 0, none⟩) (lt_of_cell HMX.out)).trans HMX.out)))
        rw [hML] at HG6
        have HBW6 := Lib.hid (HBW4.out.trans (hb46.mono HBW4.out.size))
        have HBOX6 := Lib.hid ((hb46.block _ (lt_of_block HBOX4.out)).trans HBOX4.out)
        have HS6 := Lib.hid hs6
        have HML := Lib.hid hML
        clear hcell hfz hst hgs hy hw6 hst6 hb46 hs6 hgl hML hM HOW HGR HBW4 HBOX4 HSRC hi0 hz0 hz1 hz2 HS4 HL
        refine HG6.out.mono ?_
        rintro e w7 ⟨rc, rd, rs, rr, l1, l2, l3, l4, l5, l6, l7, l8, rfl, hb7, ho7⟩
        unfold objV
        have hbox7 := (hb7.block _ (lt_of_block HBOX6.out)).trans HBOX6.out
        obtain ⟨y0, y1, y2, y3, yz⟩ := blk4 hbox7
        have HBW7 := Lib.hid (HBW6.out.trans (hb7.mono HBW6.out.size))
        have HO7 := Lib.hid ho7
        have HS7 := Lib.hid (HS6.out.below hb7)
        have HSZ7 := Lib.hid hb7.size
        have HBOX7 := Lib.hid hbox7
        clear hb7 ho7 hbox7 HG6
        by_cases hr : (getR M).1 = 0
        · obtain ⟨hm7, hp7⟩ := getR_back hr
          rw [hr]
          go_upto_region 16 with fail
          have hg8 := grown_set4 w7 b9 (.slice rc l1 l2) (.slice rd l3 l4) (.slice rs l5 l6) (.slice rr l7 l8)
          have hbox8 := heap_set4 HBOX7.out (.slice rc l1 l2) (.slice rd l3 l4) (.slice rs l5 l6) (.slice rr l7 l8)
          obtain ⟨w8, hw8⟩ : ∃ w8, w8 = (((w7.setCell ⟨b9, 0, none⟩ (.slice rc l1 l2)).setCell ⟨b9, 1, none⟩ (.slice rd l3 l4)).setCell ⟨b9, 2, none⟩ (.slice rs l5 l6)).setCell ⟨b9, 3, none⟩ (.slice rr l7 l8) := ⟨_, rfl⟩
          rw [← hw8] at hg8 hbox8 ⊢
          have ho8 := HO7.out.boxed hg8 (box_slices HBOX7.out)
          have hbw8 : Below w.heap.size w w8 := HBW7.out.grown hg8 HBW7.out.size (fun k hk => by rw [← Option.some.inj hk]; exact HB9.out)
          have HP8 := Lib.hid (oput_yes (getR M).2 rc rd rs rr l1 l2 l3 l4 l5 l6 l7 l8 mx w8 ho8 ((hbw8.cell (p := ⟨0, 0, none⟩) (lt_of_cell HMX.out)).trans HMX.out) hm7)
          unfold objV at HP8
          rw [hp7] at HP8
          have hs8 : SlcAt w8 w8.heap.size (some ⟨g, 0, none⟩) M.length cap M := by
            have h7 := HS7.out
            refine ⟨h7.len, h7.cap, h7.big, h7.loc.imp id ?_⟩
            rintro ⟨bb, of, e, hlt, hc⟩
            have e1 := Option.some.inj e
            injection e1 with e2 e3 _
            subst e2 e3
            exact ⟨g, 0, rfl, Nat.lt_of_lt_of_le (Nat.lt_of_lt_of_le hlt HSZ7.out) hg8.size, fun j hj => (World.cell?_of_block (hg8.block g (Nat.lt_of_lt_of_le hlt HSZ7.out) (fun e => by have := Option.some.inj e; have := HGB.out; omega))).trans (hc j hj)⟩
          clear y0 y1 y2 y3 yz
          obtain ⟨y0, y1, y2, y3, yz⟩ := blk4 hbox8
          have HS8 := Lib.hid hs8
          have HBW8 := Lib.hid hbw8
          clear hg8 hbox8 hw8 ho8 hs8 hbw8 hm7 hp7 hr HO7
          go_wp2_with fail
          refine HP8.out.mono ?_
          rintro e w9 ⟨v9, rfl, hb9, hv9⟩
          obtain ⟨a9, c9, rfl, hs9⟩ := own_slc hv9
          have k1 := (hs9.bytesIn (Nat.le_refl _)).run
          have k2 := ((HS8.out.below hb9).bytesIn hb9.size).run
          rw [HML.out] at k1 k2 ⊢
          have HBW9 := Lib.hid (HBW8.out.trans (hb9.mono HBW8.out.size))
          clear hb9 hv9 hs9 y0 y1 y2 y3 yz
          go_wp2_with fail
          go_ret
          exact ⟨rfl, HBW9.out⟩
        · have hr0 : ((getR M).1 == 0) = false := beq_eq_false_iff_ne.2 hr
          have hr1 : ((getR M).1 != 0) = true := by unfold bne; rw [hr0]; rfl
          obtain ⟨er, her⟩ : ∃ er, er = (getR M).1 := ⟨_, rfl⟩
          rw [← her] at hr0 hr1 ⊢
          clear hr her
          go_wp2_with fail
          go_ret
          exact ⟨rfl, (((HBW7.out.setCell HB9.out _).setCell HB9.out _).setCell HB9.out _).setCell HB9.out _⟩

theorem back_any (o : Ob.Obj) (pc pd ps pr : Option Addr) (n kn d kd m km r kr : Nat) (mx at0 by0 : Int) (w : World) (ho : ObjAt w pc pd ps pr n d m r o) (hmx : w.cell? ⟨0, 0, none⟩ = some (.int .i64 mx)) :
    Calls Try.prog 9 #[objV pc pd ps pr n kn d kd m km r kr, .int .i64 at0, .int .u8 by0] w fun e w' => e = .returned (.bool true) ∧ Below w.heap.size w w' := by
  cases hb : mayB o
  · exact back_no o pc pd ps pr n kn d kd m km r kr mx at0 by0 w ho hmx hb
  · exact back_yes o pc pd ps pr n kn d kd m km r kr mx at0 by0 w ho hmx hb

end Go.Proofs.Ythnehhidlaggeaa

namespace Go.Proofs.Ythnehhidlaggeaa
set_option linter.unusedVariables false
set_option linter.unusedSimpArgs false
open Go.RowKit Go.WideShapes Go.ChangeShapes Go.Joins Go.Deep Ob

instance : Inhabited Ob.Sym := ⟨⟨ByteArray.empty, 0, false, 0, 0, ByteArray.empty, 0⟩⟩
instance : Inhabited Ob.Rel := ⟨⟨0, 0, 0⟩⟩
theorem in64_of_wf {n : Int} (h : (Lit.int .i64 n).wf = true) : In64 n := by
  unfold In64
  simpa [Lit.wf, IntKind.min, IntKind.max, IntKind.signed, IntKind.bits] using h
set_option maxRecDepth 100000 in
theorem open_sym {H : Type} {enc : TypeId × Value → H} {W : World} {fuel : Nat} {cs : List Value} {x : DataW H × List MemPlace} (h : DataW.trod enc Try.prog W 0 (fun _ => true) true fuel 106 cs = some x) :
    ∃ s : Ob.Sym, cs = symCells s ∧ SymIn s := by
  obtain ⟨ys, n', hn', hy, hlen, hyl, hf⟩ := DataW.trod_struct Try.underlying106 h
  have h7 : cs.length = 7 := hlen.trans (by kernel_rfl)
  match cs, h7 with
  | [v0, v1, v2, v3, v4, v5, v6], _ =>
    have hys : ys.length = 7 := hyl
    match ys, hys with
    | [y0, y1, y2, y3, y4, y5, y6], _ =>
      have g0 : DataW.trod enc Try.prog W 0 (fun _ => true) true n' 9 [v0] = some y0 := hf 0 _ rfl
      have g1 : DataW.trod enc Try.prog W 0 (fun _ => true) true n' 3 [v1] = some y1 := hf 1 _ rfl
      have g2 : DataW.trod enc Try.prog W 0 (fun _ => true) true n' 4 [v2] = some y2 := hf 2 _ rfl
      have g3 : DataW.trod enc Try.prog W 0 (fun _ => true) true n' 3 [v3] = some y3 := hf 3 _ rfl
      have g4 : DataW.trod enc Try.prog W 0 (fun _ => true) true n' 3 [v4] = some y4 := hf 4 _ rfl
      have g5 : DataW.trod enc Try.prog W 0 (fun _ => true) true n' 9 [v5] = some y5 := hf 5 _ rfl
      have g6 : DataW.trod enc Try.prog W 0 (fun _ => true) true n' 3 [v6] = some y6 := hf 6 _ rfl
      obtain ⟨s0, e0, _, z0⟩ := DataW.trod_string Try.underlying9 g0
      obtain ⟨s1, e1, _, z1⟩ := DataW.trod_int Try.underlying3 g1
      obtain ⟨s2, e2, _⟩ := DataW.trod_bool Try.underlying4 g2
      obtain ⟨s3, e3, _, z3⟩ := DataW.trod_int Try.underlying3 g3
      obtain ⟨s4, e4, _, z4⟩ := DataW.trod_int Try.underlying3 g4
      obtain ⟨s5, e5, _, z5⟩ := DataW.trod_string Try.underlying9 g5
      obtain ⟨s6, e6, _, z6⟩ := DataW.trod_int Try.underlying3 g6
      simp only [List.cons.injEq, and_true] at e0 e1 e2 e3 e4 e5 e6
      subst e0 e1 e2 e3 e4 e5 e6
      exact ⟨⟨s0, s1, s2, s3, s4, s5, s6⟩, rfl, ⟨by unfold maxLen at z0; omega, by unfold maxLen at z5; omega, in64_of_wf z1, in64_of_wf z3, in64_of_wf z4, in64_of_wf z6⟩⟩
set_option maxRecDepth 100000 in
theorem open_rel {H : Type} {enc : TypeId × Value → H} {W : World} {fuel : Nat} {cs : List Value} {x : DataW H × List MemPlace} (h : DataW.trod enc Try.prog W 0 (fun _ => true) true fuel 110 cs = some x) :
    ∃ s : Ob.Rel, cs = relCells s ∧ RelIn s := by
  obtain ⟨ys, n', hn', hy, hlen, hyl, hf⟩ := DataW.trod_struct Try.underlying110 h
  have h7 : cs.length = 3 := hlen.trans (by kernel_rfl)
  match cs, h7 with
  | [v0, v1, v2], _ =>
    have hys : ys.length = 3 := hyl
    match ys, hys with
    | [y0, y1, y2], _ =>
      have g0 : DataW.trod enc Try.prog W 0 (fun _ => true) true n' 3 [v0] = some y0 := hf 0 _ rfl
      have g1 : DataW.trod enc Try.prog W 0 (fun _ => true) true n' 3 [v1] = some y1 := hf 1 _ rfl
      have g2 : DataW.trod enc Try.prog W 0 (fun _ => true) true n' 3 [v2] = some y2 := hf 2 _ rfl
      obtain ⟨s0, e0, _, z0⟩ := DataW.trod_int Try.underlying3 g0
      obtain ⟨s1, e1, _, z1⟩ := DataW.trod_int Try.underlying3 g1
      obtain ⟨s2, e2, _, z2⟩ := DataW.trod_int Try.underlying3 g2
      simp only [List.cons.injEq, and_true] at e0 e1 e2
      subst e0 e1 e2
      exact ⟨⟨s0, s1, s2⟩, rfl, ⟨in64_of_wf z0, in64_of_wf z1, in64_of_wf z2⟩⟩
/-- rows of structs that came in -/
theorem open_rows {α : Type} [Inhabited α] (cells : α → List Value) (good : α → Prop) (sz : Nat) {H : Type} {enc : TypeId × Value → H} {W : World} {t e : TypeId} {fuel : Nat} {v : Value} {x : DataW H × List MemPlace} (ht : Try.prog.underlying t = some (.slice e)) (hc : Try.prog.cellsOf e = sz) (hsz : 0 < sz)
    (hlen : ∀ s, (cells s).length = sz)
    (hone : ∀ fuel cs x, DataW.trod enc Try.prog W 0 (fun _ => true) true fuel e cs = some x → ∃ s, cs = cells s ∧ good s)
    (h : DataW.trod enc Try.prog W 0 (fun _ => true) true fuel t [v] = some x) : ∃ (p : Option Addr) (n c : Nat) (ls : List α), v = .slice p n c ∧ n ≤ c ∧ c ≤ 9223372036854775807 ∧ ls.length = n ∧ RowsAt W p sz (ls.map cells) ∧ ∀ s ∈ ls, good s := by
  rcases open_slice ht h with ⟨hcs, hx⟩ | ⟨a, len, cap, m, n, D, Pl, hcs, hb, hl, hm, hmm, hx, hi⟩
  · simp only [List.cons.injEq, and_true] at hcs
    exact ⟨none, 0, 0, [], hcs, by omega, by omega, rfl, .inl rfl, fun n hn => by cases hn⟩
  · simp only [List.cons.injEq, and_true] at hcs
    simp only [if_true] at hmm
    obtain ⟨f, hf⟩ := choose_lt (n := m) (α := α) (p := fun i s => W.cells? 0 (a.add (i * sz)) sz = some (cells s) ∧ good s) (fun i him => by
      obtain ⟨cs', h1, h2⟩ := hi i him
      obtain ⟨s, rfl, hg⟩ := hone _ _ _ h2
      rw [hc] at h1
      exact ⟨s, h1, hg⟩)
    refine ⟨some a, len, cap, (List.range len).map f, hcs, hl, by unfold maxLen at hm; omega, by simp, ?_, fun s hs => ?_⟩
    · by_cases h0 : len = 0
      · exact .inl (by simp [h0])
      · right
        obtain ⟨_, hl0, h0c⟩ := World.cells?_some (hf 0 (by omega)).1
        have c0 := h0c 0 (by omega)
        rw [List.getElem?_eq_getElem (by omega)] at c0
        obtain ⟨b, off, spot⟩ := a
        have hsp : spot = none := by
          unfold Addr.add at c0
          simp at c0
          exact World.cell?_spot (a := ⟨b, off, spot⟩) c0
        subst hsp
        refine ⟨b, off, rfl, ?_, ?_⟩
        · rw [add_plain, add_plain] at c0
          exact lt_of_cell c0
        · intro j hj
          simp only [List.length_map, List.length_range] at hj
          intro i u hu
          simp only [List.getElem_map, List.getElem_range] at hu
          obtain ⟨_, hlj, hjc⟩ := World.cells?_some (hf j (by omega)).1
          have hil : i < (cells (f j)).length := (List.getElem?_eq_some_iff.1 hu).1
          have := hjc i (by omega)
          rw [add_plain, add_plain] at this
          rw [this]
          exact hu
    · obtain ⟨i, hi', rfl⟩ := List.mem_map.1 hs
      exact (hf i (by have := List.mem_range.1 hi'; omega)).2

set_option maxRecDepth 100000 in
/-- an object that came in -/
theorem open_object {H : Type} {enc : TypeId × Value → H} {W : World} {b0 : Nat} {v : Value} {x : DataW H} {p : List MemPlace} (hv : Value.okWide Try.prog W .any b0 60 v) (h : DataW.Trod enc Try.prog W 0 (fun _ => true) true 60 v x p) :
    ∃ (pc pd ps pr : Option Addr) (n kn d kd m km r kr : Nat) (o : Ob.Obj), v = objV pc pd ps pr n kn d kd m km r kr ∧ ObjAt W pc pd ps pr n d m r o := by
  obtain ⟨v0, v1, v2, v3, y0, y1, y2, y3, n, rfl, rfl, rfl, h0, h1, h2, h3⟩ := open_agg4 Try.underlying60 (by kernel_rfl) (by kernel_rfl) hv h
  obtain ⟨p0, n0, c0, l0, rfl, a1, a2, a3, a4, a5⟩ := open_row Try.underlying31 Try.underlying22 (by kernel_rfl) h0
  obtain ⟨p1, n1, c1, l1, rfl, b1, b2, b3, b4, b5⟩ := open_row Try.underlying32 Try.underlying21 (by kernel_rfl) h1
  obtain ⟨p2, n2, c2, l2, rfl, d1, d2, d3, d4, d5⟩ := open_rows symCells SymIn 7 Try.underlying57 (by kernel_rfl) (by omega) (fun _ => rfl) (fun _ _ _ h => open_sym h) h2
  obtain ⟨p3, n3, c3, l3, rfl, e1, e2, e3, e4, e5⟩ := open_rows relCells RelIn 3 Try.underlying58 (by kernel_rfl) (by omega) (fun _ => rfl) (fun _ _ _ h => open_rel h) h3
  exact ⟨p0, p1, p2, p3, n0, c0, n1, c1, n2, c2, n3, c3, ⟨l0, l1, l2, l3⟩, rfl, ⟨a3, b3, d3, e3, by omega, by omega, by omega, by omega, a4, b4, d4, e4, inu32_of_wf a5, in32_of_wf b5, d5, e5⟩⟩

end Go.Proofs.Ythnehhidlaggeaa

namespace Go.Proofs.Ythnehhidlaggeaa.lawBack
set_option linter.unusedVariables false
set_option linter.unusedSimpArgs false
open Go.ChangeShapes Go.WideShapes Go.ChangeAt Go.RowKit

theorem own : ownKnob Try.prog.godebug = none := by kernel_rfl

set_option maxRecDepth 100000 in
theorem lifted (os : Os) (started : os.Started) (H : Type) (enc : TypeId × Value → H) :
    ReturnsInHanded {} Try.checked os 9 .any (Rows.objectBackSpec.pre6 enc Try.prog Try.f9 Rows.objectBackRow.domain false) (Rows.objectBackSpec.post enc Try.prog Try.f9 false true false false) := by
  refine returnsInHanded_of_change_shaped (C := Try.checked) own started (by kernel_rfl) Try.func9
    (ChangeSpec.witness6 (enc := enc) (C := Try.checked) false ⟨#[], #[.agg #[.slice none 0 0, .slice none 0 0, .slice none 0 0, .slice none 0 0], .int .i64 0, .int .u8 0], []⟩ 8 (by kernel_rfl) (by kernel_rfl) (by kernel_rfl) (by kernel_rfl)) ?_
  intro W base args ds gs before hval0 hW hcnd _ hsh _
  have hval : ∀ (j : Nat) t v, Try.f9.params[j]? = some t → args[j]? = some v → Value.okWide Try.prog W .any base t v := hval0
  have hW' := hW
  obtain ⟨p, q, hA0, hV, rfl, hfz, hnd⟩ := hW
  have hA : DataW.TrodAll enc Try.prog W 0 (fun _ => true) true Try.f9.params.toList args.toList ds p := hA0
  obtain ⟨rfl, rfl⟩ := trodVars_none hV
  simp only [List.append_nil] at hW'
  have hA2 := hA
  rw [Try.params9] at hA2 hval
  obtain ⟨v0, vs0, d0, ds0, p0, q0, hargs, rfl, rfl, h0, r0⟩ := trodAll_cons hA2
  obtain ⟨v1, vs1, d1, ds1, p1, q1, rfl, rfl, rfl, h1, r1⟩ := trodAll_cons r0
  obtain ⟨v2, vs2, d2, ds2, p2, q2, rfl, rfl, rfl, h2, r2⟩ := trodAll_cons r1
  obtain ⟨rfl, rfl, rfl⟩ := trodAll_nil r2
  obtain rfl : args = #[v0, v1, v2] := by cases args; simp_all
  obtain ⟨pc, pd, ps, pr, n, kn, d, kd, m, km, r, kr, o, rfl, ho⟩ := open_object (hval 0 60 v0 rfl rfl) h0
  obtain ⟨at0, rfl, _⟩ := open_int Try.underlying3 (hval 1 3 v1 rfl rfl) h1
  obtain ⟨by0, rfl, _⟩ := open_int Try.underlying5 (hval 2 5 v2 rfl rfl) h2
  obtain ⟨mx, hmx⟩ := Go.Proofs.cell_of_shapedOpen_int (zero := #[.int .i64 0]) (t := 3) (g := 0) hsh (of_decide_eq_true (by kernel_rfl)) (by kernel_rfl) rfl (by kernel_rfl) (by kernel_rfl) Try.underlying3
  refine (back_any o pc pd ps pr n kn d kd m km r kr mx at0 by0 W ho hmx).mono fun e W' ⟨he, hg⟩ => ?_
  subst he
  exact ⟨_, rfl, post_of_args (by kernel_rfl) (by rw [Try.params9]; decide +kernel) hW' hA (fun _ _ _ => (trodAll_cons_mk (shut_bool Try.underlying4 _) trodAll_mk0)) rfl (fun _ => rfl)
    hg (ok_one (by kernel_rfl) rfl (okWide_bool_mk Try.underlying4 _))⟩

theorem over : Rows.objectBackRow.holds Try.pinned (OpenSpec.ofChange Rows.objectBackSpec) :=
  OpenClaim.holds_of_wide 9 Try.f9 rfl rfl rfl rfl rfl rfl rfl ⟨rfl, rfl, rfl, rfl, rfl⟩ rfl rfl rfl rfl rfl (by kernel_rfl) Try.func9 (by kernel_rfl)
    (of_decide_eq_true (by kernel_rfl)) (by unfold Func.isWrapper; first | (rw [if_pos (by decide +kernel)]; kernel_rfl) | (rw [if_neg (by decide +kernel)]; exact ⟨rfl, rfl⟩))
    (fun os started H enc _ => lifted os started H enc)

theorem proved : Rows.ObjectBackSaid :=
  over

end Go.Proofs.Ythnehhidlaggeaa.lawBack
