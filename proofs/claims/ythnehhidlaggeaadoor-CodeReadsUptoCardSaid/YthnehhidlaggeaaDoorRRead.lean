/- scarfjointref2.Read: the walk. -/
import Derived.Test.YthnehhidlaggeaaDoorRead
import Derived.Test.YthnehhidlaggeaaDoorRText
import Derived.Test.YthnehhidlaggeaaDoorNumber
namespace Go.Proofs.YthnehhidlaggeaaDoor
set_option linter.unusedVariables false
set_option linter.unusedSimpArgs false
open Go.RowKit

/-- what is there at each row -/
structure RrAt (B g : Nat) (cur : Array Value) (W0 w : World) : Prop where
  hB : B = W0.heap.size
  hg : B < g
  res : w.heap[B]? = some (.cells zeros 23 (0, 0))
  rows : w.heap[g]? = some (.cells cur 50 (0, 0))
  below : Below B W0 w
theorem RrAt.size {B g : Nat} {cur : Array Value} {W0 w : World} (h : RrAt B g cur W0 w) : g < w.heap.size := lt_of_block h.rows
theorem RrAt.keep {B g : Nat} {cur : Array Value} {W0 w w2 : World} (h : RrAt B g cur W0 w) (hb : Below (g + 1) w w2) : RrAt B g cur W0 w2 := by
  have := h.hg
  exact ⟨h.hB, h.hg, (hb.block _ (by omega)).trans h.res, (hb.block _ (by omega)).trans h.rows, h.below.trans (hb.mono (by omega))⟩
theorem RrAt.go {B g : Nat} {cur : Array Value} {W0 w w2 : World} (h : RrAt B g cur W0 w) (hb : Below w.heap.size w w2) : RrAt B g cur W0 w2 := h.keep (hb.mono (by have := h.size; omega))
/-- what is there at each field -/
structure RxAt (B g K : Nat) (cur : Array Value) (op : Int) (W0 w : World) (t : Int × Int × Int × Int) : Prop where
  rr : RrAt B g cur W0 w
  hK : g < K
  box : w.heap[K]? = some (.cells #[.int .i64 op, .int .i64 t.1, .int .i64 t.2.1, .int .i64 t.2.2.1, .int .i64 t.2.2.2] 23 (0, 0))
section
variable {B g K : Nat} {cur : Array Value} {op : Int} {W0 w : World} {t : Int × Int × Int × Int}
theorem RxAt.go {w2 : World} (h : RxAt B g K cur op W0 w t) (hb : Below w.heap.size w w2) : RxAt B g K cur op W0 w2 t :=
  ⟨h.rr.go hb, h.hK, (hb.block _ (lt_of_block h.box)).trans h.box⟩
theorem RxAt.lay (h : RxAt B g K cur op W0 w t) {x : UInt8} (hx : Cp.letter x) (v : Int) : RxAt B g K cur op W0 (w.setCell ⟨K, cellNo x, none⟩ (.int .i64 v)) (Cp.setF t x v) := by
  have h1 := h.hK
  refine ⟨h.rr.keep ((Below.refl _ _).setCell (by show g + 1 ≤ K; omega) _), h1, ?_⟩
  rw [heap_setCell_same w K _ _ _ _ h.box]
  unfold Cp.letter at hx
  rcases hx with rfl | rfl | rfl | rfl <;> rfl
end

set_option maxRecDepth 100000 in
set_option maxHeartbeats 4000000 in
theorem rread_any (s : ByteArray) (hs : s.size ≤ 1048576) (w : World) :
    Calls Tryd.prog 11 #[.string s] w fun e w' => ReadTells s.data.toList e ∧ Below w.heap.size w w' := by
  obtain ⟨l, hl⟩ : ∃ l, l = s.data.toList := ⟨_, rfl⟩
  have hll : l.length = s.size := by rw [hl, Array.length_toList]; rfl
  rw [← hl]
  have HL := Lib.hid hl
  have HLL := Lib.hid hll
  clear hl hll
  have HRW := Lib.hid (rows_any (w.alloc (.cells zeros 23)))
  unfold zeros at HRW
  go_enter Tryd.func11, Tryd.ntmps11
  go_wp2_with fail
  refine HRW.out.mono ?_
  rintro e w1 ⟨⟨v, rfl, hown⟩, hb⟩
  rcases hown.2 with ⟨_, h⟩ | ⟨g, cap, cur, rfl, hbg, hgb, _, _, _, htk⟩
  · omega
  have hR : RrAt w.heap.size g cur w w1 := by
    simp at hbg
    exact ⟨rfl, hbg, (hb.block w.heap.size (by simp)).trans (heap_alloc_new w _), hgb, ((Below.refl _ _).alloc (Nat.le_refl _) _).trans (hb.mono (by simp))⟩
  have hx : ∀ j, j < 100 → cur[j]? = (Cp.cellsTo 25)[j]? := fun j hj => by
    rw [← htk, List.getElem?_take, if_pos (by omega)]
    simp
  have HR := Lib.hid hR
  have HX := Lib.hid hx
  clear hown hb hbg hgb htk hR hx HRW
  go_wp2_with fail
  go_loopg [5] 25 (fun gk vi wr => ∃ k : Nat, k ≤ 25 ∧ gk = 25 - k ∧ vi = .int .i64 k ∧ RrAt w.heap.size g cur w wr ∧ (∀ o a b c i, Cp.Tells l o a b c i → ∀ j, j < k → Cp.opAt j ≠ o))
  case atStart => exact ⟨0, by omega, rfl, rfl, HR.out, fun o a b c i h j hj => by omega⟩
  case round =>
    clear HR
    obtain ⟨ix, hix, hg, rfl, hR, hno⟩ := hrel
    have HG := Lib.hid hg
    have HR := Lib.hid hR
    have HNO := Lib.hid hno
    clear hg hR hno
    by_cases hlt : ix < 25
    · have hd25 : decide ((ix : Int) < 25) = true := decide_eq_true (by omega)
      obtain ⟨op, hop⟩ : ∃ op, op = Cp.opAt ix := ⟨_, rfl⟩
      obtain ⟨c0, c1, c2, c3⟩ := Cp.cells_at ix hlt
      have hso : (Cp.find op).isSome := by rw [hop, Cp.find_opAt ix hlt]; rfl
      rw [← hop] at c0 c1 c2 c3
      have HNX : Hid (∀ wx, RrAt w.heap.size g cur w wx → (∀ a b c i, ¬ Cp.Tells l op a b c i) → ∃ k' : Nat, k' ≤ 25 ∧ 25 - (ix + 1) = 25 - k' ∧ Value.int .i64 ((ix : Int) + 1) = .int .i64 k' ∧ RrAt w.heap.size g cur w wx ∧ (∀ o a b c i, Cp.Tells l o a b c i → ∀ j, j < k' → Cp.opAt j ≠ o)) :=
        Lib.hid (fun wx hx hn => ⟨ix + 1, hlt, rfl, by go_num, hx, fun o a b c i h j hj e => by
          by_cases hj2 : j < ix
          · exact HNO.out o a b c i h j hj2 e
          · obtain rfl : j = ix := by omega
            rw [← hop] at e
            exact hn a b c i (e ▸ h)⟩)
      have hlet := Cp.row_letters op
      obtain ⟨nm, hnm⟩ : ∃ nm, nm = (Cp.rowOf op).1 := ⟨_, rfl⟩
      obtain ⟨F, hF⟩ : ∃ F, F = (Cp.rowOf op).2.1 := ⟨_, rfl⟩
      obtain ⟨sg, hsg⟩ : ∃ sg, sg = (Cp.rowOf op).2.2 := ⟨_, rfl⟩
      rw [← hnm, ← hF] at hlet
      rw [← hnm] at c1
      rw [← hF] at c2
      rw [← hsg] at c3
      obtain ⟨hlet, hF3, hn5⟩ := hlet
      obtain ⟨sN, hsN⟩ : ∃ sN, sN = str nm := ⟨_, rfl⟩
      obtain ⟨sF, hsF⟩ : ∃ sF, sF = str F := ⟨_, rfl⟩
      have hzN : sN.size = nm.length := by rw [hsN, str_size]
      have hzF : sF.size = F.length := by rw [hsF, str_size]
      have c1' : (Cp.cellsTo 25)[ix * 4 + 1]? = some (.string sN) := by rw [c1, hsN]; rfl
      have c2' : (Cp.cellsTo 25)[ix * 4 + 2]? = some (.string sF) := by rw [c2, hsF]; rfl
      have hget : ∀ k (h : k < sF.size), sF[k] = F.getD k 0 := fun k h => by
        subst hsF
        have hk : k < F.length := by rw [str_size] at h; exact h
        rw [List.getD_eq_getElem?_getD, List.getElem?_eq_getElem hk, Option.getD_some]
        rfl
      have hcs : ∀ wx, RrAt w.heap.size g cur w wx → wx.cell? ⟨g, ix * 4, none⟩ = some (.int .i64 op) ∧ wx.cell? ⟨g, ix * 4 + 1, none⟩ = some (.string sN) ∧ wx.cell? ⟨g, ix * 4 + 2, none⟩ = some (.string sF) := fun wx h =>
        ⟨(cell_of_row wx g _ _ _ _ h.rows).trans ((HX.out _ (by omega)).trans c0), (cell_of_row wx g _ _ _ _ h.rows).trans ((HX.out _ (by omega)).trans c1'), (cell_of_row wx g _ _ _ _ h.rows).trans ((HX.out _ (by omega)).trans c2')⟩
      have hN5 : sN.size ≤ 5 := by omega
      have hF3' : sF.size ≤ 3 := by omega
      have HCS := Lib.hid hcs
      have HGET := Lib.hid hget
      have HZN := Lib.hid hzN
      have HZF := Lib.hid hzF
      have HLET := Lib.hid hlet
      have HNM := Lib.hid hnm
      have HFF := Lib.hid hF
      have HSN := Lib.hid hsN
      have HSO := Lib.hid hso
      clear c0 c1 c2 c3 c1' c2' hop hso hlet hnm hF hsg hsN hsF hzN hzF hget hcs
      obtain ⟨x0, x1, x2⟩ := HCS.out wr HR.out
      have hgl := HR.out.size
      go_upto_region 7 with fail
      obtain ⟨K, hK⟩ : ∃ K, K = wr.heap.size := ⟨_, rfl⟩
      obtain ⟨w3, hw3⟩ : ∃ w3, w3 = wr.alloc (.cells #[.int .i64 op, .int .i64 0, .int .i64 0, .int .i64 0, .int .i64 0] 23) := ⟨_, rfl⟩
      have hX3 : RxAt w.heap.size g K cur op w w3 (0, 0, 0, 0) := by
        rw [hw3, hK]
        exact ⟨HR.out.go ((Below.refl _ _).alloc (Nat.le_refl _) _), hgl, heap_alloc_new _ _⟩
      rw [← hw3, ← hK]
      have HX3 := Lib.hid hX3
      clear hw3 hK hX3 x0 x1 x2 hgl HR
      obtain ⟨x0, x1, x2⟩ := HCS.out w3 HX3.out.rr
      obtain ⟨t, ht⟩ : ∃ t : Bool, t = (decide (s.size < sN.size) || !((s.extract 0 sN.size).toList == sN.toList)) := ⟨_, rfl⟩
      have HT1 := Lib.hid ht
      clear ht
      go_cut [47] from 33 to 47 (fun v47 wx => v47 = .bool t ∧ ∃ q, wx = w3.drewN q)
      case first =>
        by_cases hlen : s.size < sN.size
        · have hd : decide (s.size < sN.size) = true := decide_eq_true hlen
          obtain rfl : t = true := by rw [HT1.out, hd]; rfl
          go_quiet (fail)
          go_wp2_with fail
          go_meet
          exact ⟨rfl, _, rfl⟩
        · have hd : decide (s.size < sN.size) = false := decide_eq_false hlen
          have hle : sN.size ≤ s.size := by omega
          obtain ⟨t2, ht2⟩ : ∃ t2 : Bool, ((s.extract 0 sN.size).toList == sN.toList) = t2 := ⟨_, rfl⟩
          obtain rfl : t = !t2 := by rw [HT1.out, hd, ht2]; rfl
          go_quiet (fail)
          go_wp2_with fail
          go_meet
          exact ⟨rfl, _, rfl⟩
      case rest =>
        obtain ⟨rfl, q, rfl⟩ := hcut
        obtain ⟨wx, hq⟩ : ∃ wx, wx = w3.drewN q := ⟨_, rfl⟩
        rw [← hq]
        have HX4 := Lib.hid (show RxAt w.heap.size g K cur op w wx (0, 0, 0, 0) by rw [hq]; exact HX3.out.go (below_drewN (Below.refl _ _) _))
        clear hq HX3 x0 x1 x2
        cases t
        · have hle : sN.size ≤ s.size := by
            have h1 := HT1.out
            have h2 : decide (s.size < sN.size) = false := by
              cases e : decide (s.size < sN.size)
              · rfl
              · rw [e] at h1; cases h1
            have := of_decide_eq_false h2
            omega
          clear HT1
          have hnl : nm.length ≤ l.length := by have := HZN.out; have := HLL.out; omega
          go_wp2_with fail
          go_loopg [7, 8, 9] F.length (fun gk v7 v8 v9 wr => ∃ k p o t, k ≤ F.length ∧ gk = F.length - k ∧ Cp.rst l nm F k = ⟨p, o, t⟩ ∧ v7 = .int .i64 (p : Nat) ∧ v8 = .bool o ∧ v9 = .int .i64 (k : Nat) ∧ RxAt w.heap.size g K cur op w wr t)
          case atStart =>
            refine ⟨0, nm.length, true, (0, 0, 0, 0), by omega, rfl, rfl, ?_, rfl, rfl, HX4.out⟩
            rw [HZN.out]
          case round =>
            clear HX4
            obtain ⟨k, p, o, t, hk, hgk, hst, rfl, rfl, rfl, hX⟩ := hrel
            have hpl : p ≤ s.size := by
              have h1 := Cp.rst_pos l nm F hnl k
              rw [hst] at h1
              have := HLL.out
              simp only at h1
              omega
            have HGK := Lib.hid hgk
            have HST := Lib.hid hst
            have HX5 := Lib.hid hX
            obtain ⟨x0, x1, x2⟩ := HCS.out wr hX.rr
            have hzF := HZF.out
            have HZF2 := Lib.hid hzF
            clear hgk hst hX
            by_cases hgo : k < F.length ∧ o = true
            · obtain ⟨hkl, rfl⟩ := hgo
              have hkS : k < sF.size := by omega
              obtain ⟨x, hxe⟩ : ∃ x, x = F.getD k 0 := ⟨_, rfl⟩
              have hxk : x = F[k] := by rw [hxe, List.getD_eq_getElem?_getD, List.getElem?_eq_getElem hkl, Option.getD_some]
              have hx : Cp.letter x := HLET.out x (by rw [hxk]; exact List.getElem_mem hkl)
              have hsx : sF[k] = x := by rw [HGET.out k hkS, hxe]
              have HXE := Lib.hid hxe
              clear hzF hxk hxe
              unfold Cp.letter at hx
              rcases hx with rfl | rfl | rfl | rfl
              · have hx8 : (sF[k]'hkS).toNat = 65 := by rw [hsx]; rfl
                obtain ⟨P, hP⟩ : ∃ P, P = Cp.rFrom l p 65 := ⟨_, rfl⟩
                obtain ⟨Kd, hKd⟩ : ∃ Kd, Kd = Cp.rK l p 65 := ⟨_, rfl⟩
                obtain ⟨Nd, hNd⟩ : ∃ Nd, Nd = Cp.rN l p 65 := ⟨_, rfl⟩
                have hmin : min ((p : Int) + 1 + 1) (s.size : Int) = (P : Int) := by
                  rw [hP]
                  unfold Cp.rFrom Cp.rAt
                  rw [if_neg (by decide), HLL.out]
                  omega
                have hPs : P ≤ s.size := by omega
                have hnum := number_any s hs P hPs wr
                rw [← HL.out] at hnum
                have e1 : Cp.dRun 6 (l.drop P) = Kd := by rw [hKd, hP]; rfl
                rw [e1] at hnum
                have e2 : Cp.dVal (l.drop P) Kd = Nd := by rw [hNd, hKd, hP]; rfl
                rw [e2] at hnum
                have hK6 : Kd ≤ 6 := by rw [hKd]; exact (Cp.dRun_le 6 _).1
                have HNUM := Lib.hid hnum
                have hnext := Cp.rst_step HST.out HXE.out.symm
                rw [← hP, ← hKd, ← hNd, if_neg (by decide)] at hnext
                have HNEXT := Lib.hid hnext
                obtain ⟨okb, hokb⟩ : ∃ okb, okb = decide (0 < Kd) := ⟨_, rfl⟩
                rw [← hokb] at HNUM HNEXT
                obtain ⟨PK, hPK⟩ : ∃ PK, PK = P + Kd := ⟨_, rfl⟩
                rw [← hPK] at HNUM HNEXT
                have hlay := HX5.out.lay (x := 65) (by unfold Cp.letter; simp) Nd
                have HLAY := Lib.hid hlay
                obtain ⟨q0, q1, q2, q3, q4, qz⟩ := blk5 HX5.out.box
                clear hsx hP hKd hNd e1 e2 hnum hnext hokb hPK hlay
                go_wp2_with (go_at_call 25; refine HNUM.out.mono ?_; rintro e w5 ⟨rfl, rfl⟩)
                go_roundg (F.length - (k + 1))
                case measure => have := HGK.out; omega
                case rel => exact ⟨k + 1, PK, okb, _, hkl, rfl, HNEXT.out, rfl, rfl, by go_num, HLAY.out⟩
              · have hx8 : (sF[k]'hkS).toNat = 66 := by rw [hsx]; rfl
                obtain ⟨P, hP⟩ : ∃ P, P = Cp.rFrom l p 66 := ⟨_, rfl⟩
                obtain ⟨Kd, hKd⟩ : ∃ Kd, Kd = Cp.rK l p 66 := ⟨_, rfl⟩
                obtain ⟨Nd, hNd⟩ : ∃ Nd, Nd = Cp.rN l p 66 := ⟨_, rfl⟩
                have hmin : min ((p : Int) + 1 + 1) (s.size : Int) = (P : Int) := by
                  rw [hP]
                  unfold Cp.rFrom Cp.rAt
                  rw [if_neg (by decide), HLL.out]
                  omega
                have hPs : P ≤ s.size := by omega
                have hnum := number_any s hs P hPs wr
                rw [← HL.out] at hnum
                have e1 : Cp.dRun 6 (l.drop P) = Kd := by rw [hKd, hP]; rfl
                rw [e1] at hnum
                have e2 : Cp.dVal (l.drop P) Kd = Nd := by rw [hNd, hKd, hP]; rfl
                rw [e2] at hnum
                have hK6 : Kd ≤ 6 := by rw [hKd]; exact (Cp.dRun_le 6 _).1
                have HNUM := Lib.hid hnum
                have hnext := Cp.rst_step HST.out HXE.out.symm
                rw [← hP, ← hKd, ← hNd, if_neg (by decide)] at hnext
                have HNEXT := Lib.hid hnext
                obtain ⟨okb, hokb⟩ : ∃ okb, okb = decide (0 < Kd) := ⟨_, rfl⟩
                rw [← hokb] at HNUM HNEXT
                obtain ⟨PK, hPK⟩ : ∃ PK, PK = P + Kd := ⟨_, rfl⟩
                rw [← hPK] at HNUM HNEXT
                have hlay := HX5.out.lay (x := 66) (by unfold Cp.letter; simp) Nd
                have HLAY := Lib.hid hlay
                obtain ⟨q0, q1, q2, q3, q4, qz⟩ := blk5 HX5.out.box
                clear hsx hP hKd hNd e1 e2 hnum hnext hokb hPK hlay
                go_wp2_with (go_at_call 25; refine HNUM.out.mono ?_; rintro e w5 ⟨rfl, rfl⟩)
                go_roundg (F.length - (k + 1))
                case measure => have := HGK.out; omega
                case rel => exact ⟨k + 1, PK, okb, _, hkl, rfl, HNEXT.out, rfl, rfl, by go_num, HLAY.out⟩
              · have hx8 : (sF[k]'hkS).toNat = 67 := by rw [hsx]; rfl
                obtain ⟨P, hP⟩ : ∃ P, P = Cp.rFrom l p 67 := ⟨_, rfl⟩
                obtain ⟨Kd, hKd⟩ : ∃ Kd, Kd = Cp.rK l p 67 := ⟨_, rfl⟩
                obtain ⟨Nd, hNd⟩ : ∃ Nd, Nd = Cp.rN l p 67 := ⟨_, rfl⟩
                have hmin : min ((p : Int) + 1 + 1) (s.size : Int) = (P : Int) := by
                  rw [hP]
                  unfold Cp.rFrom Cp.rAt
                  rw [if_neg (by decide), HLL.out]
                  omega
                have hPs : P ≤ s.size := by omega
                have hnum := number_any s hs P hPs wr
                rw [← HL.out] at hnum
                have e1 : Cp.dRun 6 (l.drop P) = Kd := by rw [hKd, hP]; rfl
                rw [e1] at hnum
                have e2 : Cp.dVal (l.drop P) Kd = Nd := by rw [hNd, hKd, hP]; rfl
                rw [e2] at hnum
                have hK6 : Kd ≤ 6 := by rw [hKd]; exact (Cp.dRun_le 6 _).1
                have HNUM := Lib.hid hnum
                have hnext := Cp.rst_step HST.out HXE.out.symm
                rw [← hP, ← hKd, ← hNd, if_neg (by decide)] at hnext
                have HNEXT := Lib.hid hnext
                obtain ⟨okb, hokb⟩ : ∃ okb, okb = decide (0 < Kd) := ⟨_, rfl⟩
                rw [← hokb] at HNUM HNEXT
                obtain ⟨PK, hPK⟩ : ∃ PK, PK = P + Kd := ⟨_, rfl⟩
                rw [← hPK] at HNUM HNEXT
                have hlay := HX5.out.lay (x := 67) (by unfold Cp.letter; simp) Nd
                have HLAY := Lib.hid hlay
                obtain ⟨q0, q1, q2, q3, q4, qz⟩ := blk5 HX5.out.box
                clear hsx hP hKd hNd e1 e2 hnum hnext hokb hPK hlay
                go_wp2_with (go_at_call 25; refine HNUM.out.mono ?_; rintro e w5 ⟨rfl, rfl⟩)
                go_roundg (F.length - (k + 1))
                case measure => have := HGK.out; omega
                case rel => exact ⟨k + 1, PK, okb, _, hkl, rfl, HNEXT.out, rfl, rfl, by go_num, HLAY.out⟩
              · have hx8 : (sF[k]'hkS).toNat = 73 := by rw [hsx]; rfl
                have hlg : ∀ h : p + 1 < s.size, l[p + 1]? = some (s[p + 1]'h) := fun h => by
                  rw [HL.out, List.getElem?_eq_getElem (by rw [Array.length_toList]; exact h)]
                  rfl
                clear hsx
                by_cases hin : p + 1 < s.size
                · obtain ⟨cc, hcc⟩ : ∃ cc : UInt8, cc = s[p + 1] := ⟨_, rfl⟩
                  have hl1 := hlg hin
                  rw [← hcc] at hl1
                  have hs1 : s[p + 1].toNat = cc.toNat := by rw [hcc]
                  by_cases h45 : cc = 45
                  · subst h45
                    have hs2 : s[p + 1].toNat = 45 := hs1
                    clear hs1 hcc hlg
                    obtain ⟨P, hP⟩ : ∃ P, P = Cp.rFrom l p 73 := ⟨_, rfl⟩
                    obtain ⟨Kd, hKd⟩ : ∃ Kd, Kd = Cp.rK l p 73 := ⟨_, rfl⟩
                    obtain ⟨Nd, hNd⟩ : ∃ Nd, Nd = Cp.rN l p 73 := ⟨_, rfl⟩
                    have hra : Cp.rAt l p 73 = p + 2 := by unfold Cp.rAt; rw [if_pos rfl, if_pos hl1]
                    have hrs : Cp.rSg l p 73 = (-1) := by unfold Cp.rSg; rw [if_pos rfl, if_pos hl1]
                    have hmin : min ((p : Int) + 1 + 1) (s.size : Int) = (P : Int) := by
                      rw [hP]
                      unfold Cp.rFrom
                      rw [hra, HLL.out]
                      omega
                    have hPs : P ≤ s.size := by omega
                    have hnum := number_any s hs P hPs wr
                    rw [← HL.out] at hnum
                    have e1 : Cp.dRun 6 (l.drop P) = Kd := by rw [hKd, hP]; rfl
                    rw [e1] at hnum
                    have e2 : Cp.dVal (l.drop P) Kd = Nd := by rw [hNd, hKd, hP]; rfl
                    rw [e2] at hnum
                    have hK6 : Kd ≤ 6 := by rw [hKd]; exact (Cp.dRun_le 6 _).1
                    have hN6 : Nd ≤ 999999 := by rw [hNd]; exact Cp.rN_le _ _ _
                    have HNUM := Lib.hid hnum
                    have hnext := Cp.rst_step HST.out HXE.out.symm
                    rw [← hP, ← hKd, ← hNd, if_pos rfl, hrs] at hnext
                    have HNEXT := Lib.hid hnext
                    obtain ⟨okb, hokb⟩ : ∃ okb, okb = decide (0 < Kd) := ⟨_, rfl⟩
                    rw [← hokb] at HNUM HNEXT
                    obtain ⟨PK, hPK⟩ : ∃ PK, PK = P + Kd := ⟨_, rfl⟩
                    rw [← hPK] at HNUM HNEXT
                    have hlay := HX5.out.lay (x := 73) (by unfold Cp.letter; simp) ((-1) * (Nd : Int))
                    have HLAY := Lib.hid hlay
                    obtain ⟨q0, q1, q2, q3, q4, qz⟩ := blk5 HX5.out.box
                    have hmul : IntKind.i64.wrap ((-1) * (Nd : Int)) = (-1) * (Nd : Int) := IntWalk.i64_in _ (by omega)
                    clear hP hKd hNd e1 e2 hnum hnext hokb hPK hlay hra hrs hl1
                    go_wp2_with (go_at_call 25; refine HNUM.out.mono ?_; rintro e w5 ⟨rfl, rfl⟩)
                    go_roundg (F.length - (k + 1))
                    case measure => have := HGK.out; omega
                    case rel =>
                      refine ⟨k + 1, PK, okb, _, hkl, rfl, HNEXT.out, rfl, rfl, by go_num, ?_⟩
                      have h9 := HLAY.out
                      rw [show (-1 : Int) * (Nd : Int) = -(Nd : Int) by omega] at h9 ⊢
                      exact h9
                  · have hne : ¬ l[p + 1]? = some 45 := fun e => h45 (Option.some.inj (hl1.symm.trans e))
                    obtain ⟨d, hd⟩ : ∃ d : Nat, d = cc.toNat := ⟨_, rfl⟩
                    have hs2 : s[p + 1].toNat = d := by rw [hs1, hd]
                    have hd45 : ¬ d = 45 := fun e => h45 (UInt8.toNat_inj.1 (by rw [← hd, e]; rfl))
                    have hd46 : ((d : Int) == 45) = false := by rw [beq_eq_false_iff_ne]; omega
                    clear hs1 hcc hlg hl1 h45 hd
                    obtain ⟨P, hP⟩ : ∃ P, P = Cp.rFrom l p 73 := ⟨_, rfl⟩
                    obtain ⟨Kd, hKd⟩ : ∃ Kd, Kd = Cp.rK l p 73 := ⟨_, rfl⟩
                    obtain ⟨Nd, hNd⟩ : ∃ Nd, Nd = Cp.rN l p 73 := ⟨_, rfl⟩
                    have hra : Cp.rAt l p 73 = p + 1 := by unfold Cp.rAt; rw [if_pos rfl, if_neg hne]
                    have hrs : Cp.rSg l p 73 = 1 := by unfold Cp.rSg; rw [if_pos rfl, if_neg hne]
                    have hmin : min ((p : Int) + 1) (s.size : Int) = (P : Int) := by
                      rw [hP]
                      unfold Cp.rFrom
                      rw [hra, HLL.out]
                      omega
                    have hPs : P ≤ s.size := by omega
                    have hnum := number_any s hs P hPs wr
                    rw [← HL.out] at hnum
                    have e1 : Cp.dRun 6 (l.drop P) = Kd := by rw [hKd, hP]; rfl
                    rw [e1] at hnum
                    have e2 : Cp.dVal (l.drop P) Kd = Nd := by rw [hNd, hKd, hP]; rfl
                    rw [e2] at hnum
                    have hK6 : Kd ≤ 6 := by rw [hKd]; exact (Cp.dRun_le 6 _).1
                    have hN6 : Nd ≤ 999999 := by rw [hNd]; exact Cp.rN_le _ _ _
                    have HNUM := Lib.hid hnum
                    have hnext := Cp.rst_step HST.out HXE.out.symm
                    rw [← hP, ← hKd, ← hNd, if_pos rfl, hrs] at hnext
                    have HNEXT := Lib.hid hnext
                    obtain ⟨okb, hokb⟩ : ∃ okb, okb = decide (0 < Kd) := ⟨_, rfl⟩
                    rw [← hokb] at HNUM HNEXT
                    obtain ⟨PK, hPK⟩ : ∃ PK, PK = P + Kd := ⟨_, rfl⟩
                    rw [← hPK] at HNUM HNEXT
                    have hlay := HX5.out.lay (x := 73) (by unfold Cp.letter; simp) (1 * (Nd : Int))
                    have HLAY := Lib.hid hlay
                    obtain ⟨q0, q1, q2, q3, q4, qz⟩ := blk5 HX5.out.box
                    have hmul : IntKind.i64.wrap (1 * (Nd : Int)) = 1 * (Nd : Int) := IntWalk.i64_in _ (by omega)
                    clear hP hKd hNd e1 e2 hnum hnext hokb hPK hlay hra hrs hne hd45
                    go_wp2_with (go_at_call 25; refine HNUM.out.mono ?_; rintro e w5 ⟨rfl, rfl⟩)
                    go_roundg (F.length - (k + 1))
                    case measure => have := HGK.out; omega
                    case rel =>
                      refine ⟨k + 1, PK, okb, _, hkl, rfl, HNEXT.out, rfl, rfl, by go_num, ?_⟩
                      have h9 := HLAY.out
                      rw [show (1 : Int) * (Nd : Int) = (Nd : Int) by omega] at h9 ⊢
                      exact h9
                · have hne : ¬ l[p + 1]? = some 45 := fun e => by
                    have := (List.getElem?_eq_some_iff.1 e).1
                    have := HLL.out
                    omega
                  have hge : s.size ≤ p + 1 := by omega
                  clear hlg
                  obtain ⟨P, hP⟩ : ∃ P, P = Cp.rFrom l p 73 := ⟨_, rfl⟩
                  obtain ⟨Kd, hKd⟩ : ∃ Kd, Kd = Cp.rK l p 73 := ⟨_, rfl⟩
                  obtain ⟨Nd, hNd⟩ : ∃ Nd, Nd = Cp.rN l p 73 := ⟨_, rfl⟩
                  have hra : Cp.rAt l p 73 = p + 1 := by unfold Cp.rAt; rw [if_pos rfl, if_neg hne]
                  have hrs : Cp.rSg l p 73 = 1 := by unfold Cp.rSg; rw [if_pos rfl, if_neg hne]
                  have hmin : min ((p : Int) + 1) (s.size : Int) = (P : Int) := by
                    rw [hP]
                    unfold Cp.rFrom
                    rw [hra, HLL.out]
                    omega
                  have hPs : P ≤ s.size := by omega
                  have hnum := number_any s hs P hPs wr
                  rw [← HL.out] at hnum
                  have e1 : Cp.dRun 6 (l.drop P) = Kd := by rw [hKd, hP]; rfl
                  rw [e1] at hnum
                  have e2 : Cp.dVal (l.drop P) Kd = Nd := by rw [hNd, hKd, hP]; rfl
                  rw [e2] at hnum
                  have hK6 : Kd ≤ 6 := by rw [hKd]; exact (Cp.dRun_le 6 _).1
                  have hN6 : Nd ≤ 999999 := by rw [hNd]; exact Cp.rN_le _ _ _
                  have HNUM := Lib.hid hnum
                  have hnext := Cp.rst_step HST.out HXE.out.symm
                  rw [← hP, ← hKd, ← hNd, if_pos rfl, hrs] at hnext
                  have HNEXT := Lib.hid hnext
                  obtain ⟨okb, hokb⟩ : ∃ okb, okb = decide (0 < Kd) := ⟨_, rfl⟩
                  rw [← hokb] at HNUM HNEXT
                  obtain ⟨PK, hPK⟩ : ∃ PK, PK = P + Kd := ⟨_, rfl⟩
                  rw [← hPK] at HNUM HNEXT
                  have hlay := HX5.out.lay (x := 73) (by unfold Cp.letter; simp) (1 * (Nd : Int))
                  have HLAY := Lib.hid hlay
                  obtain ⟨q0, q1, q2, q3, q4, qz⟩ := blk5 HX5.out.box
                  have hmul : IntKind.i64.wrap (1 * (Nd : Int)) = 1 * (Nd : Int) := IntWalk.i64_in _ (by omega)
                  clear hP hKd hNd e1 e2 hnum hnext hokb hPK hlay hra hrs hne
                  go_wp2_with (go_at_call 25; refine HNUM.out.mono ?_; rintro e w5 ⟨rfl, rfl⟩)
                  go_roundg (F.length - (k + 1))
                  case measure => have := HGK.out; omega
                  case rel =>
                    refine ⟨k + 1, PK, okb, _, hkl, rfl, HNEXT.out, rfl, rfl, by go_num, ?_⟩
                    have h9 := HLAY.out
                    rw [show (1 : Int) * (Nd : Int) = (Nd : Int) by omega] at h9 ⊢
                    exact h9
            · have hTells : ∀ a b c i, Cp.Tells l op a b c i → o = true ∧ Cp.mayE op t.1 t.2.1 t.2.2.1 t.2.2.2 = 0 ∧ Cp.textT op t.1 t.2.1 t.2.2.1 t.2.2.2 = l := fun a b c i h => by
                have h1 := Cp.rst_ok h k (by rw [← HFF.out]; exact hk)
                have h2 := Cp.rst_full h
                rw [← HNM.out, ← HFF.out, HST.out] at h1
                simp only at h1
                have h3 : k = F.length := by
                  apply Decidable.byContradiction
                  intro hne
                  exact hgo ⟨by omega, h1⟩
                rw [← HNM.out, ← HFF.out, ← h3, HST.out] at h2
                simp only at h2
                subst h2
                exact ⟨h1, h⟩
              have HTL := Lib.hid hTells
              obtain ⟨a, b, c, i⟩ := t
              simp only at HTL
              have HTX := Lib.hid (rtext_any op a b c i wr)
              obtain ⟨E, hE⟩ : ∃ E, E = Cp.mayE op a b c i := ⟨_, rfl⟩
              obtain ⟨S, hS⟩ : ∃ S, S = str (Cp.textT op a b c i) := ⟨_, rfl⟩
              rw [← hE, ← hS] at HTX
              have HEE := Lib.hid hE
              have HSS := Lib.hid hS
              obtain ⟨q0, q1, q2, q3, q4, qz⟩ := blk5 HX5.out.box
              simp only at q1 q2 q3 q4
              clear hE hS
              by_cases hkl : k < F.length
              · obtain rfl : o = false := by
                  cases o
                  · rfl
                  · exact absurd ⟨hkl, rfl⟩ hgo
                clear hgo hTells
                go_wp2_with fail
                refine HTX.out.mono ?_
                rintro e w5 ⟨rfl, hb⟩
                have HX6 := Lib.hid (HX5.out.go hb)
                clear hb q0 q1 q2 q3 q4 qz x0 x1 x2
                have HNT : Hid (∀ a b c i, ¬ Cp.Tells l op a b c i) := Lib.hid (fun a' b' c' i' h => by
                  obtain ⟨g1, g2, g3⟩ := HTL.out _ _ _ _ h
                  cases g1)
                go_wp2_with fail
                go_roundg (25 - (ix + 1))
                case measure => have := HG.out; omega
                case rel => exact HNX.out _ HX6.out.rr HNT.out
              · clear hgo hTells
                go_wp2_with fail
                refine HTX.out.mono ?_
                rintro e w5 ⟨rfl, hb⟩
                have HX6 := Lib.hid (HX5.out.go hb)
                clear hb q0 q1 q2 q3 q4 qz x0 x1 x2
                cases o
                · have HNT : Hid (∀ a b c i, ¬ Cp.Tells l op a b c i) := Lib.hid (fun a' b' c' i' h => by
                    obtain ⟨g1, g2, g3⟩ := HTL.out _ _ _ _ h
                    cases g1)
                  go_wp2_with fail
                  go_roundg (25 - (ix + 1))
                  case measure => have := HG.out; omega
                  case rel => exact HNX.out _ HX6.out.rr HNT.out
                · by_cases hE0 : E = 0
                  · subst hE0
                    by_cases hS0 : (S.toList == s.toList) = true
                    · have HTELL : Hid (Cp.Tells l op a b c i) := Lib.hid (by
                        refine ⟨HEE.out.symm, ?_⟩
                        rw [beq_iff_eq, ByteArray.toList_eq, ByteArray.toList_eq, HSS.out, ← HL.out] at hS0
                        exact hS0)
                      obtain ⟨q0, q1, q2, q3, q4, qz⟩ := blk5 HX6.out.box
                      obtain ⟨r0, r1, r2, r3, r4, rz⟩ := blk5 HX6.out.rr.res
                      simp only at q1 q2 q3 q4
                      go_wp2_with fail
                      refine bodyPost_ret (v := .tuple #[.agg #[.int .i64 op, .int .i64 a, .int .i64 b, .int .i64 c, .int .i64 i], .int .i64 0]) (by simp [results, Tryd.results11, go_sem, r0, r1, r2, r3, r4]) rfl ⟨.inl ⟨_, a, b, c, i, HTELL.out, rfl⟩, ?_⟩
                      clear r0 r1 r2 r3 r4 rz q0 q1 q2 q3 q4 qz
                      have hB := HX6.out.rr.below
                      exact ((((hB.setCell (Nat.le_refl _) _).setCell (Nat.le_refl _) _).setCell (Nat.le_refl _) _).setCell (Nat.le_refl _) _).setCell (Nat.le_refl _) _
                    · have hS1 : (S.toList == s.toList) = false := by simpa using hS0
                      clear hS0
                      have HNT : Hid (∀ a b c i, ¬ Cp.Tells l op a b c i) := Lib.hid (fun a' b' c' i' h => by
                        obtain ⟨g1, g2, g3⟩ := HTL.out _ _ _ _ h
                        rw [HSS.out, ByteArray.toList_eq, ByteArray.toList_eq, g3, HL.out] at hS1
                        have h9 : (str s.data.toList).data.toList = s.data.toList := rfl
                        rw [h9, beq_self_eq_true] at hS1
                        cases hS1)
                      go_wp2_with fail
                      go_roundg (25 - (ix + 1))
                      case measure => have := HG.out; omega
                      case rel => exact HNX.out _ HX6.out.rr HNT.out
                  · have hE1 : (E == 0) = false := beq_eq_false_iff_ne.2 hE0
                    have HNT : Hid (∀ a b c i, ¬ Cp.Tells l op a b c i) := Lib.hid (fun a' b' c' i' h => by
                      obtain ⟨g1, g2, g3⟩ := HTL.out _ _ _ _ h
                      exact hE0 (by rw [HEE.out]; exact g2))
                    clear hE0
                    go_wp2_with fail
                    go_roundg (25 - (ix + 1))
                    case measure => have := HG.out; omega
                    case rel => exact HNX.out _ HX6.out.rr HNT.out
        · have HNT : Hid (∀ a b c i, ¬ Cp.Tells l op a b c i) := Lib.hid (fun a b c i h => by
            obtain ⟨g1, g2⟩ := Cp.tells_name h
            rw [← HNM.out] at g1 g2
            have h1 := HT1.out
            have h2 := HLL.out
            have h3 := HZN.out
            rw [decide_eq_false (by omega), Bool.false_or, Lib.extract_toList, ByteArray.toList_eq, ← HL.out, Nat.sub_zero, List.drop_zero, h3, g2, HSN.out, str_list, beq_self_eq_true] at h1
            cases h1)
          go_wp2_with fail
          go_roundg (25 - (ix + 1))
          case measure => have := HG.out; omega
          case rel => exact HNX.out _ HX4.out.rr HNT.out
    · obtain rfl : ix = 25 := by omega
      have HNT : Hid (∀ o a b c i, ¬ Cp.Tells l o a b c i) := Lib.hid (fun o a b c i h => by
        obtain ⟨j, hj, e⟩ := Cp.opAt_of (Cp.found h).1
        exact HNO.out o a b c i h j hj e)
      obtain ⟨r0, r1, r2, r3, r4, rz⟩ := blk5 HR.out.res
      go_wp2_with fail
      refine bodyPost_ret (v := .tuple #[.agg #[.int .i64 0, .int .i64 0, .int .i64 0, .int .i64 0, .int .i64 0], .int .i64 2]) (by simp [results, Tryd.results11, go_sem, r0, r1, r2, r3, r4]) rfl ⟨.inr ⟨HNT.out, rfl⟩, ?_⟩
      clear r0 r1 r2 r3 r4 rz
      have hB := HR.out.below
      exact ((((hB.setCell (Nat.le_refl _) _).setCell (Nat.le_refl _) _).setCell (Nat.le_refl _) _).setCell (Nat.le_refl _) _).setCell (Nat.le_refl _) _

end Go.Proofs.YthnehhidlaggeaaDoor
