/- code.Read: the walk. -/
import Derived.Test.YthnehhidlaggeaaDoorText
import Derived.Test.YthnehhidlaggeaaDoorReadPlain
import Derived.Deep.DeepCutAuto
import Derived.Deep.CutBlock
import Derived.BigQuiet
import Derived.Deep.QuietTactic
namespace Go.Proofs.YthnehhidlaggeaaDoor
set_option linter.unusedVariables false
set_option linter.unusedSimpArgs false
open Go.RowKit

theorem lt_of_cell {w : World} {p : Addr} {v : Value} (h : w.cell? p = some v) : p.block < w.heap.size := by
  apply Decidable.byContradiction
  intro hn
  have : w.heap[p.block]? = none := by simp; omega
  simp [World.cell?, this] at h
theorem bytesWorld_below (w : World) (s : ByteArray) {B : Nat} (hB : B ≤ w.heap.size) : Below B w (Lib.bytesWorld w 5 s) :=
  ⟨rfl, rfl, rfl, by rw [Lib.bytesWorld_size]; omega, fun k hk => Lib.bytesWorld_at_old _ _ _ k (by omega)⟩
theorem atoi_ok (s : ByteArray) (hs : s.size ≤ 281474976710656) (v : Int) (h : Lib.atoiAll s.data.toList = .ok v) (w : World) :
    Calls Tryd.prog 22 #[.string s] w fun e w' => e = .returned (.tuple #[.int .i64 v, .nilIface]) ∧ Below w.heap.size w w' := by
  refine (Tryd.strconv_Atoi_ok s (by omega) v h w).mono ?_
  rintro e w' ⟨rfl, rfl | ⟨t, rfl⟩⟩
  · exact ⟨rfl, Below.refl _ _⟩
  · exact ⟨rfl, bytesWorld_below _ _ (Nat.le_refl _)⟩
theorem atoi_no (s : ByteArray) (hs : s.size ≤ 281474976710656) (h : ∀ v, Lib.atoiAll s.data.toList ≠ .ok v) (t0 t1 : TypeId) (p0 p1 : Value) (w : World) (h0 : w.cell? ⟨0, 0, none⟩ = some (.iface t0 p0)) (h1 : w.cell? ⟨1, 0, none⟩ = some (.iface t1 p1)) :
    Calls Tryd.prog 22 #[.string s] w fun e w' => ∃ v N, e = .returned (.tuple #[.int .i64 v, .iface 87 (.pointer (some ⟨N, 0, none⟩))]) ∧ Below w.heap.size w w' := by
  cases e : Lib.atoiAll s.data.toList with
  | ok v => exact absurd e (h v)
  | «syntax» =>
    refine (Tryd.strconv_Atoi_syntax s hs e _ w h0 (.inr ⟨t0, p0, rfl⟩)).mono ?_
    rintro e w' ⟨N, rfl, _, _, hb⟩
    exact ⟨_, N, rfl, hb⟩
  | range =>
    refine (Tryd.strconv_Atoi_range s hs e _ w h1 (.inr ⟨t1, p1, rfl⟩)).mono ?_
    rintro e w' ⟨N, rfl, _, _, hb⟩
    exact ⟨_, N, rfl, hb⟩
theorem split_any (s : ByteArray) (hs : s.size ≤ 1048576) (m : Int) (w : World) (hm : w.cell? ⟨2, 0, none⟩ = some (.int .i64 m)) :
    Calls Tryd.prog 20 #[.string s, .string ⟨#[32]⟩] w fun e w' => ∃ ws : List ByteArray, ws.map (·.data.toList) = Lib.split s.data.toList [32] ∧ 0 < ws.length ∧ ws.length ≤ 1048577 ∧ e = .returned (.slice (some ⟨w.heap.size, 0, none⟩) ws.length ws.length) ∧ w' = w.alloc (.cells (ws.map Value.string).toArray 9) := by
  have hsz : (1 : Nat) ≤ (⟨#[32]⟩ : ByteArray).size := by decide
  have hc := Lib.countB_le ⟨#[32]⟩ hsz s.size s (Nat.le_refl _)
  refine (Tryd.strings_Split s ⟨#[32]⟩ m w (by omega) hm hsz).mono ?_
  rintro e w' ⟨rfl, rfl⟩
  have hl := Lib.splitB_all ⟨#[32]⟩ hsz 0 _ s rfl
  exact ⟨_, Lib.splitB_data _ _ _ _, by rw [hl]; omega, by rw [hl]; omega, by rw [hl], rfl⟩

/-- what a text's reading tells -/
def ReadTells (l : List UInt8) (e : Ending) : Prop :=
  (∃ op a b c i, Cp.Tells l op a b c i ∧ e = .returned (.tuple #[.agg #[.int .i64 op, .int .i64 a, .int .i64 b, .int .i64 c, .int .i64 i], .int .i64 0])) ∨
  ((∀ op a b c i, ¬ Cp.Tells l op a b c i) ∧ e = .returned (.tuple #[.agg #[.int .i64 0, .int .i64 0, .int .i64 0, .int .i64 0, .int .i64 0], .int .i64 2]))

def zeros : Array Value := #[.int .i64 0, .int .i64 0, .int .i64 0, .int .i64 0, .int .i64 0]
/-- what is there at each op -/
structure RdAt (B : Nat) (ws : List ByteArray) (W0 w : World) : Prop where
  hB : B = W0.heap.size
  res : w.heap[B]? = some (.cells zeros 23 (0, 0))
  words : w.heap[B + 1]? = some (.cells (ws.map Value.string).toArray 9 (0, 0))
  below : Below B W0 w
theorem RdAt.size {B : Nat} {ws : List ByteArray} {W0 w : World} (h : RdAt B ws W0 w) : B + 1 < w.heap.size := lt_of_block h.words
theorem RdAt.keep {B : Nat} {ws : List ByteArray} {W0 w w2 : World} (h : RdAt B ws W0 w) (hb : Below (B + 2) w w2) : RdAt B ws W0 w2 :=
  ⟨h.hB, (hb.block _ (by omega)).trans h.res, (hb.block _ (by omega)).trans h.words, h.below.trans (hb.mono (by omega))⟩
theorem RdAt.go {B : Nat} {ws : List ByteArray} {W0 w w2 : World} (h : RdAt B ws W0 w) (hb : Below w.heap.size w w2) : RdAt B ws W0 w2 := h.keep (hb.mono (by have := h.size; omega))

/-- what is there at each field -/
structure InAt (B J K : Nat) (ws : List ByteArray) (cF : Array Value) (sF : ByteArray) (op : Int) (W0 w : World) (t : Int × Int × Int × Int) (k : Nat) : Prop where
  rd : RdAt B ws W0 w
  hJ : B + 1 < J
  hK : J < K
  form : w.heap[J]? = some (.cells cF 37 (0, 0))
  box : w.heap[K]? = some (.cells #[.int .i64 op, .int .i64 t.1, .int .i64 t.2.1, .int .i64 t.2.2.1, .int .i64 t.2.2.2] 23 (0, 0))
  it : w.heap[K + 1]? = some (.stringIter sF k)
section
variable {B J K : Nat} {ws : List ByteArray} {cF : Array Value} {sF : ByteArray} {op : Int} {W0 w : World} {t : Int × Int × Int × Int} {k : Nat}
theorem InAt.size (h : InAt B J K ws cF sF op W0 w t k) : K + 1 < w.heap.size := lt_of_block h.it
theorem InAt.iter (h : InAt B J K ws cF sF op W0 w t k) (k' : Nat) : InAt B J K ws cF sF op W0 (w.iterAt (K + 1) sF k') t k' := by
  have h1 := h.hJ
  have h2 := h.hK
  refine ⟨h.rd.keep (Lib.below_iterAt (Below.refl _ _) (by omega) _ _), h1, h2, ?_, ?_, Lib.iterAt_heap _ _ _ _ _ h.it⟩
  · rw [Lib.iterAt_other _ _ _ _ _ (by omega)]; exact h.form
  · rw [Lib.iterAt_other _ _ _ _ _ (by omega)]; exact h.box
theorem InAt.go {w2 : World} (h : InAt B J K ws cF sF op W0 w t k) (hb : Below w.heap.size w w2) : InAt B J K ws cF sF op W0 w2 t k := by
  have h1 := h.hJ
  have h2 := h.hK
  have h3 := h.size
  exact ⟨h.rd.go hb, h1, h2, (hb.block _ (by omega)).trans h.form, (hb.block _ (by omega)).trans h.box, (hb.block _ h3).trans h.it⟩
theorem InAt.lay (h : InAt B J K ws cF sF op W0 w t k) {x : UInt8} (hx : Cp.letter x) (v : Int) : InAt B J K ws cF sF op W0 (w.setCell ⟨K, cellNo x, none⟩ (.int .i64 v)) (Cp.setF t x v) k := by
  have h1 := h.hJ
  have h2 := h.hK
  refine ⟨h.rd.keep ((Below.refl _ _).setCell (by show B + 2 ≤ K; omega) _), h1, h2, ?_, ?_, ?_⟩
  · rw [heap_setCell_other _ _ _ _ (by show J ≠ K; omega)]; exact h.form
  · rw [heap_setCell_same w K _ _ _ _ h.box]
    unfold Cp.letter at hx
    rcases hx with rfl | rfl | rfl | rfl <;> rfl
  · rw [heap_setCell_other _ _ _ _ (by show K + 1 ≠ K; omega)]; exact h.it
end

set_option maxRecDepth 100000 in
set_option maxHeartbeats 4000000 in
theorem read_any (s : ByteArray) (hs : s.size ≤ 1048576) (m : Int) (t0 t1 : TypeId) (p0 p1 : Value) (w : World) (h0 : w.cell? ⟨0, 0, none⟩ = some (.iface t0 p0)) (h1 : w.cell? ⟨1, 0, none⟩ = some (.iface t1 p1)) (hm : w.cell? ⟨2, 0, none⟩ = some (.int .i64 m))
    (htab : Lib.TabIs Tryd.prog w "internal/strconv.uint64pow10" .u64 Lib.pow10Tab) :
    Calls Tryd.prog 10 #[.string s] w fun e w' => ReadTells s.data.toList e ∧ Below w.heap.size w w' := by
  have HT := Lib.hid (Lib.tabBelow_of_tabIs htab)
  have H0 := Lib.hid h0
  have H1 := Lib.hid h1
  obtain ⟨l, hl⟩ : ∃ l, l = s.data.toList := ⟨_, rfl⟩
  have hm' : (w.alloc (.cells zeros 23)).cell? ⟨2, 0, none⟩ = some (.int .i64 m) := (((Below.refl w.heap.size w).alloc (Nat.le_refl _) _).cell (p := ⟨2, 0, none⟩) (lt_of_cell hm)).trans hm
  have HSP := Lib.hid (split_any s hs m _ hm')
  rw [← hl] at HSP ⊢
  have HL := Lib.hid hl
  clear h0 h1 hm hm' htab hl
  unfold zeros at HSP
  go_enter Tryd.func10, Tryd.ntmps10
  go_wp2_with fail
  refine HSP.out.mono ?_
  rintro e w1 ⟨ws, hws, hp, hp2, rfl, rfl⟩
  have hR : RdAt w.heap.size ws w ((w.alloc (.cells zeros 23)).alloc (.cells (ws.map Value.string).toArray 9)) := by
    refine ⟨rfl, ?_, heap_alloc_new2 w _ _, ((Below.refl _ _).alloc (Nat.le_refl _) _).alloc (by simp) _⟩
    rw [Below.heap_alloc _ _ _ (by simp)]
    exact heap_alloc_new w _
  have HR := Lib.hid hR
  have HW := Lib.hid hws
  clear hR hws HSP
  obtain ⟨ws0, hws0⟩ : ∃ ws0, ws[0]? = some ws0 := ⟨_, List.getElem?_eq_getElem hp⟩
  have hw0 : ws0.data.toList = (Lib.split l [32]).getD 0 [] := by
    rw [← HW.out, List.getD_eq_getElem?_getD, List.getElem?_map, hws0]
    rfl
  have HWL : Hid (ws.length = (Lib.split l [32]).length) := Lib.hid (by rw [← HW.out, List.length_map])
  have HW0 := Lib.hid hw0
  have HWS0 := Lib.hid hws0
  obtain ⟨n, hn⟩ : ∃ n, n = ws.length := ⟨_, rfl⟩
  rw [← hn] at hp hp2 HWL ⊢
  have HN := Lib.hid hn
  clear hw0 hws0 hn
  go_wp2_with fail
  go_loopg [17] 64 (fun gk vop wr => ∃ op : Nat, op ≤ 64 ∧ gk = 64 - op ∧ vop = .int .i64 op ∧ RdAt w.heap.size ws w wr ∧ (∀ o a b c i, Cp.Tells l o a b c i → (op : Int) ≤ o))
  case atStart => exact ⟨0, by omega, rfl, rfl, HR.out, fun o a b c i h => by
    have := Cp.ok_bounds o a b c i h.1
    omega⟩
  case round =>
    clear HR
    obtain ⟨op, hop, hg, rfl, hR, hno⟩ := hrel
    have HG := Lib.hid hg
    have HR := Lib.hid hR
    have HNO := Lib.hid hno
    clear hg hR hno
    by_cases hlt : op < 64
    · have HO := Lib.hid (fun w => of_any (op : Int) w (by omega) (by omega))
      have HNX : Hid (∀ wx, RdAt w.heap.size ws w wx → (∀ a b c i, ¬ Cp.Tells l op a b c i) → ∃ op' : Nat, op' ≤ 64 ∧ 64 - (op + 1) = 64 - op' ∧ Value.int .i64 ((op : Int) + 1) = .int .i64 op' ∧ RdAt w.heap.size ws w wx ∧ (∀ o a b c i, Cp.Tells l o a b c i → (op' : Int) ≤ o)) :=
        Lib.hid (fun wx hx hn => ⟨op + 1, hlt, rfl, by go_num, hx, fun o a b c i h => by
          have h1 := HNO.out o a b c i h
          have h2 : o ≠ op := fun e => hn a b c i (e ▸ h)
          omega⟩)
      rcases hf : Cp.find op with _ | ⟨nm, F, sg⟩
      · have hv : Cp.formV op = .agg #[.string ⟨#[]⟩, .string ⟨#[]⟩, .int .i64 0, .int .i64 0] := by unfold Cp.formV; rw [hf]
        rw [hv, hf] at HO
        have HNT : Hid (∀ a b c i, ¬ Cp.Tells l op a b c i) := Lib.hid (fun a b c i h => by have := (Cp.found h).1; rw [hf] at this; cases this)
        clear hv hf
        go_wp2_with fail
        refine (HO.out _).mono ?_
        rintro e w2 ⟨rfl, hb⟩
        have hR2 := HR.out.go hb
        have hR3 : RdAt w.heap.size ws w (w2.alloc (.cells #[.string ⟨#[]⟩, .string ⟨#[]⟩, .int .i64 0, .int .i64 0] 37)) := hR2.go ((Below.refl _ _).alloc (Nat.le_refl _) _)
        have HR3 := Lib.hid hR3
        clear hb hR2 hR3
        go_wp2_with fail
        go_quiet (fail)
        go_wp2_with fail
        go_roundg (64 - (op + 1))
        case measure => have := HG.out; omega
        case rel => exact HNX.out _ (HR3.out.keep (below_drewN (Below.refl _ _) _)) HNT.out
      · have hro : Cp.rowOf op = (nm, F, sg) := by unfold Cp.rowOf; rw [hf]; rfl
        have hv : Cp.formV op = .agg #[.string (str nm), .string (str F), .int .i64 (Cp.loOf sg), .int .i64 (Cp.hiOf sg)] := by unfold Cp.formV; rw [hf]; rfl
        rw [hv, hf] at HO
        have hlet : (∀ x ∈ F, Cp.letter x) ∧ F.length ≤ 3 := by have := Cp.row_letters op; rw [hro] at this; exact ⟨this.1, this.2.1⟩
        obtain ⟨hlet, hF3⟩ := hlet
        obtain ⟨sF, hsF⟩ : ∃ sF, sF = str F := ⟨_, rfl⟩
        have hsz : sF.size = F.length := by rw [hsF, str_size]
        have hget : ∀ k (h : k < sF.size), sF[k] = F.getD k 0 := fun k h => by
          subst hsF
          have hk : k < F.length := by rw [str_size] at h; exact h
          rw [List.getD_eq_getElem?_getD, List.getElem?_eq_getElem hk, Option.getD_some]
          rfl
        rw [← hsF] at HO
        obtain ⟨lo, hlo⟩ : ∃ lo, lo = Cp.loOf sg := ⟨_, rfl⟩
        obtain ⟨hi, hhi⟩ : ∃ hi, hi = Cp.hiOf sg := ⟨_, rfl⟩
        rw [← hlo, ← hhi] at HO
        have HLET := Lib.hid hlet
        have HSZ := Lib.hid hsz
        have HGET := Lib.hid hget
        have HRO := Lib.hid hro
        have HSOME : Hid ((Cp.find (op : Int)).isSome) := Lib.hid (by rw [hf]; rfl)
        clear hv hf hro hlet hsF hsz hget hlo hhi
        go_wp2_with fail
        refine (HO.out _).mono ?_
        rintro e w2 ⟨rfl, hb⟩
        have hR2 := HR.out.go hb
        have hR3 : RdAt w.heap.size ws w (w2.alloc (.cells #[.string (str nm), .string sF, .int .i64 lo, .int .i64 hi] 37)) := hR2.go ((Below.refl _ _).alloc (Nat.le_refl _) _)
        obtain ⟨J, hJ⟩ : ∃ J, J = w2.heap.size := ⟨_, rfl⟩
        have hform := heap_alloc_new w2 (.cells #[.string (str nm), .string sF, .int .i64 lo, .int .i64 hi] 37)
        rw [← hJ] at hform
        have HJ := Lib.hid hJ
        go_upto_region 6 with fail
        rw [← HJ.out]
        obtain ⟨w3, hw3⟩ : ∃ w3, w3 = w2.alloc (.cells #[.string (str nm), .string sF, .int .i64 lo, .int .i64 hi] 37) := ⟨_, rfl⟩
        rw [← hw3] at hR3 hform ⊢
        have hJ2 : w.heap.size + 1 < J := by have := hR2.size; omega
        have HR3 := Lib.hid hR3
        have HFORM := Lib.hid hform
        clear hw3 hJ HJ hb hR2 hR3 hform HR
        obtain ⟨t, ht⟩ : ∃ t : Bool, t = !((str nm).toList == ws0.toList) := ⟨_, rfl⟩
        obtain ⟨t', ht'⟩ : ∃ t' : Bool, t' = (t || !((n : Int) == 1 + (sF.size : Int))) := ⟨_, rfl⟩
        have HT1 := Lib.hid ht
        have HT2 := Lib.hid ht'
        clear ht ht'
        go_cut [43] from 25 to 43 (fun v43 wx => v43 = .bool t' ∧ ∃ q, wx = w3.drewN q)
        case first =>
          obtain ⟨f0, f1, f2, f3, fz⟩ := blk4 HFORM.out
          have fw : w3.cell? ⟨w.heap.size + 1, 0, none⟩ = some (.string ws0) := by
            rw [cell_of_row w3 _ 0 _ _ _ HR3.out.words]
            simp [HWS0.out]
          cases t
          · have hq : ((str nm).toList == ws0.toList) = true := by have := HT1.out; simpa using this.symm
            go_quiet (fail)
            go_wp2_with fail
            go_meet
            refine ⟨?_, _, rfl⟩
            have hz := HSZ.out
            rw [HT2.out]
            first | rfl | (rw [show wrap64 (1 + (sF.size : Int)) = 1 + sF.size from by unfold wrap64; omega]; rfl)
          · have hq : ((str nm).toList == ws0.toList) = false := by have := HT1.out; simpa using this.symm
            go_quiet (fail)
            go_wp2_with fail
            go_meet
            refine ⟨?_, _, rfl⟩
            have hz := HSZ.out
            rw [HT2.out]
            first | rfl | (rw [show wrap64 (1 + (sF.size : Int)) = 1 + sF.size from by unfold wrap64; omega]; rfl)
        case rest =>
          obtain ⟨rfl, q, rfl⟩ := hcut
          obtain ⟨wx, hq⟩ : ∃ wx, wx = w3.drewN q := ⟨_, rfl⟩
          rw [← hq]
          have HR4 := Lib.hid (HR3.out.keep (w2 := wx) (by rw [hq]; exact below_drewN (Below.refl _ _) _))
          have HFORM4 : Hid (wx.heap[J]? = some (.cells #[.string (str nm), .string sF, .int .i64 lo, .int .i64 hi] 37 (0, 0))) := Lib.hid (by rw [hq]; exact HFORM.out)
          clear hq HR3 HFORM HO
          cases t'
          · have hnm : nm = (Lib.split l [32]).getD 0 [] ∧ (Lib.split l [32]).length = 1 + F.length := by
              have h1 := HT1.out
              have h2 := HT2.out
              have h3 := HSZ.out
              rw [h1] at h2
              simp only [Bool.false_eq, Bool.or_eq_false_iff, Bool.not_eq_false', beq_iff_eq] at h2
              obtain ⟨h4, h5⟩ := h2
              rw [ByteArray.toList_eq, ByteArray.toList_eq, HW0.out] at h4
              exact ⟨h4, by rw [← HWL.out]; omega⟩
            have HN1 : Hid (n = 1 + F.length) := Lib.hid (by rw [HWL.out]; exact hnm.2)
            have HNM := Lib.hid hnm
            clear hnm HT1 HT2
            obtain ⟨f0, f1, f2, f3, fz⟩ := blk4 HFORM4.out
            have hJx := lt_of_block HFORM4.out
            go_wp2_with fail
            clear f0 f1 f2 f3 fz
            obtain ⟨K, hK⟩ : ∃ K, K = wx.heap.size := ⟨_, rfl⟩
            have hX : InAt w.heap.size J K ws #[.string (str nm), .string sF, .int .i64 lo, .int .i64 hi] sF op w ((wx.alloc (.cells #[.int .i64 op, .int .i64 0, .int .i64 0, .int .i64 0, .int .i64 0] 23)).iter sF 0) (0, 0, 0, 0) 0 := by
              have hb : Below wx.heap.size wx ((wx.alloc (.cells #[.int .i64 op, .int .i64 0, .int .i64 0, .int .i64 0, .int .i64 0] 23)).iter sF 0) := by
                rw [World.iter]
                exact ((Below.refl _ _).alloc (Nat.le_refl _) _).alloc (by simp) _
              subst hK
              refine ⟨HR4.out.go hb, hJ2, hJx, (hb.block _ hJx).trans HFORM4.out, ?_, ?_⟩
              · rw [World.iter, Below.heap_alloc _ _ _ (by simp)]; exact heap_alloc_new _ _
              · rw [World.iter]; exact heap_alloc_new2 wx _ _
            rw [← hK]
            clear hK HR4 HFORM4
            go_loopg [] F.length (fun gk wr => ∃ k, k ≤ F.length ∧ gk = F.length - k ∧ InAt w.heap.size J K ws #[.string (str nm), .string sF, .int .i64 lo, .int .i64 hi] sF op w wr (Cp.stAt F (fun j => Cp.val (Cp.wordN (Lib.split l [32]) j)) k) k ∧ (∀ j, j < k → ∃ v, Cp.wordN (Lib.split l [32]) j = .ok v))
            case atStart => exact ⟨0, by omega, rfl, hX, fun j hj => by omega⟩
            case round =>
              clear hX
              obtain ⟨k, hk, hg, hX, hok⟩ := hrel
              have HGI := Lib.hid hg
              have HOK := Lib.hid hok
              clear hg hok
              by_cases hkl : k < F.length
              · have hkn : 1 + k < n := by rw [HN1.out]; omega
                have hkS : k < sF.size := by rw [HSZ.out]; exact hkl
                obtain ⟨x, hxe⟩ : ∃ x, x = F.getD k 0 := ⟨_, rfl⟩
                have hxk : x = F[k] := by rw [hxe, List.getD_eq_getElem?_getD, List.getElem?_eq_getElem hkl, Option.getD_some]
                have hx : Cp.letter x := HLET.out x (by rw [hxk]; exact List.getElem_mem hkl)
                have hsx : sF[k] = x := by rw [HGET.out k hkS, hxe]
                have h128 : x.toNat < 128 := by unfold Cp.letter at hx; rcases hx with rfl | rfl | rfl | rfl <;> decide
                have hn := Lib.run_next_ascii_at (P := Tryd.prog) _ (K + 1) sF k 0 hX.it hkS (by rw [hsx]; exact h128)
                rw [hsx] at hn
                have hX2 := hX.iter (k + 1)
                obtain ⟨wk, hwk⟩ : ∃ wk, ws[1 + k]? = some wk := ⟨_, List.getElem?_eq_getElem (by rw [← HN.out]; omega)⟩
                have hwd : wk.data.toList = (Lib.split l [32]).getD (1 + k) [] := by
                  rw [← HW.out, List.getD_eq_getElem?_getD, List.getElem?_map, hwk]
                  rfl
                have HWK := Lib.hid hwk
                have HWD := Lib.hid hwd
                obtain ⟨r, hr⟩ : ∃ r : Int, r = x.toNat := ⟨_, rfl⟩
                rw [← hr] at hn
                obtain ⟨wr2, hwr2⟩ : ∃ wr2, wr2 = wr.iterAt (K + 1) sF (k + 1) := ⟨_, rfl⟩
                rw [← hwr2] at hn hX2
                have HX2 := Lib.hid hX2
                have HXE := Lib.hid hxe
                have HR1 := Lib.hid hr
                have fw : wr2.cell? ⟨w.heap.size + 1, 1 + k, none⟩ = some (.string wk) := by
                  rw [cell_of_row wr2 _ _ _ _ _ hX2.rd.words]
                  simp [hwk]
                have hTP := fun w' => Tryd.strings_TrimPrefix wk ⟨#[114]⟩ w'
                obtain ⟨tk, htk⟩ : ∃ tk : ByteArray, tk = ⟨(Lib.trimPrefix wk.data.toList [114]).toArray⟩ := ⟨_, rfl⟩
                have hTP2 : ∀ w', Calls Tryd.prog 23 #[.string wk, .string ⟨#[114]⟩] w' fun e w'' => e = .returned (.string tk) ∧ w' = w'' := fun w' => (hTP w').mono (fun e w'' ⟨h1, h2⟩ => ⟨by rw [h1, htk], h2.symm⟩)
                have HTP := Lib.hid hTP2
                have htn : Lib.atoiAll tk.data.toList = Cp.wordN (Lib.split l [32]) k := by
                  unfold Cp.wordN
                  rw [← HWD.out, htk]
                have htz : tk.size ≤ 281474976710656 := by
                  have h1 : tk.size = (Lib.trimPrefix wk.data.toList [114]).length := by rw [htk]; simp [ByteArray.size]
                  have h2 := Lib.trimPrefix_le wk.data.toList [114]
                  have h3 := Cp.split_le l (1 + k)
                  rw [← HWD.out] at h3
                  have h4 : l.length = s.size := by rw [HL.out, Array.length_toList]; rfl
                  omega
                have HTN := Lib.hid htn
                clear hX hX2 hxk hkS hwk hwd h128 hsx hxe hr hwr2 hTP hTP2 htk htn
                by_cases hbad : ∀ v, Cp.wordN (Lib.split l [32]) k ≠ .ok v
                · have HNT : Hid (∀ o a b c i, ¬ Cp.Tells l o a b c i) := Lib.hid (fun o a b c i h => by
                    obtain ⟨g1, g2, g3, g4⟩ := Cp.found h
                    have e1 : (Cp.rowOf (op : Int)).1 = nm := by rw [HRO.out]
                    have e2 : (op : Int) = o := Cp.name_inj HSOME.out g1 (by rw [e1, ← g2]; exact HNM.out.1)
                    subst e2
                    rw [HRO.out] at g4
                    exact hbad _ (g4 k hkl))
                  have hv0 := (HX2.out.rd.below.cell (p := ⟨0, 0, none⟩) (lt_of_cell H0.out)).trans H0.out
                  have hv1 := (HX2.out.rd.below.cell (p := ⟨1, 0, none⟩) (lt_of_cell H1.out)).trans H1.out
                  have HAT := Lib.hid (atoi_no tk htz (by rw [HTN.out]; exact hbad) t0 t1 p0 p1 wr2 hv0 hv1)
                  clear hbad hv0 hv1
                  go_wp2_with (go_at_call 23; refine (HTP.out _).mono ?_; rintro e w' ⟨rfl, rfl⟩)
                  refine HAT.out.mono ?_
                  rintro e w5 ⟨v, N, rfl, hb⟩
                  have hR5 := HX2.out.rd.go hb
                  obtain ⟨r0, r1, r2, r3, r4, rz⟩ := blk5 hR5.res
                  have HB5 := Lib.hid hR5.below
                  clear hb hR5 fw hn
                  go_wp2_with fail
                  refine bodyPost_ret (v := .tuple #[.agg #[.int .i64 0, .int .i64 0, .int .i64 0, .int .i64 0, .int .i64 0], .int .i64 2]) (by simp [results, Tryd.results10, go_sem, r0, r1, r2, r3, r4]) rfl ⟨.inr ⟨HNT.out, rfl⟩, ?_⟩
                  clear r0 r1 r2 r3 r4 rz
                  have hB := HB5.out
                  exact ((((hB.setCell (Nat.le_refl _) _).setCell (Nat.le_refl _) _).setCell (Nat.le_refl _) _).setCell (Nat.le_refl _) _).setCell (Nat.le_refl _) _
                · obtain ⟨v, hv⟩ : ∃ v, Cp.wordN (Lib.split l [32]) k = .ok v := by
                    apply Classical.byContradiction
                    intro hno
                    exact hbad (fun v hv => hno ⟨v, hv⟩)
                  have HV := Lib.hid hv
                  have HAT := Lib.hid (atoi_ok tk htz v (by rw [HTN.out]; exact hv) wr2)
                  have HX3 := Lib.hid hx
                  have HF := Lib.hid (field_x hx K)
                  rw [← HR1.out] at HF
                  obtain ⟨jx, hjx⟩ : ∃ jx, jx = cellNo x := ⟨_, rfl⟩
                  rw [← hjx] at HF
                  have HJX := Lib.hid hjx
                  clear hbad hv hx hjx
                  go_wp2_with (first
                    | (go_at_call 23; refine (HTP.out _).mono ?_; rintro e w' ⟨rfl, rfl⟩))
                  refine HAT.out.mono ?_
                  rintro e w5 ⟨rfl, hb⟩
                  have hX5 := HX2.out.go hb
                  have HX5 := Lib.hid hX5
                  obtain ⟨y, hy⟩ : ∃ y, w5.cell? ⟨K, jx, none⟩ = some y := by
                    rw [cell_of_row w5 _ _ _ _ _ hX5.box, HJX.out]
                    have := HX3.out
                    unfold Cp.letter at this
                    rcases this with rfl | rfl | rfl | rfl <;> exact ⟨_, rfl⟩
                  have hyz : w5.frozen? ⟨K, jx, none⟩ = false := by simp [World.frozen?, hX5.box]
                  clear hb hX5 fw hn
                  go_wp2_with (go_at_call 16; refine (HF.out _).mono ?_; rintro e w' ⟨rfl, rfl⟩)
                  go_roundg (F.length - (k + 1))
                  case measure => have := HGI.out; omega
                  case rel =>
                    refine ⟨k + 1, hkl, rfl, ?_, fun j hj => ?_⟩
                    · have h5 := HX5.out.lay HX3.out v
                      rw [← HJX.out] at h5
                      have e1 : Cp.stAt F (fun j => Cp.val (Cp.wordN (Lib.split l [32]) j)) (k + 1) = Cp.setF (Cp.stAt F (fun j => Cp.val (Cp.wordN (Lib.split l [32]) j)) k) x v := by
                        rw [Cp.stAt, HV.out, ← HXE.out]
                        rfl
                      rw [e1]
                      exact h5
                    · by_cases hj2 : j < k
                      · exact HOK.out j hj2
                      · obtain rfl : j = k := by omega
                        exact ⟨v, HV.out⟩
              · obtain rfl : k = F.length := by omega
                have hn := Lib.run_next_end_at (P := Tryd.prog) wr (K + 1) _ _ 0 hX.it (by rw [HSZ.out]; omega)
                obtain ⟨t, ht⟩ : ∃ t, t = Cp.stAt F (fun j => Cp.val (Cp.wordN (Lib.split l [32]) j)) F.length := ⟨_, rfl⟩
                rw [← ht] at hX
                obtain ⟨a, b, c, i⟩ := t
                have HTS := Lib.hid ht
                have hTells : ∀ a' b' c' i', Cp.Tells l op a' b' c' i' → Cp.mayE op a b c i = 0 ∧ Cp.textT op a b c i = l := fun a' b' c' i' h => by
                  have h2 := Cp.found_st h
                  rw [HRO.out] at h2
                  have h3 := HTS.out.trans h2
                  simp only [Prod.mk.injEq] at h3
                  obtain ⟨rfl, rfl, rfl, rfl⟩ := h3
                  exact h
                have HTL := Lib.hid hTells
                have HTX := Lib.hid (text_any (op : Int) a b c i wr (by omega) (by omega) (HT.out wr hX.rd.below))
                obtain ⟨q0, q1, q2, q3, q4, qz⟩ := blk5 hX.box
                have HX := Lib.hid hX
                clear hX ht hTells
                obtain ⟨E, hE⟩ : ∃ E, E = Cp.mayE op a b c i := ⟨_, rfl⟩
                obtain ⟨S, hS⟩ : ∃ S, S = str (Cp.textT op a b c i) := ⟨_, rfl⟩
                rw [← hE, ← hS] at HTX
                have HEE := Lib.hid hE
                have HSS := Lib.hid hS
                clear hE hS
                simp only at q1 q2 q3 q4
                go_wp2_with fail
                refine HTX.out.mono ?_
                rintro e w5 ⟨rfl, hb⟩
                have HX5 := Lib.hid (HX.out.go hb)
                clear hb q0 q1 q2 q3 q4 qz hn HX
                by_cases hE0 : E = 0
                · subst hE0
                  by_cases hS0 : (S.toList == s.toList) = true
                  · have HTELL : Hid (Cp.Tells l op a b c i) := Lib.hid (by
                      refine ⟨HEE.out.symm, ?_⟩
                      rw [beq_iff_eq, ByteArray.toList_eq, ByteArray.toList_eq, HSS.out, ← HL.out] at hS0
                      exact hS0)
                    obtain ⟨q0, q1, q2, q3, q4, qz⟩ := blk5 HX5.out.box
                    obtain ⟨r0, r1, r2, r3, r4, rz⟩ := blk5 HX5.out.rd.res
                    simp only at q1 q2 q3 q4
                    go_wp2_with fail
                    refine bodyPost_ret (v := .tuple #[.agg #[.int .i64 op, .int .i64 a, .int .i64 b, .int .i64 c, .int .i64 i], .int .i64 0]) (by simp [results, Tryd.results10, go_sem, r0, r1, r2, r3, r4]) rfl ⟨.inl ⟨_, a, b, c, i, HTELL.out, rfl⟩, ?_⟩
                    clear r0 r1 r2 r3 r4 rz q0 q1 q2 q3 q4 qz
                    have hB := HX5.out.rd.below
                    exact ((((hB.setCell (Nat.le_refl _) _).setCell (Nat.le_refl _) _).setCell (Nat.le_refl _) _).setCell (Nat.le_refl _) _).setCell (Nat.le_refl _) _
                  · have hS1 : (S.toList == s.toList) = false := by simpa using hS0
                    clear hS0
                    have HNT : Hid (∀ a b c i, ¬ Cp.Tells l op a b c i) := Lib.hid (fun a' b' c' i' h => by
                      have h2 := (HTL.out _ _ _ _ h).2
                      rw [HSS.out, ByteArray.toList_eq, ByteArray.toList_eq, h2, HL.out] at hS1
                      have : (str s.data.toList).data.toList = s.data.toList := rfl
                      rw [this, beq_self_eq_true] at hS1
                      cases hS1)
                    go_wp2_with fail
                    go_roundg (64 - (op + 1))
                    case measure => have := HG.out; omega
                    case rel => exact HNX.out _ HX5.out.rd HNT.out
                · have hE1 : (E == 0) = false := beq_eq_false_iff_ne.2 hE0
                  have HNT : Hid (∀ a b c i, ¬ Cp.Tells l op a b c i) := Lib.hid (fun a' b' c' i' h => hE0 (by rw [HEE.out]; exact (HTL.out _ _ _ _ h).1))
                  clear hE0
                  go_wp2_with fail
                  go_roundg (64 - (op + 1))
                  case measure => have := HG.out; omega
                  case rel => exact HNX.out _ HX5.out.rd HNT.out
          · have HNT : Hid (∀ a b c i, ¬ Cp.Tells l op a b c i) := Lib.hid (fun a b c i h => by
              obtain ⟨_, g2, g3, _⟩ := Cp.found h
              rw [HRO.out] at g2 g3
              have h1 := HT1.out
              have h2 := HT2.out
              have h3 := HSZ.out
              have h4 := HWL.out
              have h5 : ((str nm).toList == ws0.toList) = true := by rw [ByteArray.toList_eq, ByteArray.toList_eq, HW0.out, g2]; exact beq_self_eq_true _
              have h6 : ((n : Int) == 1 + (sF.size : Int)) = true := by rw [beq_iff_eq]; simp only at g3; omega
              rw [h1, h5, h6] at h2
              cases h2)
            clear HT1 HT2
            go_wp2_with fail
            go_roundg (64 - (op + 1))
            case measure => have := HG.out; omega
            case rel => exact HNX.out _ HR4.out HNT.out
    · have HNT : Hid (∀ o a b c i, ¬ Cp.Tells l o a b c i) := Lib.hid (fun o a b c i h => by
        have h1 := HNO.out o a b c i h
        have h2 := Cp.ok_bounds o a b c i h.1
        omega)
      obtain ⟨r0, r1, r2, r3, r4, rz⟩ := blk5 HR.out.res
      go_wp2_with fail
      refine bodyPost_ret (v := .tuple #[.agg #[.int .i64 0, .int .i64 0, .int .i64 0, .int .i64 0, .int .i64 0], .int .i64 2]) (by simp [results, Tryd.results10, go_sem, r0, r1, r2, r3, r4]) rfl ⟨.inr ⟨HNT.out, rfl⟩, ?_⟩
      clear r0 r1 r2 r3 r4 rz
      have hB := HR.out.below
      exact ((((hB.setCell (Nat.le_refl _) _).setCell (Nat.le_refl _) _).setCell (Nat.le_refl _) _).setCell (Nat.le_refl _) _).setCell (Nat.le_refl _) _

end Go.Proofs.YthnehhidlaggeaaDoor
