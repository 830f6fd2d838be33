/- code.Text: the walk. -/
import Derived.Test.YthnehhidlaggeaaDoorMay
import Derived.Test.YthnehhidlaggeaaDoorEnc
import Derived.Test.YthnehhidlaggeaaDoorDigits
import Derived.Deep.LoopGhost
import Derived.Lib.OthersKept
import Derived.Lib.AppendIntMem
import Derived.Outline
namespace Go.Proofs.YthnehhidlaggeaaDoor
set_option linter.unusedVariables false
set_option linter.unusedSimpArgs false
open Go.RowKit

theorem cells_one {w : World} {b : Nat} {t : TypeId} {x : Value} (h : w.heap[b]? = some (.cells #[x] t (0, 0))) : ∀ j u, [x][j]? = some u → w.cell? ((⟨b, 0, none⟩ : Addr).add j) = some u := by
  intro j u hj
  rw [add_at, cell_of_row w b j _ _ _ h, ← hj]
  simp
def strV (l : List UInt8) : Value := .string (str l)
theorem str_info : (Tryd.prog.info? 9).map (fun i => (i.zero, i.size, i.bytes)) = some (some (.string ⟨#[]⟩), 1, 16) := by kernel_rfl
theorem grown_of_below {w w2 : World} (hb : Below w.heap.size w w2) (row : Option Nat) : w.grownBy w2 row := ⟨hb.os, hb.tape, hb.output, hb.size, fun k hk _ => hb.block k hk⟩
theorem own_kept {w w2 : World} {B n : Nat} {t : TypeId} {v : Value} {xs : List Value} (h : w.ownsRow B t 1 v n xs) (hb : Below w.heap.size w w2) : w2.ownsRow B t 1 v n xs := h.kept (grown_of_below hb none) (by cases hv : v.ownBlock <;> simp)
theorem own_ne_iter {w : World} {base : Nat} {e : TypeId} {size n : Nat} {v : Value} {xs : List Value} (h : w.ownsRow base e size v n xs) {g : Nat} {s : ByteArray} {p : Nat} (hg : w.heap[g]? = some (.stringIter s p)) : some g ≠ v.ownBlock := by
  rcases h.2 with ⟨rfl, _⟩ | ⟨g', cap, cur, rfl, _, hh, _⟩
  · simp [Value.ownBlock]
  · intro he
    obtain rfl : g = g' := by simpa [Value.ownBlock] using he
    rw [hg] at hh
    cases hh

theorem own_slice {w : World} {base : Nat} {e : TypeId} {size n : Nat} {v : Value} {xs : List Value} (h : w.ownsRow base e size v n xs) (hn : 0 < n) : ∃ g cap, v = .slice (some ⟨g, 0, none⟩) n cap := by
  rcases h.2 with ⟨_, h0⟩ | ⟨g, cap, _, rfl, _⟩
  · omega
  · exact ⟨g, cap, rfl⟩
theorem own_cap {w : World} {base : Nat} {e : TypeId} {size n g cap : Nat} {xs : List Value} (h : w.ownsRow base e size (.slice (some ⟨g, 0, none⟩) n cap) n xs) : n ≤ cap := by
  rcases h.2 with ⟨h', _⟩ | ⟨g', cap', cur, h', _, _, hnc, _⟩
  · simp at h'
  · simp only [Value.slice.injEq, Option.some.injEq, Addr.mk.injEq, and_true, true_and] at h'
    obtain ⟨rfl, rfl⟩ := h'
    exact hnc
/-- where the texts' row, the range and the instruction lie -/
structure TxAt (B J : Nat) (cI cF : Array Value) (F : ByteArray) (W wr : World) (k : Nat) (v : Value) (xs : List (List UInt8)) : Prop where
  lt : B < J
  box : wr.heap[B]? = some (.cells cI 23 (0, 0))
  form : wr.heap[J]? = some (.cells cF 37 (0, 0))
  it : wr.heap[J + 2]? = some (.stringIter F k)
  row : wr.ownsRow (J + 1) 9 1 v xs.length (xs.map strV)
  below : Below B W wr
section
variable {B J : Nat} {cI cF : Array Value} {F : ByteArray} {W wr : World} {k : Nat} {v : Value} {xs : List (List UInt8)}
theorem TxAt.size (h : TxAt B J cI cF F W wr k v xs) : J + 2 < wr.heap.size := lt_of_block h.it
theorem TxAt.iter (h : TxAt B J cI cF F W wr k v xs) (k' : Nat) : TxAt B J cI cF F W (wr.iterAt (J + 2) F k') k' v xs := by
  have hlt := h.lt
  refine ⟨h.lt, ?_, ?_, Lib.iterAt_heap _ _ _ _ _ h.it, ?_, Lib.below_iterAt h.below (by omega) _ _⟩
  · rw [Lib.iterAt_other _ _ _ _ _ (by omega)]; exact h.box
  · rw [Lib.iterAt_other _ _ _ _ _ (by omega)]; exact h.form
  · have hg : wr.grownBy (wr.iterAt (J + 2) F k') (some (J + 2)) := ⟨rfl, rfl, rfl, by rw [Lib.iterAt_size]; exact Nat.le_refl _, fun j _ hj => Lib.iterAt_other _ _ _ _ _ (fun e => hj (by rw [e]))⟩
    exact h.row.kept hg (.inr (fun e => own_ne_iter h.row h.it e.symm))
theorem TxAt.go {w2 : World} (h : TxAt B J cI cF F W wr k v xs) (hb : Below wr.heap.size wr w2) : TxAt B J cI cF F W w2 k v xs := by
  have hs := h.size
  have hlt := h.lt
  exact ⟨h.lt, (hb.block _ (by omega)).trans h.box, (hb.block _ (by omega)).trans h.form, (hb.block _ hs).trans h.it, own_kept h.row hb, h.below.trans (hb.mono (by omega))⟩
theorem TxAt.app {w2 : World} {v' : Value} {x : List UInt8} {o : Obj} (h : TxAt B J cI cF F W wr k v xs) (hown : w2.ownsRow (J + 1) 9 1 v' (xs.length + 1) (xs.map strV ++ [strV x])) (hg : (wr.alloc o).grownBy w2 v.ownBlock) :
    TxAt B J cI cF F W w2 k v' (xs ++ [x]) := by
  have hs := h.size
  have hlt := h.lt
  have hr := h.row.lt
  have hb : ∀ g, g < wr.heap.size → (wr.alloc o).heap[g]? = wr.heap[g]? := fun g hg => Below.heap_alloc _ _ _ hg
  refine ⟨h.lt, ?_, ?_, ?_, ?_, ?_⟩
  · rw [hg.block B (by simp; omega) (fun e => by have := (hr B e.symm).1; omega), hb B (by omega)]; exact h.box
  · rw [hg.block J (by simp; omega) (fun e => by have := (hr J e.symm).1; omega), hb J (by omega)]; exact h.form
  · rw [hg.block (J + 2) (by simp; omega) (own_ne_iter h.row h.it), hb _ hs]; exact h.it
  · rw [List.length_append, List.map_append]; exact hown
  · have hB : Below B W (wr.alloc o) := h.below.alloc (by omega) _
    exact hB.grown hg (by simp; omega) (fun g hg => by have := (hr g hg).1; omega)
end

theorem itoa_any (n : Int) (h0 : -9223372036854775808 ≤ n) (h1 : n ≤ 9223372036854775807) (w : World) (htab : Lib.TabIs Tryd.prog w "internal/strconv.uint64pow10" .u64 Lib.pow10Tab) :
    Calls Tryd.prog 15 #[.int .i64 n] w fun e w' => e = .returned (.string (str (Lib.itoa n))) ∧ Below w.heap.size w w' := by
  refine (Tryd.strconv_Itoa n h0 h1 w htab).mono ?_
  rintro e w' ⟨rfl, k, os, rfl⟩
  exact ⟨rfl, Lib.below_grow _ _ (Nat.le_refl _) k os⟩

/-- which number a letter names -/
def cellNo (x : UInt8) : Nat := if x = 65 then 1 else if x = 66 then 2 else if x = 67 then 3 else 4
theorem field_x {x : UInt8} (hx : Cp.letter x) (b : Nat) (w : World) : Calls Tryd.prog 16 #[.pointer (some ⟨b, 0, none⟩), .int .i32 (x.toNat)] w fun e w' => e = .returned (.pointer (some ⟨b, cellNo x, none⟩)) ∧ w = w' := by
  unfold Cp.letter at hx
  rcases hx with rfl | rfl | rfl | rfl
  · exact field_A b w
  · exact field_B b w
  · exact field_C b w
  · exact field_I b w

set_option maxRecDepth 100000 in
set_option maxHeartbeats 2000000 in
theorem text_ok (op a b c i : Int) (w : World) (h1 : -9223372036854775808 ≤ op) (h2 : op ≤ 9223372036854775807) (hm : Cp.mayE op a b c i = 0) (htab : Lib.TabIs Tryd.prog w "internal/strconv.uint64pow10" .u64 Lib.pow10Tab) :
    Calls Tryd.prog 8 #[.agg #[.int .i64 op, .int .i64 a, .int .i64 b, .int .i64 c, .int .i64 i]] w fun e w' => e = .returned (.tuple #[.string (str (Cp.lineT (Cp.rowOf op).1 (Cp.rowOf op).2.1 a b c i)), .int .i64 0]) ∧ Below w.heap.size w w' := by
  have hfr := Cp.row_letters op
  have hlen := Cp.lineT_len hm
  have hfl := fun x => Cp.fieldT_len hm x
  obtain ⟨_, _, a1, a2, b1, b2, c1, c2, i1, i2, _⟩ := Cp.ok_bounds op a b c i hm
  have hmay := fun w => may_any op a b c i w h1 h2
  rw [hm] at hmay
  have hfv : Cp.formV op = .agg #[.string (str (Cp.rowOf op).1), .string (str (Cp.rowOf op).2.1), .int .i64 (Cp.loOf (Cp.rowOf op).2.2), .int .i64 (Cp.hiOf (Cp.rowOf op).2.2)] := by
    unfold Cp.formV
    rw [Cp.find_of_may hm]
    rfl
  rw [hfv] at hmay
  obtain ⟨nm, hnm⟩ : ∃ nm, nm = (Cp.rowOf op).1 := ⟨_, rfl⟩
  obtain ⟨F, hF⟩ : ∃ F, F = (Cp.rowOf op).2.1 := ⟨_, rfl⟩
  obtain ⟨lo, hlo⟩ : ∃ lo, lo = Cp.loOf (Cp.rowOf op).2.2 := ⟨_, rfl⟩
  obtain ⟨hi, hhi⟩ : ∃ hi, hi = Cp.hiOf (Cp.rowOf op).2.2 := ⟨_, rfl⟩
  rw [← hnm, ← hF] at hmay hlen
  rw [← hlo, ← hhi] at hmay
  rw [← hF] at hfr
  rw [← hnm, ← hF]
  obtain ⟨hlet, hF3, _⟩ := hfr
  obtain ⟨sF, hsF⟩ : ∃ sF, sF = str F := ⟨_, rfl⟩
  have hsz : sF.size = F.length := by rw [hsF, str_size]
  have hget : ∀ k (h : k < sF.size), sF[k] = F.getD k 0 := fun k h => by
    subst hsF
    have hk : k < F.length := by rw [str_size] at h; exact h
    rw [List.getD_eq_getElem?_getD, List.getElem?_eq_getElem hk, Option.getD_some]
    rfl
  rw [← hsF] at hmay
  have HM := Lib.hid hmay
  have HT := Lib.hid (Lib.tabBelow_of_tabIs htab)
  have HLET := Lib.hid hlet
  have HSZ := Lib.hid hsz
  have HGET := Lib.hid hget
  have HLEN := Lib.hid hlen
  have HFL := Lib.hid hfl
  have HFB := Lib.hid (fun x => Cp.fieldOf_bd hm x)
  clear hmay hfv hnm hF hlo hhi hm htab hlet hsF hsz hget hlen hfl
  obtain ⟨i0, hi0, hz0, hz1, hz2⟩ := info_parts str_info
  go_enter Tryd.func8, Tryd.ntmps8
  go_wp2_with fail
  refine (HM.out _).mono ?_
  rintro e w1 ⟨rfl, hb⟩
  have hI := (hb.block w.heap.size (by simp)).trans (heap_alloc_new w _)
  have hB : Below w.heap.size w w1 := ((Below.refl _ _).alloc (Nat.le_refl _) _).trans (hb.mono (by simp))
  have hs : w.heap.size < w1.heap.size := by have := hb.size; simp at this; omega
  have HI := Lib.hid hI
  have HB := Lib.hid hB
  clear hb hI hB
  go_wp2_with fail
  obtain ⟨J, hJ⟩ : ∃ J, J = w1.heap.size := ⟨_, rfl⟩
  have hX : TxAt w.heap.size J #[.int .i64 op, .int .i64 a, .int .i64 b, .int .i64 c, .int .i64 i] #[.string (str nm), .string sF, .int .i64 lo, .int .i64 hi] sF w
      (((w1.alloc (.cells #[.string (str nm), .string sF, .int .i64 lo, .int .i64 hi] 37)).alloc (.cells #[.string (str nm)] 9)).iter sF 0) 0 (.slice (some ⟨J + 1, 0, none⟩) 1 1) [nm] := by
    subst hJ
    refine ⟨hs, ?_, ?_, ?_, ?_, ?_⟩
    · rw [World.iter, Below.heap_alloc _ _ _ (by simp; omega), Below.heap_alloc _ _ _ (by simp; omega), Below.heap_alloc _ _ _ (by omega)]; exact HI.out
    · rw [World.iter, Below.heap_alloc _ _ _ (by simp; omega), Below.heap_alloc _ _ _ (by simp)]; exact heap_alloc_new _ _
    · rw [World.iter]
      have := heap_alloc_new ((w1.alloc (.cells #[.string (str nm), .string sF, .int .i64 lo, .int .i64 hi] 37)).alloc (.cells #[.string (str nm)] 9)) (.stringIter sF 0)
      simpa using this
    · have := World.ownsRow_lit (base := w1.heap.size + 1) (e := 9) (size := 1) (w1.alloc (.cells #[.string (str nm), .string sF, .int .i64 lo, .int .i64 hi] 37)) #[.string (str nm)] 1 (by simp) (by decide) rfl
      rw [World.iter]
      simpa [strV] using this.alloc (.stringIter sF 0)
    · exact (((HB.out.alloc (by omega) _).alloc (by simp; omega) _).alloc (by simp; omega) _)
  rw [← hJ]
  clear HI HB hs hJ
  go_loopg [6] F.length (fun gk v wr => ∃ k, k ≤ F.length ∧ gk = F.length - k ∧ TxAt w.heap.size J #[.int .i64 op, .int .i64 a, .int .i64 b, .int .i64 c, .int .i64 i] #[.string (str nm), .string sF, .int .i64 lo, .int .i64 hi] sF w wr k v (nm :: (F.take k).map (Cp.fieldT a b c i)))
  case atStart => exact ⟨0, by omega, rfl, hX⟩
  case round =>
    clear hX
    obtain ⟨k, hk, hg, hX⟩ := hrel
    have HG := Lib.hid hg
    clear hg
    by_cases hlt : k < F.length
    · have hkS : k < sF.size := by rw [HSZ.out]; exact hlt
      obtain ⟨x, hxe⟩ : ∃ x, x = F.getD k 0 := ⟨_, rfl⟩
      have hxk : x = F[k] := by rw [hxe, List.getD_eq_getElem?_getD, List.getElem?_eq_getElem hlt, Option.getD_some]
      have hx : Cp.letter x := HLET.out x (by rw [hxk]; exact List.getElem_mem hlt)
      have hsx : sF[k] = x := by rw [HGET.out k hkS, hxe]
      have h128 : x.toNat < 128 := by unfold Cp.letter at hx; rcases hx with rfl | rfl | rfl | rfl <;> decide
      have hn := Lib.run_next_ascii_at (P := Tryd.prog) wr (J + 2) sF k 0 hX.it hkS (by rw [hsx]; exact h128)
      rw [hsx] at hn
      have hstep := Cp.fields_step F a b c i k hlt
      rw [← hxk] at hstep
      have HSTEP := Lib.hid hstep
      have hX2 := hX.iter (k + 1)
      obtain ⟨xs, hxs⟩ : ∃ xs, xs = nm :: (F.take k).map (Cp.fieldT a b c i) := ⟨_, rfl⟩
      rw [← hxs] at hX2
      have HXS := Lib.hid hxs
      have hxl : xs.length ≤ 4 := by rw [hxs, List.length_cons, List.length_map, List.length_take]; omega
      obtain ⟨wr2, hwr2⟩ : ∃ wr2, wr2 = wr.iterAt (J + 2) sF (k + 1) := ⟨_, rfl⟩
      rw [← hwr2] at hn hX2
      obtain ⟨n, hnn⟩ : ∃ n, n = Cp.fieldOf a b c i x := ⟨_, rfl⟩
      have hnb := HFB.out x
      rw [← hnn] at hnb
      have q : wr2.cell? ⟨w.heap.size, cellNo x, none⟩ = some (.int .i64 n) := by
        rw [cell_of_row wr2 _ _ _ _ _ hX2.box, hnn]
        unfold Cp.letter at hx
        rcases hx with rfl | rfl | rfl | rfl <;> rfl
      obtain ⟨T, hT⟩ : ∃ T, T = Cp.fieldT a b c i x := ⟨_, rfl⟩
      have hT2 : T = if x = 73 then Lib.itoa n else 114 :: Lib.itoa n := by
        rw [hT, hnn]
        unfold Cp.fieldT
        by_cases h73 : x = 73
        · rw [if_pos h73, if_pos h73, h73]; rfl
        · rw [if_neg h73, if_neg h73]
      have HF := Lib.hid (field_x hx w.heap.size)
      have HIT := Lib.hid (itoa_any n (by omega) (by omega) wr2 (HT.out wr2 hX2.below))
      obtain ⟨r, hr⟩ : ∃ r : Int, r = x.toNat := ⟨_, rfl⟩
      rw [← hr] at hn HF
      have hl7 : (Lib.itoa n).length ≤ 6 := Cp.itoa_len n (by omega) (by omega)
      have HX2 := Lib.hid hX2
      have HTE := Lib.hid hT
      obtain ⟨jx, hjx⟩ : ∃ jx, jx = cellNo x := ⟨_, rfl⟩
      rw [← hjx] at q HF
      clear hX hX2 hstep hxe hsx hxs hnn hwr2 hxk hkS hT hjx
      by_cases h73 : x = 73
      · rw [if_pos h73] at hT2
        have hr73 : r = 73 := by rw [hr, h73]; rfl
        subst hr73
        subst hT2
        clear h73 hr hx h128
        go_wp2_with (first
          | (go_at_call 16; refine (HF.out _).mono ?_; rintro e w' ⟨rfl, rfl⟩)
          | (go_at_call 15; refine HIT.out.mono ?_; rintro e w3 ⟨rfl, hb⟩; have HX3 := Lib.hid (HX2.out.go hb); clear hb q hn)
          | (at_builtin; refine wpList_append_own _ rfl _ _ 43 rfl (J + 1) 9 i0 _ 1 16 Tryd.underlying43 hi0 hz0 hz1 hz2 rfl (by decide) _ _ _ rfl (HX3.out.row.alloc _) ⟨w3.heap.size, 0, none⟩ 1 1 [strV (Lib.itoa n)] rfl rfl ?c1 ?c2 ?c3 ?c4 ?c5 ?_))
        case c1 => exact cells_one (heap_alloc_new w3 _)
        case c2 => intro u hu; simp only [List.mem_cons, List.not_mem_nil, or_false] at hu; subst hu; rfl
        case c3 => unfold maxLen; omega
        case c4 => omega
        case c5 => have := HX3.out.size; simp; omega
        intro v' w4 hown hgr _
        have hX4 := HX3.out.app hown hgr
        have hX5 : TxAt w.heap.size J #[.int .i64 op, .int .i64 a, .int .i64 b, .int .i64 c, .int .i64 i] #[.string (str nm), .string sF, .int .i64 lo, .int .i64 hi] sF w w4 (k + 1) v' (nm :: (F.take (k + 1)).map (Cp.fieldT a b c i)) := by
          rw [HSTEP.out, ← List.cons_append, ← HXS.out, ← HTE.out]
          exact hX4
        have HX5 := Lib.hid hX5
        clear hX4 hX5 hown hgr HX3 HX2 HXS
        go_wp2_with fail
        go_roundg (F.length - (k + 1))
        case measure => have := HG.out; omega
        case rel => exact ⟨k + 1, hlt, rfl, HX5.out⟩
      · rw [if_neg h73] at hT2
        have hr0 : (r == 73) = false := by
          rw [beq_eq_false_iff_ne]
          intro e
          exact h73 (UInt8.toNat_inj.1 (by rw [hr] at e; show x.toNat = 73; omega))
        have hr1 : (r != 73) = true := by unfold bne; rw [hr0]; rfl
        have hadd : ∀ w, (Op.stringOp .add ⟨#[114]⟩ (str (Lib.itoa n))).run Tryd.prog w = .ok (.string (str (114 :: Lib.itoa n))) w := fun w => run_str_add [114] _ w (by rw [List.length_singleton]; omega)
        subst hT2
        clear h73 hr hx h128
        go_wp2_with (first
          | (go_at_call 16; refine (HF.out _).mono ?_; rintro e w' ⟨rfl, rfl⟩)
          | (go_at_call 15; refine HIT.out.mono ?_; rintro e w3 ⟨rfl, hb⟩; have HX3 := Lib.hid (HX2.out.go hb); clear hb q hn)
          | (at_builtin; refine wpList_append_own _ rfl _ _ 43 rfl (J + 1) 9 i0 _ 1 16 Tryd.underlying43 hi0 hz0 hz1 hz2 rfl (by decide) _ _ _ rfl (HX3.out.row.alloc _) ⟨w3.heap.size, 0, none⟩ 1 1 [strV (114 :: Lib.itoa n)] rfl rfl ?c1 ?c2 ?c3 ?c4 ?c5 ?_))
        case c1 => exact cells_one (heap_alloc_new w3 _)
        case c2 => intro u hu; simp only [List.mem_cons, List.not_mem_nil, or_false] at hu; subst hu; rfl
        case c3 => unfold maxLen; omega
        case c4 => omega
        case c5 => have := HX3.out.size; simp; omega
        intro v' w4 hown hgr _
        have hX4 := HX3.out.app hown hgr
        have hX5 : TxAt w.heap.size J #[.int .i64 op, .int .i64 a, .int .i64 b, .int .i64 c, .int .i64 i] #[.string (str nm), .string sF, .int .i64 lo, .int .i64 hi] sF w w4 (k + 1) v' (nm :: (F.take (k + 1)).map (Cp.fieldT a b c i)) := by
          rw [HSTEP.out, ← List.cons_append, ← HXS.out, ← HTE.out]
          exact hX4
        have HX5 := Lib.hid hX5
        clear hX4 hX5 hown hgr HX3 HX2 HXS
        go_wp2_with fail
        go_roundg (F.length - (k + 1))
        case measure => have := HG.out; omega
        case rel => exact ⟨k + 1, hlt, rfl, HX5.out⟩
    · have hn := Lib.run_next_end_at (P := Tryd.prog) wr (J + 2) _ _ 0 hX.it (by rw [HSZ.out]; exact hlt)
      rw [List.take_of_length_le (by omega)] at hX
      have hj : Lib.join ((nm :: F.map (Cp.fieldT a b c i)).map (fun l => (str l).data.toList)) [32] = Cp.lineT nm F a b c i := by
        rw [← Cp.join_line]
        congr 1
        exact (List.map_congr_left (fun l _ => str_list l)).trans (List.map_id _)
      obtain ⟨xs, hxs⟩ : ∃ xs, xs = nm :: F.map (Cp.fieldT a b c i) := ⟨_, rfl⟩
      rw [← hxs] at hX hj
      have hpos : 0 < xs.length := by rw [hxs]; simp
      obtain ⟨g, cap, rfl⟩ := own_slice hX.row hpos
      obtain ⟨nb, hnb⟩ : ∃ nb, nb = xs.length := ⟨_, rfl⟩
      have hxl : xs.length ≤ 4 := by rw [hxs, List.length_cons, List.length_map]; omega
      have hcap : xs.length ≤ cap := own_cap hX.row
      have hjoin := fun w' (hb : Below wr.heap.size wr w') => Tryd.strings_Join g 0 cap (xs.map str) (str [32]) w' (fun j y hy => by
        have hj' : j < xs.length := by have := (List.getElem?_eq_some_iff.1 hy).1; simpa using this
        have hc := hX.row.cells rfl j (strV xs[j]) (by rw [List.getElem?_map, List.getElem?_eq_getElem hj']; rfl)
        rw [add_at] at hc
        have hlt : g < wr.heap.size := (hX.row.lt g rfl).2
        rw [Nat.zero_add, (hb.cell (p := ⟨g, j, none⟩) hlt).trans hc]
        rw [List.getElem?_map, List.getElem?_eq_getElem hj'] at hy
        injection hy with hy
        rw [← hy]
        rfl) (Nat.lt_of_lt_of_le (hX.row.lt g rfl).2 hb.size) (by rw [List.length_map]; omega) (by rw [List.length_map]; exact hcap) (by rw [List.map_map]; have := HLEN.out; rw [← hj] at this; exact Nat.le_trans this (by decide))
      rw [List.map_map, List.length_map] at hjoin
      have hjj : (Lib.join (xs.map ((fun x : ByteArray => x.data.toList) ∘ str)) (str [32]).data.toList) = Cp.lineT nm F a b c i := hj
      rw [hjj] at hjoin
      rw [← hnb] at hjoin ⊢
      have HJ := Lib.hid hjoin
      have HB := Lib.hid hX.below
      clear hjoin hjj hj hX hnb hxs
      unfold str at HJ
      go_wp2_with fail
      refine (HJ.out _ (Below.refl _ _)).mono ?_
      rintro e w2 ⟨rfl, hb2⟩
      have HB2 := Lib.hid (HB.out.trans (hb2.mono HB.out.size))
      clear hb2 hn
      go_wp2_with fail
      go_ret2
      exact ⟨rfl, HB2.out⟩

set_option maxRecDepth 100000 in
set_option maxHeartbeats 400000 in
theorem text_bad (op a b c i er : Int) (w : World) (h1 : -9223372036854775808 ≤ op) (h2 : op ≤ 9223372036854775807) (h : er = 2 ∨ er = 6) (hm : Cp.mayE op a b c i = er) :
    Calls Tryd.prog 8 #[.agg #[.int .i64 op, .int .i64 a, .int .i64 b, .int .i64 c, .int .i64 i]] w fun e w' => e = .returned (.tuple #[.string (str []), .int .i64 er]) ∧ Below w.heap.size w w' := by
  have hmay := fun w => may_any op a b c i w h1 h2
  rw [hm] at hmay
  obtain ⟨v0, v1, v2, v3, hv⟩ := formV_form op
  rw [hv] at hmay
  have HM := Lib.hid hmay
  clear hm hmay hv
  unfold str
  rcases h with rfl | rfl
  all_goals
    go_enter Tryd.func8, Tryd.ntmps8
    go_wp2_with fail
    refine (HM.out _).mono ?_
    rintro e w1 ⟨rfl, hb⟩
    have hB : Below w.heap.size w w1 := ((Below.refl _ _).alloc (Nat.le_refl _) _).trans (hb.mono (by simp))
    have HB := Lib.hid (hB.alloc hB.size (.cells #[.string v0, .string v1, .int .i64 v2, .int .i64 v3] 37))
    clear hb hB
    go_wp2_with fail
    go_ret2
    exact ⟨rfl, HB.out⟩

theorem text_any (op a b c i : Int) (w : World) (h1 : -9223372036854775808 ≤ op) (h2 : op ≤ 9223372036854775807) (htab : Lib.TabIs Tryd.prog w "internal/strconv.uint64pow10" .u64 Lib.pow10Tab) :
    Calls Tryd.prog 8 #[.agg #[.int .i64 op, .int .i64 a, .int .i64 b, .int .i64 c, .int .i64 i]] w fun e w' => e = .returned (.tuple #[.string (str (Cp.textT op a b c i)), .int .i64 (Cp.mayE op a b c i)]) ∧ Below w.heap.size w w' := by
  unfold Cp.textT
  rcases mayE_cases op a b c i with e | e
  · have h := text_ok op a b c i w h1 h2 e htab
    rw [if_pos e, e]
    exact h
  · rw [if_neg (by omega)]
    exact text_bad op a b c i _ w h1 h2 e rfl

end Go.Proofs.YthnehhidlaggeaaDoor
