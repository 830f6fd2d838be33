/- scarfjointref2.Text: the walk. -/
import Derived.Test.YthnehhidlaggeaaDoorChk
import Derived.Test.YthnehhidlaggeaaDoorDigits
import Derived.Test.YthnehhidlaggeaaDoorREnc
import Derived.Deep.LoopGhost
import Derived.Outline
namespace Go.Proofs.YthnehhidlaggeaaDoor
set_option linter.unusedVariables false
set_option linter.unusedSimpArgs false
open Go.RowKit

/-- where the row and the instruction lie -/
structure RtAt (B J : Nat) (cI cR : Array Value) (W wr : World) : Prop where
  lt : B < J
  box : wr.heap[B]? = some (.cells cI 23 (0, 0))
  row : wr.heap[J]? = some (.cells cR 50 (0, 0))
  below : Below B W wr
theorem RtAt.go {B J : Nat} {cI cR : Array Value} {W wr w2 : World} (h : RtAt B J cI cR W wr) (hb : Below wr.heap.size wr w2) : RtAt B J cI cR W w2 := by
  have hs := lt_of_block h.row
  have hlt := h.lt
  exact ⟨h.lt, (hb.block _ (by omega)).trans h.box, (hb.block _ hs).trans h.row, h.below.trans (hb.mono (by omega))⟩

set_option maxRecDepth 100000 in
set_option maxHeartbeats 2000000 in
theorem rtext_ok (op a b c i : Int) (w : World) (hm : Cp.mayE op a b c i = 0) :
    Calls Tryd.prog 9 #[.agg #[.int .i64 op, .int .i64 a, .int .i64 b, .int .i64 c, .int .i64 i]] w fun e w' => e = .returned (.tuple #[.string (str (Cp.lineT (Cp.rowOf op).1 (Cp.rowOf op).2.1 a b c i)), .int .i64 0]) ∧ Below w.heap.size w w' := by
  have hfr := Cp.row_letters op
  have hlen := Cp.lineT_len hm
  obtain ⟨o1, o2, a1, a2, b1, b2, c1, c2, i1, i2, _⟩ := Cp.ok_bounds op a b c i hm
  have hchk := fun w => check_any op a b c i w
  rw [hm] at hchk
  have hfind := fun w => find_any op w
  have hfv : Cp.rowV op = .agg #[.int .i64 op, .string (str (Cp.rowOf op).1), .string (str (Cp.rowOf op).2.1), .bool (Cp.rowOf op).2.2] := by
    unfold Cp.rowV
    rw [Cp.find_of_may hm]
    rfl
  rw [hfv, Cp.find_of_may hm] at hfind
  obtain ⟨nm, hnm⟩ : ∃ nm, nm = (Cp.rowOf op).1 := ⟨_, rfl⟩
  obtain ⟨F, hF⟩ : ∃ F, F = (Cp.rowOf op).2.1 := ⟨_, rfl⟩
  obtain ⟨sg, hsg⟩ : ∃ sg, sg = (Cp.rowOf op).2.2 := ⟨_, rfl⟩
  rw [← hnm, ← hF, ← hsg] at hfind
  rw [← hnm, ← hF] at hlen
  rw [← hF] at hfr
  rw [← hnm, ← hF]
  obtain ⟨hlet, hF3, _⟩ := hfr
  obtain ⟨sF, hsF⟩ : ∃ sF, sF = str F := ⟨_, rfl⟩
  have hsz : sF.size = F.length := by rw [hsF, str_size]
  have hget : ∀ k (h : k < sF.size), sF[k] = F.getD k 0 := fun k h => by
    subst hsF
    have hk : k < F.length := by rw [str_size] at h; exact h
    rw [List.getD_eq_getElem?_getD, List.getElem?_eq_getElem hk, Option.getD_some]
    rfl
  rw [← hsF] at hfind
  have HC := Lib.hid hchk
  have HF := Lib.hid hfind
  have HLET := Lib.hid hlet
  have HSZ := Lib.hid hsz
  have HGET := Lib.hid hget
  have HLEN := Lib.hid hlen
  clear hchk hfind hfv hnm hF hsg hm hlet hsF hsz hget hlen
  go_enter Tryd.func9, Tryd.ntmps9
  go_wp2_with fail
  refine (HC.out _).mono ?_
  rintro e w1 ⟨rfl, hb⟩
  have hI := (hb.block w.heap.size (by simp)).trans (heap_alloc_new w _)
  obtain ⟨p0, p1, p2, p3, p4, pz⟩ := blk5 hI
  have hB : Below w.heap.size w w1 := ((Below.refl _ _).alloc (Nat.le_refl _) _).trans (hb.mono (by simp))
  have hs : w.heap.size < w1.heap.size := by have := hb.size; simp at this; omega
  have HI := Lib.hid hI
  have HB := Lib.hid hB
  clear hb hI hB
  go_wp2_with fail
  refine (HF.out _).mono ?_
  rintro e w2 ⟨rfl, hb⟩
  clear p0 p1 p2 p3 p4 pz
  have hR0 : RtAt w.heap.size w2.heap.size #[.int .i64 op, .int .i64 a, .int .i64 b, .int .i64 c, .int .i64 i] #[.int .i64 op, .string (str nm), .string sF, .bool sg] w (w2.alloc (.cells #[.int .i64 op, .string (str nm), .string sF, .bool sg] 50)) := by
    have hs2 := hb.size
    refine ⟨by omega, ?_, heap_alloc_new _ _, (HB.out.trans (hb.mono (by omega))).alloc (by omega) _⟩
    rw [Below.heap_alloc _ _ _ (by omega), hb.block _ hs]
    exact HI.out
  clear hb HI HB hs
  obtain ⟨J, hJ⟩ : ∃ J, J = w2.heap.size := ⟨_, rfl⟩
  rw [← hJ] at hR0
  have HJ := Lib.hid hJ
  have HR0 := Lib.hid hR0
  clear hJ hR0
  go_wp2_with fail
  rw [← HJ.out]
  have HR1 := Lib.hid HR0.out
  obtain ⟨ws, hws⟩ : ∃ ws, ws = w2.alloc (.cells #[.int .i64 op, .string (str nm), .string sF, .bool sg] 50) := ⟨_, rfl⟩
  rw [← hws] at HR1 ⊢
  clear HR0 HJ hws
  go_loopg [7, 8] F.length (fun gk s kk wr => ∃ k : Nat, k ≤ F.length ∧ gk = F.length - k ∧ s = .string (str (Cp.lineT nm (F.take k) a b c i)) ∧ kk = .int .i64 k ∧ RtAt w.heap.size J #[.int .i64 op, .int .i64 a, .int .i64 b, .int .i64 c, .int .i64 i] #[.int .i64 op, .string (str nm), .string sF, .bool sg] w wr)
  case atStart => exact ⟨0, by omega, rfl, by simp [Cp.lineT], rfl, HR1.out⟩
  case round =>
    clear HR1
    obtain ⟨k, hk, hg, rfl, rfl, hR⟩ := hrel
    have HG := Lib.hid hg
    clear hg
    obtain ⟨r0, r1, r2, r3, rz⟩ := blk4 hR.row
    obtain ⟨p0, p1, p2, p3, p4, pz⟩ := blk5 hR.box
    have HR := Lib.hid hR
    clear hR
    have hSZ := HSZ.out
    have hL29 : (Cp.lineT nm (F.take k) a b c i).length ≤ 29 := Nat.le_trans (Cp.lineT_take nm F a b c i k) HLEN.out
    obtain ⟨L, hL⟩ : ∃ L, L = Cp.lineT nm (F.take k) a b c i := ⟨_, rfl⟩
    rw [← hL] at hL29 ⊢
    by_cases hlt : k < F.length
    · have hkS : k < sF.size := by rw [hSZ]; exact hlt
      obtain ⟨x, hxe⟩ : ∃ x, x = F.getD k 0 := ⟨_, rfl⟩
      have hxk : x = F[k] := by rw [hxe, List.getD_eq_getElem?_getD, List.getElem?_eq_getElem hlt, Option.getD_some]
      have hx : Cp.letter x := HLET.out x (by rw [hxk]; exact List.getElem_mem hlt)
      have hsx : sF[k] = x := by rw [HGET.out k hkS, hxe]
      have hstep := Cp.line_step nm F a b c i k hlt
      rw [← hxk] at hstep
      have hsS : sF.size ≤ 3 := by omega
      clear hxe hxk hSZ
      unfold Cp.letter at hx
      rcases hx with rfl | rfl | rfl | rfl
      · have hx8 : (sF[k]'hkS).toNat = 65 := by rw [hsx]; rfl
        have hT : Cp.fieldT a b c i 65 = (114 :: Lib.itoa a) := rfl
        rw [hT, ← hL] at hstep
        have hli : (Lib.itoa a).length ≤ 6 := Cp.itoa_len a (by omega) (by omega)
        have hadd0 : ∀ w, (Op.stringOp .add (str L) ⟨#[32, 114]⟩).run Tryd.prog w = .ok (.string (str (L ++ [32, 114]))) w := fun w => run_str_add L [32, 114] w (by simp only [List.length_cons, List.length_nil]; omega)
        have hadd1 : ∀ w, (Op.stringOp .add (str (L ++ [32, 114])) (str (Lib.itoa a))).run Tryd.prog w = .ok (.string (str (L ++ [32, 114] ++ Lib.itoa a))) w := fun w => run_str_add _ _ w (by simp only [List.length_append, List.length_cons, List.length_nil]; omega)
        have hfin : L ++ [32, 114] ++ Lib.itoa a = Cp.lineT nm (F.take (k + 1)) a b c i := by rw [hstep]; simp
        have HD := Lib.hid (digits_any a (by omega) (by omega))
        have HFIN := Lib.hid hfin
        clear hsx hT hstep hL hfin
        go_wp2_with (go_at_call 19; refine (HD.out _).mono ?_; rintro e w3 ⟨rfl, hb⟩; have HR3 := Lib.hid (HR.out.go hb); clear hb r0 r1 r2 r3 rz p0 p1 p2 p3 p4 pz)
        go_roundg (F.length - (k + 1))
        case measure => have := HG.out; omega
        case rel => exact ⟨k + 1, hlt, rfl, by rw [← HFIN.out]; simp, by go_num, HR3.out⟩
      · have hx8 : (sF[k]'hkS).toNat = 66 := by rw [hsx]; rfl
        have hT : Cp.fieldT a b c i 66 = (114 :: Lib.itoa b) := rfl
        rw [hT, ← hL] at hstep
        have hli : (Lib.itoa b).length ≤ 6 := Cp.itoa_len b (by omega) (by omega)
        have hadd0 : ∀ w, (Op.stringOp .add (str L) ⟨#[32, 114]⟩).run Tryd.prog w = .ok (.string (str (L ++ [32, 114]))) w := fun w => run_str_add L [32, 114] w (by simp only [List.length_cons, List.length_nil]; omega)
        have hadd1 : ∀ w, (Op.stringOp .add (str (L ++ [32, 114])) (str (Lib.itoa b))).run Tryd.prog w = .ok (.string (str (L ++ [32, 114] ++ Lib.itoa b))) w := fun w => run_str_add _ _ w (by simp only [List.length_append, List.length_cons, List.length_nil]; omega)
        have hfin : L ++ [32, 114] ++ Lib.itoa b = Cp.lineT nm (F.take (k + 1)) a b c i := by rw [hstep]; simp
        have HD := Lib.hid (digits_any b (by omega) (by omega))
        have HFIN := Lib.hid hfin
        clear hsx hT hstep hL hfin
        go_wp2_with (go_at_call 19; refine (HD.out _).mono ?_; rintro e w3 ⟨rfl, hb⟩; have HR3 := Lib.hid (HR.out.go hb); clear hb r0 r1 r2 r3 rz p0 p1 p2 p3 p4 pz)
        go_roundg (F.length - (k + 1))
        case measure => have := HG.out; omega
        case rel => exact ⟨k + 1, hlt, rfl, by rw [← HFIN.out]; simp, by go_num, HR3.out⟩
      · have hx8 : (sF[k]'hkS).toNat = 67 := by rw [hsx]; rfl
        have hT : Cp.fieldT a b c i 67 = (114 :: Lib.itoa c) := rfl
        rw [hT, ← hL] at hstep
        have hli : (Lib.itoa c).length ≤ 6 := Cp.itoa_len c (by omega) (by omega)
        have hadd0 : ∀ w, (Op.stringOp .add (str L) ⟨#[32, 114]⟩).run Tryd.prog w = .ok (.string (str (L ++ [32, 114]))) w := fun w => run_str_add L [32, 114] w (by simp only [List.length_cons, List.length_nil]; omega)
        have hadd1 : ∀ w, (Op.stringOp .add (str (L ++ [32, 114])) (str (Lib.itoa c))).run Tryd.prog w = .ok (.string (str (L ++ [32, 114] ++ Lib.itoa c))) w := fun w => run_str_add _ _ w (by simp only [List.length_append, List.length_cons, List.length_nil]; omega)
        have hfin : L ++ [32, 114] ++ Lib.itoa c = Cp.lineT nm (F.take (k + 1)) a b c i := by rw [hstep]; simp
        have HD := Lib.hid (digits_any c (by omega) (by omega))
        have HFIN := Lib.hid hfin
        clear hsx hT hstep hL hfin
        go_wp2_with (go_at_call 19; refine (HD.out _).mono ?_; rintro e w3 ⟨rfl, hb⟩; have HR3 := Lib.hid (HR.out.go hb); clear hb r0 r1 r2 r3 rz p0 p1 p2 p3 p4 pz)
        go_roundg (F.length - (k + 1))
        case measure => have := HG.out; omega
        case rel => exact ⟨k + 1, hlt, rfl, by rw [← HFIN.out]; simp, by go_num, HR3.out⟩
      · have hx8 : (sF[k]'hkS).toNat = 73 := by rw [hsx]; rfl
        have hT : Cp.fieldT a b c i 73 = (Lib.itoa i) := rfl
        rw [hT, ← hL] at hstep
        have hli : (Lib.itoa i).length ≤ 6 := Cp.itoa_len i (by omega) (by omega)
        have hadd0 : ∀ w, (Op.stringOp .add (str L) ⟨#[32]⟩).run Tryd.prog w = .ok (.string (str (L ++ [32]))) w := fun w => run_str_add L [32] w (by simp only [List.length_cons, List.length_nil]; omega)
        have hadd1 : ∀ w, (Op.stringOp .add (str (L ++ [32])) (str (Lib.itoa i))).run Tryd.prog w = .ok (.string (str (L ++ [32] ++ Lib.itoa i))) w := fun w => run_str_add _ _ w (by simp only [List.length_append, List.length_cons, List.length_nil]; omega)
        have hfin : L ++ [32] ++ Lib.itoa i = Cp.lineT nm (F.take (k + 1)) a b c i := by rw [hstep]; simp
        have HD := Lib.hid (digits_any i (by omega) (by omega))
        have HFIN := Lib.hid hfin
        clear hsx hT hstep hL hfin
        go_wp2_with (go_at_call 19; refine (HD.out _).mono ?_; rintro e w3 ⟨rfl, hb⟩; have HR3 := Lib.hid (HR.out.go hb); clear hb r0 r1 r2 r3 rz p0 p1 p2 p3 p4 pz)
        go_roundg (F.length - (k + 1))
        case measure => have := HG.out; omega
        case rel => exact ⟨k + 1, hlt, rfl, by rw [← HFIN.out]; simp, by go_num, HR3.out⟩
    · obtain rfl : k = F.length := by omega
      rw [List.take_of_length_le (Nat.le_refl _)] at hL
      subst hL
      have hge : ¬ F.length < sF.size := by omega
      have hsS : sF.size ≤ 3 := by omega
      clear hSZ
      go_wp2_with fail
      go_ret2
      exact ⟨rfl, HR.out.below⟩

set_option maxRecDepth 100000 in
set_option maxHeartbeats 400000 in
theorem rtext_bad (op a b c i er : Int) (w : World) (h : er = 2 ∨ er = 6) (hm : Cp.mayE op a b c i = er) :
    Calls Tryd.prog 9 #[.agg #[.int .i64 op, .int .i64 a, .int .i64 b, .int .i64 c, .int .i64 i]] w fun e w' => e = .returned (.tuple #[.string (str []), .int .i64 er]) ∧ Below w.heap.size w w' := by
  have hchk := fun w => check_any op a b c i w
  rw [hm] at hchk
  have HM := Lib.hid hchk
  clear hm hchk
  unfold str
  rcases h with rfl | rfl
  all_goals
    go_enter Tryd.func9, Tryd.ntmps9
    go_wp2_with fail
    refine (HM.out _).mono ?_
    rintro e w1 ⟨rfl, hb⟩
    have hB : Below w.heap.size w w1 := ((Below.refl _ _).alloc (Nat.le_refl _) _).trans (hb.mono (by simp))
    have HB := Lib.hid hB
    clear hb hB
    go_wp2_with fail
    go_ret2
    exact ⟨rfl, HB.out⟩

theorem rtext_any (op a b c i : Int) (w : World) :
    Calls Tryd.prog 9 #[.agg #[.int .i64 op, .int .i64 a, .int .i64 b, .int .i64 c, .int .i64 i]] w fun e w' => e = .returned (.tuple #[.string (str (Cp.textT op a b c i)), .int .i64 (Cp.mayE op a b c i)]) ∧ Below w.heap.size w w' := by
  unfold Cp.textT
  rcases rmayE_cases op a b c i with e | e
  · have h := rtext_ok op a b c i w e
    rw [if_pos e, e]
    exact h
  · rw [if_neg (by omega)]
    exact rtext_bad op a b c i _ w e rfl

end Go.Proofs.YthnehhidlaggeaaDoor
