/- scarfjointkeep.CodeBack: the walk. -/
import Derived.Test.YthnehhidlaggeaaDoorRead
import Derived.Test.YthnehhidlaggeaaDoorDec2
import Derived.Test.YthnehhidlaggeaaDoorEnc
namespace Go.Proofs.YthnehhidlaggeaaDoor.Cp
set_option linter.unusedVariables false
set_option linter.unusedSimpArgs false

/-- the number's bounds -/
theorem imm_bd {op a b c i : Int} (h : mayE op a b c i = 0) (hc : (rowOf op).2.1.contains 73 = true) : loOf (rowOf op).2.2 ≤ i ∧ i ≤ hiOf (rowOf op).2.2 := by
  unfold mayE at h
  rw [find_of_may h] at h
  simp only at h
  split at h
  · rename_i hall
    unfold okAll at hall
    simp only [Bool.and_eq_true] at hall
    obtain ⟨_, h4⟩ := hall
    unfold okV at h4
    rw [show (73 : Int).toNat.toUInt8 = 73 by decide, hc] at h4
    simpa using h4
  · cases h
/-- an instruction's bits are read as it -/
theorem dec_of_enc {op a b c i : Int} (h : mayE op a b c i = 0) : dec (encN op a b c i) = some (op, a, b, c, i) := by
  obtain ⟨o1, o2, a1, a2, b1, b2, c1, c2, i1, i2, hz⟩ := ok_bounds op a b c i h
  obtain ⟨l1, l2, l3, l4⟩ := lacks h
  have hib := imm_bd h
  have e1 : encN op a b c i / 16777216 = op := by unfold encN; omega
  have e2 : encN op a b c i / 1048576 % 16 = a := by unfold encN; omega
  have e3 : encN op a b c i / 65536 % 16 = b := by unfold encN; omega
  have e4 : encN op a b c i % 65536 = (c + i) % 65536 := by unfold encN; omega
  have hs := row_shapes (op := op) (by rw [find_of_may h]; rfl)
  have hcc : (rowOf op).2.1.contains 73 = true → c = 0 := by
    intro h73
    apply l3
    generalize (rowOf op).2.1 = F at *
    rcases hs with rfl | rfl | rfl | rfl | rfl | rfl <;> first | rfl | (exact absurd h73 (by decide))
  unfold dec
  rw [e1, e2, e3, find_of_may h]
  simp only
  have h5 : decC (rowOf op).2.1 (encN op a b c i) = c := by
    unfold decC
    rw [e4]
    split
    · rename_i h73
      exact (hcc h73).symm
    · rename_i h73
      have := l4 (by simpa using h73)
      omega
  have h6 : decI (rowOf op).2.1 (rowOf op).2.2 (encN op a b c i) = i := by
    unfold decI
    rw [e4]
    split
    · rename_i h73
      have h7 := hib h73
      have h8 := hcc h73
      unfold loOf hiOf at h7
      cases hsg : (rowOf op).2.2
      · rw [hsg] at h7
        simp only [Bool.false_eq_true, if_false] at h7 ⊢
        omega
      · rw [hsg] at h7
        simp only [if_true] at h7 ⊢
        split <;> omega
    · rename_i h73
      exact (l4 (by simpa using h73)).symm
  rw [h5, h6, if_pos h]

end Go.Proofs.YthnehhidlaggeaaDoor.Cp

namespace Go.Proofs.YthnehhidlaggeaaDoor
set_option linter.unusedVariables false
set_option linter.unusedSimpArgs false
open Go.RowKit

set_option maxRecDepth 100000 in
set_option maxHeartbeats 1000000 in
theorem back_bad (op a b c i er : Int) (w : World) (h1 : -9223372036854775808 ≤ op) (h2 : op ≤ 9223372036854775807) (h : er = 2 ∨ er = 6) (hm : Cp.mayE op a b c i = er) :
    Calls Tryd.prog 5 #[.agg #[.int .i64 op, .int .i64 a, .int .i64 b, .int .i64 c, .int .i64 i]] w fun e w' => e = .returned (.bool true) ∧ Below w.heap.size w w' := by
  have he := fun w => encode_any op a b c i w h1 h2
  rw [if_neg (by omega), hm] at he
  have HE := Lib.hid he
  clear he hm
  rcases h with rfl | rfl
  all_goals
    go_enter Tryd.func5, Tryd.ntmps5
    go_wp2_with fail
    refine (HE.out _).mono ?_
    rintro e w1 ⟨rfl, hb⟩
    have HB := Lib.hid (((Below.refl w.heap.size w).alloc (Nat.le_refl _) (.cells #[.int .i64 op, .int .i64 a, .int .i64 b, .int .i64 c, .int .i64 i] 23)).trans (hb.mono (by simp)))
    clear hb
    go_wp2_with fail
    go_ret
    exact ⟨rfl, HB.out⟩

set_option maxRecDepth 100000 in
set_option maxHeartbeats 1000000 in
theorem back_ok (op a b c i : Int) (m : Int) (t0 t1 : TypeId) (p0 p1 : Value) (w : World) (h1 : -9223372036854775808 ≤ op) (h2 : op ≤ 9223372036854775807) (hmay : Cp.mayE op a b c i = 0)
    (hv0 : w.cell? ⟨0, 0, none⟩ = some (.iface t0 p0)) (hv1 : w.cell? ⟨1, 0, none⟩ = some (.iface t1 p1)) (hm : w.cell? ⟨2, 0, none⟩ = some (.int .i64 m)) (htab : Lib.TabIs Tryd.prog w "internal/strconv.uint64pow10" .u64 Lib.pow10Tab) :
    Calls Tryd.prog 5 #[.agg #[.int .i64 op, .int .i64 a, .int .i64 b, .int .i64 c, .int .i64 i]] w fun e w' => e = .returned (.bool true) ∧ Below w.heap.size w w' := by
  obtain ⟨o1, o2, a1, a2, b1, b2, c1, c2, i1, i2, _⟩ := Cp.ok_bounds op a b c i hmay
  have he := fun w => encode_any op a b c i w h1 h2
  rw [if_pos hmay, hmay] at he
  have hn : 0 ≤ Cp.encN op a b c i ∧ Cp.encN op a b c i ≤ 4294967295 := by unfold Cp.encN; omega
  have hd := fun w => decode_any (Cp.encN op a b c i) w hn.1 hn.2
  rw [Cp.dec_of_enc hmay] at hd
  unfold Cp.decV Cp.instrOf at hd
  simp only [Option.isSome_some] at hd
  have ht := fun w => text_any op a b c i w h1 h2
  rw [hmay] at ht
  have hlen := Cp.lineT_len hmay
  obtain ⟨L, hL⟩ : ∃ L, L = Cp.textT op a b c i := ⟨_, rfl⟩
  have hL29 : L.length ≤ 29 := by rw [hL]; unfold Cp.textT; rw [if_pos hmay]; exact hlen
  have htell : Cp.Tells L op a b c i := ⟨hmay, hL.symm⟩
  rw [← hL] at ht
  obtain ⟨N, hN⟩ : ∃ N, N = Cp.encN op a b c i := ⟨_, rfl⟩
  rw [← hN] at he hd
  have hr : ∀ w', Below w.heap.size w w' → Calls Tryd.prog 10 #[.string (str L)] w' fun e w'' => e = .returned (.tuple #[.agg #[.int .i64 op, .int .i64 a, .int .i64 b, .int .i64 c, .int .i64 i], .int .i64 0]) ∧ Below w'.heap.size w' w'' := fun w' hb => by
    refine (read_any (str L) (by rw [str_size]; omega) m t0 t1 p0 p1 w' ((hb.cell (p := ⟨0, 0, none⟩) (lt_of_cell hv0)).trans hv0) ((hb.cell (p := ⟨1, 0, none⟩) (lt_of_cell hv1)).trans hv1) ((hb.cell (p := ⟨2, 0, none⟩) (lt_of_cell hm)).trans hm) (Lib.tabBelow_of_tabIs htab w' hb)).mono ?_
    rintro e w'' ⟨h, hb2⟩
    refine ⟨?_, hb2⟩
    rw [str_list] at h
    rcases h with ⟨op', a', b', c', i', h3, rfl⟩ | ⟨h3, _⟩
    · obtain ⟨rfl, rfl, rfl, rfl, rfl⟩ := Cp.tells_one htell h3
      rfl
    · exact absurd htell (h3 _ _ _ _ _)
  have HE := Lib.hid he
  have HD := Lib.hid hd
  have HTX := Lib.hid ht
  have HR := Lib.hid hr
  have HT := Lib.hid (Lib.tabBelow_of_tabIs htab)
  clear he hd ht hr htab hv0 hv1 hm hmay hn hlen hL htell hN
  go_enter Tryd.func5, Tryd.ntmps5
  go_wp2_with fail
  refine (HE.out _).mono ?_
  rintro e w1 ⟨rfl, hb⟩
  have hI := (hb.block w.heap.size (by simp)).trans (heap_alloc_new w _)
  have hB : Below w.heap.size w w1 := ((Below.refl _ _).alloc (Nat.le_refl _) _).trans (hb.mono (by simp))
  have HI := Lib.hid hI
  have HB := Lib.hid hB
  clear hb hI hB
  go_wp2_with fail
  refine (HD.out _).mono ?_
  rintro e w2 ⟨rfl, hb⟩
  have hI := (hb.block w.heap.size (lt_of_block HI.out)).trans HI.out
  have hB := HB.out.trans (hb.mono HB.out.size)
  obtain ⟨p0, p1, p2, p3, p4, pz⟩ := blk5 hI
  have hlt := lt_of_block hI
  obtain ⟨w3, hw3⟩ : ∃ w3, w3 = w2.alloc (.cells #[.int .i64 op, .int .i64 a, .int .i64 b, .int .i64 c, .int .i64 i] 23) := ⟨_, rfl⟩
  have hb3 : Below w2.heap.size w2 w3 := by rw [hw3]; exact (Below.refl _ _).alloc (Nat.le_refl _) _
  have hK : w3.heap[w2.heap.size]? = some (.cells #[.int .i64 op, .int .i64 a, .int .i64 b, .int .i64 c, .int .i64 i] 23 (0, 0)) := by rw [hw3]; exact heap_alloc_new _ _
  have HI3 := Lib.hid ((hb3.block w.heap.size hlt).trans hI)
  have HB3 := Lib.hid (hB.trans (hb3.mono hB.size))
  have HK := Lib.hid hK
  clear HI HB hb hI hB hb3 hK
  go_upto_region 5 with fail
  rw [← hw3]
  clear hw3 p0 p1 p2 p3 p4 pz
  obtain ⟨p0, p1, p2, p3, p4, pz⟩ := blk5 HI3.out
  obtain ⟨bk, hbk⟩ : ∃ bk, bk = w2.heap.size := ⟨_, rfl⟩
  rw [← hbk] at HK ⊢
  clear hbk hlt
  go_wp2_with fail
  refine (HTX.out _ (HT.out _ HB3.out)).mono ?_
  rintro e w4 ⟨rfl, hb⟩
  have hI := (hb.block _ (lt_of_block HI3.out)).trans HI3.out
  have hK := (hb.block _ (lt_of_block HK.out)).trans HK.out
  have hB := HB3.out.trans (hb.mono HB3.out.size)
  have HI4 := Lib.hid hI
  have HK4 := Lib.hid hK
  have HB4 := Lib.hid hB
  clear hb hI hK hB HI3 HB3 HK p0 p1 p2 p3 p4 pz
  go_wp2_with fail
  refine (HR.out _ HB4.out).mono ?_
  rintro e w5 ⟨rfl, hb⟩
  have hI := (hb.block _ (lt_of_block HI4.out)).trans HI4.out
  have hK := (hb.block _ (lt_of_block HK4.out)).trans HK4.out
  have hB := HB4.out.trans (hb.mono HB4.out.size)
  obtain ⟨p0, p1, p2, p3, p4, pz⟩ := blk5 hI
  obtain ⟨q0, q1, q2, q3, q4, qz⟩ := blk5 hK
  have hl1 := lt_of_block hI
  have hl2 := lt_of_block hK
  have HB5 := Lib.hid hB
  clear hb hI hK hB HI4 HB4 HK4
  go_wp2_with fail
  go_ret
  clear p0 p1 p2 p3 p4 pz q0 q1 q2 q3 q4 qz
  exact ⟨rfl, HB5.out.alloc HB5.out.size _⟩

theorem back_law (op a b c i : Int) (m : Int) (t0 t1 : TypeId) (p0 p1 : Value) (w : World) (h1 : -9223372036854775808 ≤ op) (h2 : op ≤ 9223372036854775807)
    (hv0 : w.cell? ⟨0, 0, none⟩ = some (.iface t0 p0)) (hv1 : w.cell? ⟨1, 0, none⟩ = some (.iface t1 p1)) (hm : w.cell? ⟨2, 0, none⟩ = some (.int .i64 m)) (htab : Lib.TabIs Tryd.prog w "internal/strconv.uint64pow10" .u64 Lib.pow10Tab) :
    Calls Tryd.prog 5 #[.agg #[.int .i64 op, .int .i64 a, .int .i64 b, .int .i64 c, .int .i64 i]] w fun e w' => e = .returned (.bool true) ∧ Below w.heap.size w w' := by
  rcases mayE_cases op a b c i with e | e
  · exact back_ok op a b c i m t0 t1 p0 p1 w h1 h2 e hv0 hv1 hm htab
  · exact back_bad op a b c i _ w h1 h2 e rfl

end Go.Proofs.YthnehhidlaggeaaDoor
