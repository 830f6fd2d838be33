/- machine.Shown: what it does. -/
import Derived.Test.YthnehhidlaggeaaRun
import Derived.Deep.MidRow
namespace Go.Proofs.Ythnehhidlaggeaa
set_option linter.unusedVariables false
set_option linter.unusedSimpArgs false
open Go.RowKit Mc

theorem list17 {l : List Value} (h : l.length = 17) : ∃ c0 c1 c2 c3 c4 c5 c6 c7 c8 c9 c10 c11 c12 c13 c14 c15 c16, l = [c0, c1, c2, c3, c4, c5, c6, c7, c8, c9, c10, c11, c12, c13, c14, c15, c16] := by
  match l, h with
  | [c0, c1, c2, c3, c4, c5, c6, c7, c8, c9, c10, c11, c12, c13, c14, c15, c16], _ => exact ⟨_, _, _, _, _, _, _, _, _, _, _, _, _, _, _, _, _, rfl⟩

set_option maxRecDepth 100000 in
set_option maxHeartbeats 1000000 in
theorem mshown_ok (pc pd : Option Addr) (cl dl : List Int) (n kn d kd M fuel : Nat) (w : World) (hn : cl.length = n) (hd : dl.length = d) (hc : SliceAt w .u32 pc cl) (hdd : SliceAt w .i32 pd dl) (hi : In32 dl) (h : mayImage n d M) (hf : fuel ≤ 300000) (m : Mach) (hm : m = run n (n + d) fuel (mBegin cl dl M)) :
    Calls Try.prog 17 #[.agg #[.slice pc n kn, .slice pd d kd, .int .i64 M], .int .i64 fuel] w fun e w' => e = .returned (.tuple #[regsV m.R m.pc, .int .i64 0]) ∧ Below w.heap.size w w' := by
  have H : Hid (∀ w', Below w.heap.size w w' → Calls Try.prog 39 #[.agg #[.slice pc n kn, .slice pd d kd, .int .i64 M], .int .i64 fuel] w' fun e w'' => ∃ x, e = .returned (.tuple #[.pointer (some ⟨x, 0, none⟩), .int .i64 0]) ∧ ∃ B g ov, w'.heap.size ≤ B ∧ Below w'.heap.size w' w'' ∧ MachAt w'' B x g n (n + d) (endOf m) ov m) := by
    intro w' hb
    rw [hm]
    exact ran_ok pc pd cl dl n kn d kd M fuel w' hn hd (hc.below hb) (hdd.below hb) hi h hf
  clear hn hd hc hdd hi h hm
  obtain ⟨CS, hcs⟩ : ∃ CS, CS = m.R.map (Value.int .i32) ++ [Value.int .i64 m.pc] := ⟨_, rfl⟩
  have hV : regsV m.R m.pc = .agg CS.toArray := by rw [hcs]; rfl
  rw [hV]
  have HCS := Lib.hid hcs
  clear hcs hV
  go_enter Try.func17, Try.ntmps17
  go_wp2_with fail
  refine (H.out _ (((Below.refl _ _).alloc (Nat.le_refl _) _).alloc (by simp) _)).mono ?_
  rintro e w2 ⟨x, rfl, B, g, ov, hBs, hb, hM⟩
  have hI := (hb.block (w.heap.size + 1) (by simp)).trans (heap_alloc_new2 w _ _)
  have hB : Below w.heap.size w w2 := (((Below.refl _ _).alloc (Nat.le_refl _) _).alloc (by simp) _).trans (hb.mono (by simp; omega))
  have hlen : CS.length = 17 := by rw [HCS.out, List.length_append, List.length_map, hM.regs]; rfl
  have hra : w2.rangeAt x 0 CS := by
    intro j v hj
    rw [Nat.zero_add, hM.cell, ← hj]
    have hj17 : j < 17 := by
      have := (List.getElem?_eq_some_iff.1 hj).1
      omega
    have e : cellsOf m (endOf m) ov g n (n + d) = (CS ++ [.int .i64 (endOf m), .int .i32 m.value, ov, .int .i64 m.steps, .int .i64 n, .int .i64 (n + d), .slice (some ⟨g, 0, none⟩) m.words.length m.words.length]).toArray := by
      rw [HCS.out, cellsOf]
      simp
    rw [e, List.getElem?_toArray, List.getElem?_append_left (by omega)]
  have hth : w2.there (w.heap.size + 1) 0 CS.toArray.size := by
    intro j hj
    rw [List.size_toArray, hlen] at hj
    refine ⟨?_, by simp [World.frozen?, hI]⟩
    rw [cell_of_row w2 _ _ _ _ _ hI]
    simp
    omega
  have hi1 : (Try.prog.info? 43).map (·.size) = some CS.length := by rw [hlen]; kernel_rfl
  have hi2 : (Try.prog.info? 43).map (·.size) = some CS.toArray.size := by rw [List.size_toArray]; exact hi1
  have h1c : CS.toArray.all (·.oneCell') = true := by
    refine all_oneCell_toArray ?_
    intro v hv
    rw [HCS.out] at hv
    rcases List.mem_append.1 hv with h | h
    · obtain ⟨y, _, rfl⟩ := List.mem_map.1 h
      rfl
    · simp only [List.mem_singleton] at h
      subst h
      rfl
  have HB := Lib.hid hB
  have HL := Lib.hid hlen
  have HRA := Lib.hid hra
  have HTH := Lib.hid hth
  have HI1 := Lib.hid hi1
  have HI2 := Lib.hid hi2
  have H1C := Lib.hid h1c
  clear hb hB hI hM hBs hlen hra hth hi1 hi2 h1c
  go_wp2_with (first
    | (refine wpList_load_mid (by rfl) 43 (.tmp 20) (by rfl) x 0 (by rfl) CS _ HRA.out Try.underlying43 (by rfl) HI1.out ?_)
    | (refine wpList_store_mid (by rfl) 43 (.tmp 4) (.tmp 21) (by rfl) (w.heap.size + 1) 0 CS.toArray (by rfl) (by rfl) HTH.out HI2.out H1C.out ?_))
  have hth := HTH.out
  rw [List.size_toArray] at hth
  have hq : ∀ (W : World), W = w2.setCells (w.heap.size + 1) 0 CS → W.rangeAt (w.heap.size + 1) 0 CS := by
    rintro W rfl
    exact World.rangeAt_setCells_same w2 (w.heap.size + 1) 0 CS hth
  have hbw : ∀ (W : World), W = w2.setCells (w.heap.size + 1) 0 CS → Below w.heap.size w W := by
    rintro W rfl
    exact below_cells (by omega) _ _ HB.out
  obtain ⟨W, hW⟩ : ∃ W, W = w2.setCells (w.heap.size + 1) 0 CS := ⟨_, rfl⟩
  have hqW := hq W hW
  have hbW := hbw W hW
  rw [← hW]
  clear hq hbw hW hth HRA HTH HI1 HI2 H1C
  obtain ⟨c0, c1, c2, c3, c4, c5, c6, c7, c8, c9, c10, c11, c12, c13, c14, c15, c16, hCS⟩ := list17 HL.out
  clear HCS HL
  subst hCS
  have q0 : W.cell? ⟨w.heap.size + 1, 0, none⟩ = some c0 := by have := hqW 0 c0 rfl; rwa [Nat.zero_add] at this
  have q1 : W.cell? ⟨w.heap.size + 1, 1, none⟩ = some c1 := by have := hqW 1 c1 rfl; rwa [Nat.zero_add] at this
  have q2 : W.cell? ⟨w.heap.size + 1, 2, none⟩ = some c2 := by have := hqW 2 c2 rfl; rwa [Nat.zero_add] at this
  have q3 : W.cell? ⟨w.heap.size + 1, 3, none⟩ = some c3 := by have := hqW 3 c3 rfl; rwa [Nat.zero_add] at this
  have q4 : W.cell? ⟨w.heap.size + 1, 4, none⟩ = some c4 := by have := hqW 4 c4 rfl; rwa [Nat.zero_add] at this
  have q5 : W.cell? ⟨w.heap.size + 1, 5, none⟩ = some c5 := by have := hqW 5 c5 rfl; rwa [Nat.zero_add] at this
  have q6 : W.cell? ⟨w.heap.size + 1, 6, none⟩ = some c6 := by have := hqW 6 c6 rfl; rwa [Nat.zero_add] at this
  have q7 : W.cell? ⟨w.heap.size + 1, 7, none⟩ = some c7 := by have := hqW 7 c7 rfl; rwa [Nat.zero_add] at this
  have q8 : W.cell? ⟨w.heap.size + 1, 8, none⟩ = some c8 := by have := hqW 8 c8 rfl; rwa [Nat.zero_add] at this
  have q9 : W.cell? ⟨w.heap.size + 1, 9, none⟩ = some c9 := by have := hqW 9 c9 rfl; rwa [Nat.zero_add] at this
  have q10 : W.cell? ⟨w.heap.size + 1, 10, none⟩ = some c10 := by have := hqW 10 c10 rfl; rwa [Nat.zero_add] at this
  have q11 : W.cell? ⟨w.heap.size + 1, 11, none⟩ = some c11 := by have := hqW 11 c11 rfl; rwa [Nat.zero_add] at this
  have q12 : W.cell? ⟨w.heap.size + 1, 12, none⟩ = some c12 := by have := hqW 12 c12 rfl; rwa [Nat.zero_add] at this
  have q13 : W.cell? ⟨w.heap.size + 1, 13, none⟩ = some c13 := by have := hqW 13 c13 rfl; rwa [Nat.zero_add] at this
  have q14 : W.cell? ⟨w.heap.size + 1, 14, none⟩ = some c14 := by have := hqW 14 c14 rfl; rwa [Nat.zero_add] at this
  have q15 : W.cell? ⟨w.heap.size + 1, 15, none⟩ = some c15 := by have := hqW 15 c15 rfl; rwa [Nat.zero_add] at this
  have q16 : W.cell? ⟨w.heap.size + 1, 16, none⟩ = some c16 := by have := hqW 16 c16 rfl; rwa [Nat.zero_add] at this
  refine bodyPost_ret (v := .tuple #[.agg #[c0, c1, c2, c3, c4, c5, c6, c7, c8, c9, c10, c11, c12, c13, c14, c15, c16], .int .i64 0]) ?_ rfl ⟨rfl, hbW⟩
  simp [results, Try.results17, go_sem, q0, q1, q2, q3, q4, q5, q6, q7, q8, q9, q10, q11, q12, q13, q14, q15, q16]

end Go.Proofs.Ythnehhidlaggeaa
