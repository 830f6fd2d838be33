/- The reference's Run: the steps, the loop. -/
import Derived.Test.YthnehhidlaggeaaRStep
import Derived.Test.YthnehhidlaggeaaImage
namespace Go.Proofs.Ythnehhidlaggeaa
set_option linter.unusedVariables false
set_option linter.unusedSimpArgs false
open Go.RowKit Mc

theorem free_wrap (c : Int) (h0 : 0 ≤ c) (h1 : c ≤ 4294967295) : Wd.free (wrap32 c) = c := by
  have e : wrap32 c = (c + 2147483648) % 4294967296 - 2147483648 := by unfold wrap32; omega
  rw [e]
  unfold Wd.free
  split <;> omega
theorem insOf_len (d : Option (Int × Int × Int × Int × Int)) : (insOf d).length = 5 := by
  rcases d with _ | ⟨a, b, c, d, e⟩ <;> rfl
theorem codeCells_at : ∀ (l : List Int) (q f : Nat), q < l.length → f < 5 → (codeCells l)[q * 5 + f]? = ((insOf (Cp.dec (l.getD q 0))).map (Value.int .i64))[f]?
  | [], q, f, h, _ => by simp at h
  | c :: t, q, f, h, hf => by
    have e : codeCells (c :: t) = (insOf (Cp.dec c)).map (Value.int .i64) ++ codeCells t := by simp [codeCells]
    have hl : ((insOf (Cp.dec c)).map (Value.int .i64)).length = 5 := by rw [List.length_map, insOf_len]
    rw [e]
    cases q with
    | zero =>
      rw [List.getElem?_append_left (by omega)]
      simp
    | succ q =>
      rw [List.getElem?_append_right (by omega), hl, show (q + 1) * 5 + f - 5 = q * 5 + f by omega]
      rw [codeCells_at t q f (by simpa using h) hf]
      simp
theorem isCells_at (l : List Int) (q : Nat) (h : q < l.length) : (isCells l)[q]? = some (.bool (Cp.dec (l.getD q 0)).isSome) := by
  rw [isCells, List.getElem?_map, List.getD_eq_getElem?_getD, List.getElem?_eq_getElem h]
  rfl

/-- the code as New laid it -/
structure CodeIn (W : World) (gc gi : Nat) (cl : List Int) : Prop where
  ins : ∀ q f, q < cl.length → f < 5 → W.cell? ⟨gc, q * 5 + f, none⟩ = ((insOf (Cp.dec (cl.getD q 0))).map (Value.int .i64))[f]?
  is : ∀ q, q < cl.length → W.cell? ⟨gi, q, none⟩ = some (.bool (Cp.dec (cl.getD q 0)).isSome)

theorem rstep_any {W w : World} {B : Nat} {Fr : Nat → Prop} {x g gc gi n cc ci : Nat} {low : Int} {m : Mach} {cl : List Int} (h : RefW W B Fr x g (.slice (some ⟨gc, 0, none⟩) n cc) (.slice (some ⟨gi, 0, none⟩) n ci) low m w) (ok : Ok m) (hf : m.fin = -1) (hl : low ≤ m.words.length)
    (hn : n ≤ 6000) (hs : m.steps ≤ 1000000) (hout : m.out.length ≤ 1000000) (hcl : cl.length = n) (hu : ∀ j : Nat, 0 ≤ cl.getD j 0 ∧ cl.getD j 0 ≤ 4294967295) (hcode : CodeIn W gc gi cl) (f1 : Fr gc) (f2 : Fr gi) (hw : ∀ k, k < n → m.words.getD k 0 = wrap32 (cl.getD k 0)) :
    Calls Try.prog 41 #[.pointer (some ⟨x, 0, none⟩)] w fun e w' => e = .returned (.tuple #[]) ∧ RefW W B Fr x g (.slice (some ⟨gc, 0, none⟩) n cc) (.slice (some ⟨gi, 0, none⟩) n ci) low (Mc.step n low m) w' := by
  obtain ⟨ov, hM, hK⟩ := id h
  have nc : gc ≠ x := fun e => hK.free.1 (e ▸ f1)
  have ni : gi ≠ x := fun e => hK.free.1 (e ▸ f2)
  have bc := hK.block gc f1
  have bi := hK.block gi f2
  by_cases hp : m.pc < 0 ∨ (n : Int) ≤ m.pc
  · have e : Mc.step n low m = { m with steps := m.steps + 1, fin := 4 } := by unfold Mc.step; rw [if_pos hp]
    rw [e]
    exact rstep_bad h hn hs ni ⟨by rcases hp with h | h; exact .inl h; exact .inr (.inl h)⟩
  · obtain ⟨q, hq⟩ : ∃ q : Nat, m.pc = q := ⟨m.pc.toNat, by omega⟩
    have hqn : q < n := by omega
    have hwq : word m m.pc = wrap32 (cl.getD q 0) := by rw [hq, Mc.word, Int.toNat_natCast]; exact hw q hqn
    have hfr : Wd.free (word m m.pc) = cl.getD q 0 := by rw [hwq]; exact free_wrap _ (hu q).1 (hu q).2
    have his := (World.cell?_of_block bi).trans (hcode.is q (by omega))
    rcases hd : Cp.dec (cl.getD q 0) with _ | ⟨op, a, b, c, i⟩
    · have e : Mc.step n low m = { m with steps := m.steps + 1, fin := 4 } := by unfold Mc.step; rw [if_neg hp, hfr, hd]
      rw [e]
      rw [hd] at his
      exact rstep_bad h hn hs ni ⟨.inr (.inr ⟨q, hq, hqn, his⟩)⟩
    · have e : Mc.step n low m = act n low { m with steps := m.steps + 1 } op a b c i := by unfold Mc.step; rw [if_neg hp, hfr, hd]
      rw [e]
      have hmay := dec_ok hd (hu q).1 (hu q).2
      obtain ⟨o1, o2, a1, a2, b1, b2, c1, c2, i1, i2, _⟩ := Cp.ok_bounds op a b c i hmay
      obtain ⟨a, rfl⟩ := Int.eq_ofNat_of_zero_le a1
      obtain ⟨b, rfl⟩ := Int.eq_ofNat_of_zero_le b1
      obtain ⟨c, rfl⟩ := Int.eq_ofNat_of_zero_le c1
      have hins : ∀ f, f < 5 → w.cell? ⟨gc, q * 5 + f, none⟩ = ([Value.int .i64 op, .int .i64 a, .int .i64 b, .int .i64 c, .int .i64 i] : List Value)[f]? := by
        intro f hf5
        rw [World.cell?_of_block bc, hcode.ins q f (by omega) hf5, hd]
        rfl
      have hI : InsAt w x g gc gi q op a b c i := ⟨hins 0 (by omega), hins 1 (by omega), hins 2 (by omega), hins 3 (by omega), hins 4 (by omega), by rw [hd] at his; exact his, nc, ni⟩
      have i0 : op = 3 → 0 ≤ i := by
        rintro rfl
        exact movh_i _ _ _ _ hmay
      have cases : (op = 1 ∨ op = 2 ∨ op = 3 ∨ op = 16) ∨ (4 ≤ op ∧ op ≤ 15) ∨ (op = 17 ∨ op = 18) ∨ (op = 19 ∨ op = 20 ∨ op = 21 ∨ op = 22) ∨ (op = 23 ∨ op = 24 ∨ op = 25) := by omega
      rcases cases with hop | hop | hop | hop | hop
      · exact step_1 h ok hf hl q hq hqn hn hs a b c op i hI (by omega) (by omega) (by omega) o1 o2 i1 i2 i0 hout hop
      · exact step_2 h ok hf hl q hq hqn hn hs a b c op i hI (by omega) (by omega) (by omega) o1 o2 i1 i2 i0 hout hop
      · exact step_3 h ok hf hl q hq hqn hn hs a b c op i hI (by omega) (by omega) (by omega) o1 o2 i1 i2 i0 hout hop
      · exact step_4 h ok hf hl q hq hqn hn hs a b c op i hI (by omega) (by omega) (by omega) o1 o2 i1 i2 i0 hout hop
      · exact step_5 h ok hf hl q hq hqn hn hs a b c op i hI (by omega) (by omega) (by omega) o1 o2 i1 i2 i0 hout hop

/-- a step keeps what the loop leans on -/
theorem step_ok {n low : Int} {m : Mach} (h : Ok m) (n0 : 0 ≤ n) (n1 : n ≤ 6000) : Ok (Mc.step n low m) ∧ Same n { m with steps := m.steps + 1 } (Mc.step n low m) := by
  have h1 : Ok { m with steps := m.steps + 1 } := ⟨h.regs, h.reg_in, h.word_in, h.mem⟩
  unfold Mc.step
  split
  · exact ⟨h1.fin 4, ⟨rfl, rfl, fun _ _ => rfl, Nat.le_succ _⟩⟩
  · rename_i hp
    split
    · exact ⟨h1.fin 4, ⟨rfl, rfl, fun _ _ => rfl, Nat.le_succ _⟩⟩
    · rename_i op a b c i hd
      have hw := h.word_in m.pc
      have fb := Wd.free_bd _ hw.1 hw.2
      have hmay := dec_ok hd fb.1 fb.2
      obtain ⟨_, _, _, _, _, _, _, _, i1, i2, _⟩ := Cp.ok_bounds op a b c i hmay
      exact ⟨h1.act n low op a b c i i1 i2 (by show 0 ≤ m.pc; omega) (by show m.pc < 6000; omega), act_same n low _ op a b c i n0⟩

/-- the head of a round -/
structure RLoop (W : World) (B : Nat) (Fr : Nat → Prop) (x g gc gi n cc ci : Nat) (low : Int) (cl : List Int) (fuel : Nat) (m0 : Mach) (gk : Nat) (mm : Mach) (wr : World) : Prop where
  at_ : RefW W B Fr x g (.slice (some ⟨gc, 0, none⟩) n cc) (.slice (some ⟨gi, 0, none⟩) n ci) low mm wr
  ok : Ok mm
  fin : Fin mm
  left : gk + mm.steps = fuel
  out : mm.out.length ≤ mm.steps
  words : ∀ k, k < n → mm.words.getD k 0 = wrap32 (cl.getD k 0)
  len : low ≤ mm.words.length
  goes : run n low gk mm = run n low fuel m0

/-- a machine of the reference behind a run, in blocks that are new -/
def RRanAt (w w' : World) (x : Nat) (low : Int) (m : Mach) : Prop :=
  ∃ B g cv iv ov, w.heap.size ≤ B ∧ Below w.heap.size w w' ∧ RefAt w' B x g cv iv low ov m

theorem RefNew.blocks {w w' : World} {cl dl : List Int} {M : Nat} {cv iv : Value} (h : RefNew w w' cl dl M cv iv) (h0 : 0 < cl.length) :
    ∃ gc cc gi ci, cv = .slice (some ⟨gc, 0, none⟩) cl.length cc ∧ iv = .slice (some ⟨gi, 0, none⟩) cl.length ci ∧ CodeIn w' gc gi cl ∧ gc < w'.heap.size ∧ gi < w'.heap.size ∧
      gc ≠ w.heap.size + 1 + 1 ∧ gc ≠ w.heap.size + 1 ∧ gi ≠ w.heap.size + 1 + 1 ∧ gi ≠ w.heap.size + 1 := by
  have hc := h.code
  have hi := h.is
  rcases hc.2 with ⟨_, e⟩ | ⟨gc, cc, cur, rfl, _, hgc, _⟩
  · omega
  rcases hi.2 with ⟨_, e⟩ | ⟨gi, ci, cur2, rfl, _, hgi, _⟩
  · omega
  refine ⟨gc, cc, gi, ci, rfl, rfl, ⟨?_, ?_⟩, lt_of_block hgc, lt_of_block hgi, ?_, ?_, ?_, ?_⟩
  · intro q f hq hf
    obtain ⟨u, hu⟩ : ∃ u, ((insOf (Cp.dec (cl.getD q 0))).map (Value.int .i64))[f]? = some u := by
      refine ⟨_, List.getElem?_eq_getElem ?_⟩
      rw [List.length_map, insOf_len]
      exact hf
    have := hc.cells (g := gc) rfl (q * 5 + f) u (by rw [codeCells_at cl q f hq hf]; exact hu)
    rw [add_at] at this
    rw [this, hu]
  · intro q hq
    have := hi.cells (g := gi) rfl q _ (isCells_at cl q hq)
    rwa [add_at] at this
  · rintro rfl
    exact own_ne hc h.ref.mach (by decide) rfl
  · rintro rfl
    exact own_ne hc h.ref.mem (by decide) rfl
  · rintro rfl
    exact own_ne hi h.ref.mach (by decide) rfl
  · rintro rfl
    exact own_ne hi h.ref.mem (by decide) rfl

set_option maxRecDepth 100000 in
set_option maxHeartbeats 2000000 in
theorem rrun_any (pc pd : Option Addr) (cl dl : List Int) (n kn d kd M fuel : Nat) (w : World) (hn : cl.length = n) (hd : dl.length = d) (hc : SliceAt w .u32 pc cl) (hdd : SliceAt w .i32 pd dl) (hu : ∀ j : Nat, 0 ≤ cl.getD j 0 ∧ cl.getD j 0 ≤ 4294967295) (hi : In32 dl) (h : mayImage n d M) (hf : fuel ≤ 300000) (m : Mach) (hm : m = run n (n + d) fuel (mBegin cl dl M)) :
    Calls Try.prog 21 #[.agg #[.slice pc n kn, .slice pd d kd, .int .i64 M], .int .i64 fuel] w fun e w' => ∃ x, e = .returned (.pointer (some ⟨x, 0, none⟩)) ∧ RRanAt w w' x (n + d) m := by
  have hmay := h
  unfold mayImage at hmay
  have HN : Hid (∀ w', Below w.heap.size w w' → Calls Try.prog 40 #[.agg #[.slice pc n kn, .slice pd d kd, .int .i64 M]] w' fun e w'' => e = .returned (.pointer (some ⟨w'.heap.size + 1 + 1, 0, none⟩)) ∧ RefMade w' w'' cl dl M) :=
    fun w' hb => rnew_any pc pd cl dl n kn d kd M w' hn hd (hc.below hb) (hdd.below hb) hu (by omega) (by omega) (by omega) (by omega)
  have HOK : Hid (Ok (mBegin cl dl M)) := mBegin_ok cl dl M (by omega) hi (by omega)
  have HM := Lib.hid hm
  have HU := Lib.hid hu
  have HCL := Lib.hid hn
  have HDL := Lib.hid hd
  clear hc hdd hi h hm hu hn hd
  go_enter Try.func21, Try.ntmps21
  go_wp2_with fail
  refine (HN.out _ ((Below.refl _ _).alloc (Nat.le_refl _) _)).mono ?_
  rintro e w1 ⟨rfl, cv, iv, hR⟩
  have hB1 : Below w.heap.size w w1 := ((Below.refl _ _).alloc (Nat.le_refl _) _).trans (hR.below.mono (by simp))
  obtain ⟨gc, cc, gi, ci, rfl, rfl, hcode, l1, l2, n1, n2, n3, n4⟩ := hR.blocks (by rw [HCL.out]; omega)
  have hr := hR.ref
  rw [HCL.out, HDL.out] at hr
  obtain ⟨x, hx⟩ : ∃ x, x = (w.alloc (.cells #[.slice pc n kn, .slice pd d kd, .int .i64 M] 34)).heap.size + 1 + 1 := ⟨_, rfl⟩
  obtain ⟨g, hg⟩ : ∃ g, g = (w.alloc (.cells #[.slice pc n kn, .slice pd d kd, .int .i64 M] 34)).heap.size + 1 := ⟨_, rfl⟩
  obtain ⟨B, hB⟩ : ∃ B, B = (w.alloc (.cells #[.slice pc n kn, .slice pd d kd, .int .i64 M] 34)).heap.size := ⟨_, rfl⟩
  rw [← hx] at hr n1 n3 ⊢
  rw [← hg] at hr n2 n4
  rw [← hB] at hr
  have hBB : w.heap.size ≤ B := by rw [hB]; simp
  have hxB : w.heap.size < x ∧ w.heap.size < g := by rw [hx, hg]; simp; omega
  have hKept : Kept (fun k => k ≠ x ∧ k ≠ g ∧ k < w1.heap.size) x g w1 w1 (Value.slice none 0 0).ownBlock :=
    ⟨rfl, rfl, rfl, Nat.le_refl _, fun _ _ => rfl, ⟨fun h => h.1 rfl, fun h => h.2.1 rfl⟩, fun k hk => by simp [Value.ownBlock] at hk, fun k h => h.2.2⟩
  have hwords : ∀ k, k < n → (mBegin cl dl M).words.getD k 0 = wrap32 (cl.getD k 0) := by
    intro k hk
    have hcl := HCL.out
    show (cl.map wrap32 ++ (dl ++ List.replicate (M - cl.length - dl.length) 0)).getD k 0 = _
    rw [List.getD_eq_getElem?_getD, List.getElem?_append_left (by rw [List.length_map]; omega), List.getElem?_map, List.getD_eq_getElem?_getD, List.getElem?_eq_getElem (by omega)]
    rfl
  have hlen : ((n : Int) + d) ≤ (mBegin cl dl M).words.length := by
    have hcl := HCL.out
    have hdl := HDL.out
    simp [mBegin]
    omega
  have H0 : Hid (RLoop w1 B (fun k => k ≠ x ∧ k ≠ g ∧ k < w1.heap.size) x g gc gi n cc ci (n + d) cl fuel (mBegin cl dl M) fuel (mBegin cl dl M) w1) :=
    ⟨⟨_, hr, hKept⟩, HOK.out, .inl rfl, rfl, Nat.le_refl _, hwords, hlen, rfl⟩
  have HCODE := Lib.hid hcode
  have HB1 := Lib.hid hB1
  have HFR : Hid ((gc ≠ x ∧ gc ≠ g ∧ gc < w1.heap.size) ∧ (gi ≠ x ∧ gi ≠ g ∧ gi < w1.heap.size)) := ⟨⟨n1, n2, l1⟩, ⟨n3, n4, l2⟩⟩
  have HXB := Lib.hid hxB
  clear hR hcode hB1 hr hx hg hB hKept hwords hlen n1 n2 n3 n4 l1 l2 hxB HN
  go_wp2_with fail
  go_loopg [] fuel (fun gk wr => ∃ mm, RLoop w1 B (fun k => k ≠ x ∧ k ≠ g ∧ k < w1.heap.size) x g gc gi n cc ci (n + d) cl fuel (mBegin cl dl M) gk mm wr)
  case atStart => exact ⟨_, H0.out⟩
  case round =>
    obtain ⟨mm, hL⟩ := hrel
    obtain ⟨ov, hM, hK⟩ := hL.at_
    have t22 := hM.tail.2.2.1
    have t24 := hM.tail.2.2.2.2
    have hleft := hL.left
    have HL := Lib.hid hL
    have HMM := Lib.hid hM
    have HKK := Lib.hid hK
    clear hM hK hL
    by_cases hfin : mm.fin < 0
    · by_cases hst : (mm.steps : Int) < fuel
      · obtain ⟨k, rfl⟩ : ∃ k, gk = k + 1 := ⟨gk - 1, by omega⟩
        have hf1 : mm.fin = -1 := by rcases HL.out.fin with e | e <;> omega
        have HS : Hid (Calls Try.prog 41 #[.pointer (some ⟨x, 0, none⟩)] wr fun e w' => e = .returned (.tuple #[]) ∧ RefW w1 B (fun k => k ≠ x ∧ k ≠ g ∧ k < w1.heap.size) x g (.slice (some ⟨gc, 0, none⟩) n cc) (.slice (some ⟨gi, 0, none⟩) n ci) (n + d) (Mc.step n (n + d) mm) w') :=
          rstep_any HL.out.at_ HL.out.ok hf1 HL.out.len (by omega) (by omega) (by have := HL.out.out; omega) HCL.out HU.out HCODE.out HFR.out.1 HFR.out.2 HL.out.words
        have HF1 := Lib.hid hf1
        clear hf1
        go_wp2_with fail
        refine HS.out.mono ?_
        rintro e w2 ⟨rfl, hr2⟩
        have HR2 := Lib.hid hr2
        clear hr2
        go_wp2_with fail
        go_roundg k
        case measure => omega
        case rel =>
          obtain ⟨ok2, sm⟩ := step_ok (low := ((n : Int) + d)) HL.out.ok (show (0 : Int) ≤ n by omega) (by omega)
          have s1 : (Mc.step n (n + d) mm).steps = mm.steps + 1 := sm.steps
          have s2 : (Mc.step n (n + d) mm).words.length = mm.words.length := sm.len
          have s3 : (Mc.step n (n + d) mm).out.length ≤ mm.out.length + 1 := sm.out
          refine ⟨Mc.step n (n + d) mm, HR2.out, ok2, step_Fin _ _ _ HL.out.fin, by omega, by have := HL.out.out; omega, ?_, by rw [s2]; exact HL.out.len, ?_⟩
          · intro j hj
            exact (sm.low j (by omega)).trans (HL.out.words j hj)
          · rw [← HL.out.goes, run, if_pos hfin]
      · go_wp2_with fail
        go_ret
        obtain rfl : gk = 0 := by omega
        have e1 : m = mm := by rw [HM.out, ← HL.out.goes]; rfl
        refine ⟨_, rfl, B, g, _, _, ov, hBB, ?_, by rw [e1]; exact HMM.out⟩
        exact HB1.out.trans ⟨HKK.out.os, HKK.out.tape, HKK.out.output, HKK.out.size, fun j hj => HKK.out.block j ⟨by have := HXB.out.1; omega, by have := HXB.out.2; omega, Nat.lt_of_lt_of_le hj HB1.out.size⟩⟩
    · go_wp2_with fail
      go_ret
      have e1 : m = mm := by rw [HM.out, ← HL.out.goes, run_end (by omega)]
      refine ⟨_, rfl, B, g, _, _, ov, hBB, ?_, by rw [e1]; exact HMM.out⟩
      exact HB1.out.trans ⟨HKK.out.os, HKK.out.tape, HKK.out.output, HKK.out.size, fun j hj => HKK.out.block j ⟨by have := HXB.out.1; omega, by have := HXB.out.2; omega, Nat.lt_of_lt_of_le hj HB1.out.size⟩⟩

end Go.Proofs.Ythnehhidlaggeaa
