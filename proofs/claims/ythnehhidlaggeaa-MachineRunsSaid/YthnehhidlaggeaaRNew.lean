/- The reference's New: a machine of an image. -/
import Derived.Test.YthnehhidlaggeaaRMat
import Derived.Test.YthnehhidlaggeaaBegun
import Derived.Test.YthnehhidlaggeaaRdec
import Derived.Test.YthnehhidlaggeaaRw1
import Derived.Deep.RegionHeld3
import Derived.Deep.RegionLaw
namespace Go.Proofs.Ythnehhidlaggeaa
set_option linter.unusedVariables false
set_option linter.unusedSimpArgs false
open Go.RowKit Mc

theorem instr_info : (Try.prog.info? 24).map (fun i => (i.zero, i.size, i.bytes)) = some (some (.agg #[.int .i64 0, .int .i64 0, .int .i64 0, .int .i64 0, .int .i64 0]), 5, 40) := by kernel_rfl
theorem bool_info : (Try.prog.info? 4).map (fun i => (i.zero, i.size, i.bytes)) = some (some (.bool false), 1, 1) := by kernel_rfl

/-- an instruction's cells, as they are read of a word -/
def insOf (d : Option (Int × Int × Int × Int × Int)) : List Int :=
  match d with
  | none => [0, 0, 0, 0, 0]
  | some (op, a, b, c, i) => [op, a, b, c, i]
def codeCells (l : List Int) : List Value := l.flatMap fun c => (insOf (Cp.dec c)).map (Value.int .i64)
def isCells (l : List Int) : List Value := l.map fun c => .bool (Cp.dec c).isSome
theorem insOf_eq (d : Option (Int × Int × Int × Int × Int)) : ∃ d0 d1 d2 d3 d4, insOf d = [d0, d1, d2, d3, d4] ∧ Cp.decV d = .agg #[.int .i64 d0, .int .i64 d1, .int .i64 d2, .int .i64 d3, .int .i64 d4] := by
  rcases d with _ | ⟨d0, d1, d2, d3, d4⟩
  · exact ⟨0, 0, 0, 0, 0, rfl, rfl⟩
  · exact ⟨d0, d1, d2, d3, d4, rfl, rfl⟩
theorem take_snoc_getD (l : List Int) (k : Nat) (hk : k < l.length) : l.take (k + 1) = l.take k ++ [l.getD k 0] := by
  rw [List.take_succ_eq_append_getElem hk, List.getD_eq_getElem?_getD, List.getElem?_eq_getElem hk]; rfl
theorem codeCells_snoc (l : List Int) (k : Nat) (hk : k < l.length) : codeCells (l.take (k + 1)) = codeCells (l.take k) ++ (insOf (Cp.dec (l.getD k 0))).map (Value.int .i64) := by
  rw [take_snoc_getD l k hk, codeCells, List.flatMap_append]
  simp [codeCells]
theorem isCells_snoc (l : List Int) (k : Nat) (hk : k < l.length) : isCells (l.take (k + 1)) = isCells (l.take k) ++ [.bool (Cp.dec (l.getD k 0)).isSome] := by
  rw [take_snoc_getD l k hk, isCells, List.map_append]
  rfl
theorem cells5_of {w : World} {b : Nat} {t : TypeId} {v0 v1 v2 v3 v4 : Value} (h : w.heap[b]? = some (.cells #[v0, v1, v2, v3, v4] t (0, 0))) : ∀ j u, [v0, v1, v2, v3, v4][j]? = some u → w.cell? ((⟨b, 0, none⟩ : Addr).add j) = some u := by
  intro j u hj
  rw [add_at, cell_of_row w b j _ _ _ h, ← hj]
  simp

/-- the machine while it is made: kc instructions, ki answers, these words -/
structure NewAt (w wr : World) (img : Array Value) (low : Int) (cl : List Int) (kc ki : Nat) (ws : List Int) (cv iv : Value) : Prop where
  below : Below w.heap.size w wr
  box : wr.heap[w.heap.size]? = some (.cells img 34 (0, 0))
  ref : RefAt wr w.heap.size (w.heap.size + 1 + 1) (w.heap.size + 1) cv iv low (.slice none 0 0) (m0 ws)
  code : wr.ownsRow w.heap.size 24 5 cv kc (codeCells (cl.take kc))
  is : wr.ownsRow w.heap.size 4 1 iv ki (isCells (cl.take ki))
section
variable {w wr w1 : World} {img : Array Value} {low : Int} {cl ws : List Int} {kc ki : Nat} {cv iv : Value}
theorem NewAt.lt (h : NewAt w wr img low cl kc ki ws cv iv) : w.heap.size + 1 + 1 < wr.heap.size := h.ref.lt.1
theorem NewAt.go (h : NewAt w wr img low cl kc ki ws cv iv) (hb : Below wr.heap.size wr w1) : NewAt w w1 img low cl kc ki ws cv iv :=
  ⟨h.below.trans (hb.mono (by have := h.lt; omega)), (hb.block _ (by have := h.lt; omega)).trans h.box, h.ref.below hb,
   h.code.kept (row := none) ⟨hb.os, hb.tape, hb.output, hb.size, fun k hk _ => hb.block k hk⟩ (by cases hv : cv.ownBlock <;> simp),
   h.is.kept (row := none) ⟨hb.os, hb.tape, hb.output, hb.size, fun k hk _ => hb.block k hk⟩ (by cases hv : iv.ownBlock <;> simp)⟩
theorem NewAt.word (h : NewAt w wr img low cl kc ki ws cv iv) (a : Nat) (v : Int) : NewAt w (wr.setCell ⟨w.heap.size + 1, a, none⟩ (.int .i32 v)) img low cl kc ki (ws.set a v) cv iv := by
  refine ⟨h.below.setCell (by simp) _, (Below.heap_setCell _ _ _ _ (by simp)).trans h.box, h.ref.setWord a v, ?_, ?_⟩
  · exact h.code.kept (grown_set wr _ a _) (.inr (fun e => own_ne h.code h.ref.mem (by decide) e.symm))
  · exact h.is.kept (grown_set wr _ a _) (.inr (fun e => own_ne h.is h.ref.mem (by decide) e.symm))
/-- the code's row has grown, and its place is stored -/
theorem NewAt.more (h : NewAt w wr img low cl kc ki ws cv iv) (hk : kc < cl.length) {v' : Value} {w2 : World} (hb : Below wr.heap.size wr w1) (hown : w2.ownsRow w.heap.size 24 5 v' (kc + 1) (codeCells (cl.take kc) ++ (insOf (Cp.dec (cl.getD kc 0))).map (Value.int .i64))) (hg : w1.grownBy w2 cv.ownBlock) :
    NewAt w (w2.setCell ⟨w.heap.size + 1 + 1, 0, none⟩ v') img low cl (kc + 1) ki ws v' iv := by
  have h1 := h.go hb
  have cne : ∀ k, cv.ownBlock = some k → w.heap.size ≤ k := fun k hk => (h1.code.lt k hk).1
  have b2 : Below w.heap.size w w2 := h1.below.trans ⟨hg.os, hg.tape, hg.output, hg.size, fun k hk => hg.block k (by have := h1.lt; omega) (fun e => by have := cne k e.symm; omega)⟩
  have hbx : some w.heap.size ≠ cv.ownBlock := own_ne h1.code h1.box (by decide)
  have r2 : RefAt w2 w.heap.size (w.heap.size + 1 + 1) (w.heap.size + 1) cv iv low (.slice none 0 0) (m0 ws) :=
    h1.ref.grown hg (fun e => own_ne h1.code h1.ref.mach (by decide) e.symm) (fun e => own_ne h1.code h1.ref.mem (by decide) e.symm) (.inl rfl)
  have i2 : w2.ownsRow w.heap.size 4 1 iv ki (isCells (cl.take ki)) := by
    refine h1.is.kept hg ?_
    cases hv : iv.ownBlock with
    | none => exact .inl rfl
    | some k =>
      refine .inr (fun e => ?_)
      rcases h1.is.2 with ⟨rfl, _⟩ | ⟨g', cap, cur, rfl, _, hh, _⟩
      · simp [Value.ownBlock] at hv
      · have := own_ne h1.code hh (by decide)
        simp [Value.ownBlock] at hv
        subst hv
        exact this e
  refine ⟨b2.setCell (by simp; omega) _, ?_, r2.setCode v', ?_, ?_⟩
  · rw [Below.heap_setCell _ _ _ _ (by simp; omega), hg.block _ (by have := h1.lt; omega) hbx]
    exact h1.box
  · rw [codeCells_snoc cl kc hk]
    exact hown.kept (grown_set w2 _ 0 _) (.inr (fun e => own_ne hown r2.mach (by decide) e.symm))
  · exact i2.kept (grown_set w2 _ 0 _) (.inr (fun e => own_ne i2 r2.mach (by decide) e.symm))
/-- the answers' row has grown, and its place is stored -/
theorem NewAt.told (h : NewAt w wr img low cl kc ki ws cv iv) (hk : ki < cl.length) {v' : Value} {w2 : World} (hb : Below wr.heap.size wr w1) (hown : w2.ownsRow w.heap.size 4 1 v' (ki + 1) (isCells (cl.take ki) ++ [.bool (Cp.dec (cl.getD ki 0)).isSome])) (hg : w1.grownBy w2 iv.ownBlock) :
    NewAt w (w2.setCell ⟨w.heap.size + 1 + 1, 1, none⟩ v') img low cl kc (ki + 1) ws cv v' := by
  have h1 := h.go hb
  have cne : ∀ k, iv.ownBlock = some k → w.heap.size ≤ k := fun k hk => (h1.is.lt k hk).1
  have b2 : Below w.heap.size w w2 := h1.below.trans ⟨hg.os, hg.tape, hg.output, hg.size, fun k hk => hg.block k (by have := h1.lt; omega) (fun e => by have := cne k e.symm; omega)⟩
  have hbx : some w.heap.size ≠ iv.ownBlock := own_ne h1.is h1.box (by decide)
  have r2 : RefAt w2 w.heap.size (w.heap.size + 1 + 1) (w.heap.size + 1) cv iv low (.slice none 0 0) (m0 ws) :=
    h1.ref.grown hg (fun e => own_ne h1.is h1.ref.mach (by decide) e.symm) (fun e => own_ne h1.is h1.ref.mem (by decide) e.symm) (.inl rfl)
  have i2 : w2.ownsRow w.heap.size 24 5 cv kc (codeCells (cl.take kc)) := by
    refine h1.code.kept hg ?_
    cases hv : cv.ownBlock with
    | none => exact .inl rfl
    | some k =>
      refine .inr (fun e => ?_)
      rcases h1.code.2 with ⟨rfl, _⟩ | ⟨g', cap, cur, rfl, _, hh, _⟩
      · simp [Value.ownBlock] at hv
      · have := own_ne h1.is hh (by decide)
        simp [Value.ownBlock] at hv
        subst hv
        exact this e
  refine ⟨b2.setCell (by simp; omega) _, ?_, r2.setIs v', ?_, ?_⟩
  · rw [Below.heap_setCell _ _ _ _ (by simp; omega), hg.block _ (by have := h1.lt; omega) hbx]
    exact h1.box
  · exact i2.kept (grown_set w2 _ 1 _) (.inr (fun e => own_ne i2 r2.mach (by decide) e.symm))
  · rw [isCells_snoc cl ki hk]
    exact hown.kept (grown_set w2 _ 1 _) (.inr (fun e => own_ne hown r2.mach (by decide) e.symm))
end

/-- the machine that New made -/
structure RefNew (w w' : World) (cl dl : List Int) (M : Nat) (cv iv : Value) : Prop where
  below : Below w.heap.size w w'
  ref : RefAt w' w.heap.size (w.heap.size + 1 + 1) (w.heap.size + 1) cv iv (cl.length + dl.length) (.slice none 0 0) (mBegin cl dl M)
  code : w'.ownsRow w.heap.size 24 5 cv cl.length (codeCells cl)
  is : w'.ownsRow w.heap.size 4 1 iv cl.length (isCells cl)
def RefMade (w w' : World) (cl dl : List Int) (M : Nat) : Prop := ∃ cv iv, RefNew w w' cl dl M cv iv
theorem NewAt.done {w wr : World} {img : Array Value} {cl dl : List Int} {n d M : Nat} {cv iv : Value} (h : NewAt w wr img (n + d) cl n n (cl.map wrap32 ++ (dl.take d ++ List.replicate (M - n - d) 0)) cv iv) (hn : cl.length = n) (hd : dl.length = d) :
    RefMade w (wr.setCell ⟨w.heap.size + 1 + 1, 17, none⟩ (.int .i32 M)).drew cl dl M := by
  subst hn hd
  have hc := h.code
  have hi := h.is
  rw [List.take_of_length_le (Nat.le_refl _)] at hc hi
  have hr := (h.ref.setReg 13 (by omega) M).drewN 1
  have hb : Below (wr.setCell ⟨w.heap.size + 1 + 1, 17, none⟩ (.int .i32 M)).heap.size (wr.setCell ⟨w.heap.size + 1 + 1, 17, none⟩ (.int .i32 M)) (wr.setCell ⟨w.heap.size + 1 + 1, 17, none⟩ (.int .i32 M)).drew := (Below.refl _ _).drew
  refine ⟨cv, iv, (h.below.setCell (by simp; omega) _).drew, ?_, ?_, ?_⟩
  · have e : { m0 (cl.map wrap32 ++ (dl.take dl.length ++ List.replicate (M - cl.length - dl.length) 0)) with R := (m0 (cl.map wrap32 ++ (dl.take dl.length ++ List.replicate (M - cl.length - dl.length) 0))).R.set 13 (M : Int) } = mBegin cl dl M := by
      rw [List.take_of_length_le (Nat.le_refl _)]
      rfl
    rw [← e]
    exact hr
  · exact (hc.kept (grown_set wr _ 17 _) (.inr (fun e => own_ne hc h.ref.mach (by decide) e.symm))).kept (row := none) ⟨hb.os, hb.tape, hb.output, hb.size, fun k hk _ => hb.block k hk⟩ (by cases hv : cv.ownBlock <;> simp)
  · exact (hi.kept (grown_set wr _ 17 _) (.inr (fun e => own_ne hi h.ref.mach (by decide) e.symm))).kept (row := none) ⟨hb.os, hb.tape, hb.output, hb.size, fun k hk _ => hb.block k hk⟩ (by cases hv : iv.ownBlock <;> simp)

set_option maxRecDepth 100000 in
set_option maxHeartbeats 2000000 in
theorem rnew_any (pc pd : Option Addr) (cl dl : List Int) (n kn d kd M : Nat) (w : World) (hn : cl.length = n) (hd : dl.length = d) (hc : SliceAt w .u32 pc cl) (hdd : SliceAt w .i32 pd dl) (hu : ∀ j, 0 ≤ cl.getD j 0 ∧ cl.getD j 0 ≤ 4294967295) (h1 : n ≤ 6000) (h2 : 32 ≤ M) (h3 : M ≤ 16000) (h4 : n + d ≤ M - 16) :
    Calls Try.prog 40 #[.agg #[.slice pc n kn, .slice pd d kd, .int .i64 M]] w fun e w' => e = .returned (.pointer (some ⟨w.heap.size + 1 + 1, 0, none⟩)) ∧ RefMade w w' cl dl M := by
  have hmk := run_make_row' (P := Try.prog) 32 21 (.int .i32 0) 4 Try.underlying32 i32_info rfl .i64 .i64 M (by omega) (by omega)
  obtain ⟨i0, hi0, hz0, hz1, hz2⟩ := info_parts instr_info
  obtain ⟨i1, hi1, ha0, ha1, ha2⟩ := info_parts bool_info
  have HC := Lib.hid hc
  have HDD := Lib.hid hdd
  have HN := Lib.hid hn
  have HDL := Lib.hid hd
  have HU := Lib.hid hu
  clear hc hdd hn hd hu
  have ew : IntKind.i64.wrap ((n : Int) + d) = n + d := IntWalk.i64_in _ (by omega)
  go_enter Try.func40, Try.ntmps40
  go_wp2_with fail
  go_region_held3 (fun w' => w'.cell? ⟨w.heap.size, 0, none⟩ = some (.slice pc n kn) ∧ w'.cell? ⟨w.heap.size, 1, none⟩ = some (.slice pd d kd) ∧ w'.cell? ⟨w.heap.size, 2, none⟩ = some (.int .i64 M)) (go_keep) (fail)
  clear ew
  go_wp2_with fail
  go_loopg [4] n (fun gk i wr => ∃ k : Nat, k ≤ n ∧ gk = n - k ∧ i = .int .i64 k ∧ ∃ cv iv, NewAt w wr #[.slice pc n kn, .slice pd d kd, .int .i64 M] (n + d) cl k k ((cl.map wrap32).take k ++ List.replicate (M - k) 0) cv iv)
  case atStart =>
    refine ⟨0, by omega, rfl, rfl, _, _, ⟨((((Below.refl _ _).alloc (Nat.le_refl _) _).alloc (by simp) _).alloc (by simp; omega) _).drew, ?_, ⟨?_, ?_, World.ownsRow_nil _ _ _ _, by simp [Value.ownBlock], by omega, rfl⟩, World.ownsRow_nil _ _ _ _, World.ownsRow_nil _ _ _ _⟩⟩
    · exact (Below.heap_alloc _ _ _ (by simp; omega)).trans ((Below.heap_alloc _ _ _ (by simp)).trans (heap_alloc_new w _))
    · refine (heap_new3 w _ _ _).trans ?_
      simp [rcells, m0, List.replicate]
    · refine (heap_new3b w _ _ _).trans ?_
      rw [made_zeros]
      simp [m0]
  case round =>
    obtain ⟨k, hk, hg, rfl, cv, iv, hN⟩ := hrel
    have HG := Lib.hid hg
    clear hg
    have cb0 := cell_of_row wr _ 0 _ _ _ hN.box
    have cb1 := cell_of_row wr _ 1 _ _ _ hN.box
    have cb2 := cell_of_row wr _ 2 _ _ _ hN.box
    simp only [List.getElem?_toArray, List.getElem?_cons_zero, List.getElem?_cons_succ] at cb0 cb1 cb2
    by_cases hlt : k < n
    · have hcn := HN.out
      rcases HC.out with hz | ⟨c, co, hp, hcl, hcells⟩
      · omega
      subst hp
      have cw : wr.cell? ⟨c, co + k, none⟩ = some (.int .u32 (cl.getD k 0)) := (hN.below.cell hcl).trans (hcells k (by omega))
      have hv01 := HU.out k
      obtain ⟨v, hv⟩ : ∃ v, cl.getD k 0 = v := ⟨_, rfl⟩
      rw [hv] at cw hv01
      obtain ⟨D, hD⟩ : ∃ D, Cp.dec v = D := ⟨_, rfl⟩
      obtain ⟨d0, d1, d2, d3, d4, hins, hdv⟩ := insOf_eq D
      have HDEC : Hid (∀ w', Calls Try.prog 12 #[.int .u32 v] w' fun e w'' => e = .returned (.tuple #[.agg #[.int .i64 d0, .int .i64 d1, .int .i64 d2, .int .i64 d3, .int .i64 d4], .bool D.isSome]) ∧ Below w'.heap.size w' w'') := by
        intro w'
        rw [← hdv, ← hD]
        exact rdecode_any v w' hv01.1 hv01.2
      have HV := Lib.hid hv
      have HD := Lib.hid hD
      have HIN := Lib.hid hins
      have HNA := Lib.hid hN
      have HCL := Lib.hid hcells
      have HCB := Lib.hid hcl
      clear hv hD hins hdv hN hcells hcl hcn
      go_upto_region 5 with fail
      go_wp2_with fail
      refine (HDEC.out _).mono ?_
      rintro e w1 ⟨rfl, hb1⟩
      have hN1 := HNA.out.go hb1
      have hx0 := hN1.ref.head.1
      have hf0 := hN1.ref.free
      have hsz := hN1.lt
      have hsz1 : w.heap.size + 1 < w1.heap.size := by omega
      have hsz2 : w.heap.size < w1.heap.size := by omega
      have HN1 := Lib.hid hN1
      clear hb1 hN1
      go_upto_region 6 with fail
      go_cut [] (fun wx => ∃ cv', NewAt w wx #[.slice (some ⟨c, co, none⟩) n kn, .slice pd d kd, .int .i64 M] (n + d) cl (k + 1) k ((cl.map wrap32).take k ++ List.replicate (M - k) 0) cv' iv)
      case first =>
        go_region_law ((refine step_append_own rfl (.tmp 40) (.tmp 42) 52 (by rfl) w.heap.size 24 i0 _ 5 40 Try.underlying52 hi0 hz0 hz1 hz2 (by rfl) (by decide) cv k (codeCells (cl.take k)) (by rfl) (by exact (HN1.out.code.alloc _).alloc _) ⟨w1.heap.size + 1, 0, none⟩ 1 1 [.int .i64 d0, .int .i64 d1, .int .i64 d2, .int .i64 d3, .int .i64 d4] (by rfl) (by rfl) (by exact cells5_of (heap_alloc_new2 w1 _ _)) (by intro u hu; simp only [List.mem_cons, List.not_mem_nil, or_false] at hu; rcases hu with rfl | rfl | rfl | rfl | rfl <;> rfl) (by unfold maxLen; omega) (by omega) (by simp; omega) ?_; intro v' w2 hown hgr hor; have ho2 := hown.2; rcases ho2 with ⟨_, hno⟩ | ⟨g3, cap3, cur3, rfl, _⟩; omega; have hc2 : w2.cell? ⟨w.heap.size + 1 + 1, 0, none⟩ = some cv := (World.cell?_of_block (hgr.block _ (by simp; omega) (own_ne HN1.out.code HN1.out.ref.mach (by decide)))).trans ((HN1.out.go (((Below.refl _ _).alloc (Nat.le_refl _) _).alloc (by simp) _)).ref.head.1); have hf2 : ∀ o, w2.frozen? ⟨w.heap.size + 1 + 1, o, none⟩ = false := fun o => (World.frozen?_of_block (hgr.block _ (by simp; omega) (own_ne HN1.out.code HN1.out.ref.mach (by decide)))).trans ((HN1.out.go (((Below.refl _ _).alloc (Nat.le_refl _) _).alloc (by simp) _)).ref.free o); have HO := Lib.hid hown; have HGR := Lib.hid hgr; clear hown hgr hor))
        all_goals go_wp2_with fail
        all_goals go_meet
        go_goals
        all_goals first
          | exact ⟨_, HN1.out.more (by rw [HN.out]; exact hlt) (((Below.refl _ _).alloc (Nat.le_refl _) _).alloc (by simp) _) (by rw [HV.out, HD.out, HIN.out]; exact HO.out) HGR.out⟩
          | exact ⟨_, HN1.out.more (by rw [HN.out]; exact hlt) ((((Below.refl _ _).alloc (Nat.le_refl _) _).alloc (by simp) _).drew) (by rw [HV.out, HD.out, HIN.out]; exact HO.out) HGR.out⟩
      case rest =>
        obtain ⟨cv', hN6⟩ := hcut
        have hx1 := hN6.ref.head.2.1
        have hf1 := hN6.ref.free
        have hsy := hN6.lt
        have hsy1 : w.heap.size + 1 < wc.heap.size := by omega
        have hsy2 : w.heap.size < wc.heap.size := by omega
        have HN6 := Lib.hid hN6
        clear hN6 hx0 hf0 hsz hsz1 hsz2 cw cb0 cb1 cb2
        go_wp2_with (at_builtin; go_loud (refine wpList_append_own_at _ (by rfl) (.tmp 50) (.tmp 52) 53 (by rfl) w.heap.size 4 i1 _ 1 1 Try.underlying53 hi1 ha0 ha1 ha2 (by rfl) (by decide) iv k (isCells (cl.take k)) (by rfl) (by exact HN6.out.is.alloc _) ⟨wc.heap.size, 0, none⟩ 1 1 [.bool D.isSome] (by rfl) (by rfl) (by exact cells1_of (heap_alloc_new wc _)) (by intro u hu; simp only [List.mem_singleton] at hu; subst hu; rfl) (by unfold maxLen; omega) (by omega) (by simp; omega) ?_; intro v' w2 hown hgr _ hor; have ho2 := hown.2; rcases ho2 with ⟨_, hno⟩ | ⟨g3, cap3, cur3, rfl, _⟩; omega; have hc2 : w2.cell? ⟨w.heap.size + 1 + 1, 1, none⟩ = some iv := (World.cell?_of_block (hgr.block _ (by simp; omega) (own_ne HN6.out.is HN6.out.ref.mach (by decide)))).trans ((HN6.out.go ((Below.refl _ _).alloc (Nat.le_refl _) _)).ref.head.2.1); have hf2 : ∀ o, w2.frozen? ⟨w.heap.size + 1 + 1, o, none⟩ = false := fun o => (World.frozen?_of_block (hgr.block _ (by simp; omega) (own_ne HN6.out.is HN6.out.ref.mach (by decide)))).trans ((HN6.out.go ((Below.refl _ _).alloc (Nat.le_refl _) _)).ref.free o); have hM2 := HN6.out.told (by rw [HN.out]; exact hlt) ((Below.refl _ _).alloc (Nat.le_refl _) _) (by rw [HV.out, HD.out]; exact hown) hgr; have HM2 := Lib.hid hM2; clear hown hgr hor hM2))
        obtain ⟨w8, hw8⟩ : ∃ w8, w8 = w2.setCell ⟨w.heap.size + 1 + 1, 1, none⟩ (.slice (some ⟨g3, 0, none⟩) (k + 1) cap3) := ⟨_, rfl⟩
        rw [← hw8]
        rw [← hw8] at HM2
        clear hw8 hx1 hf1 hc2 hf2 hsy hsy1 hsy2
        have hM := HM2.out
        have cb0 := cell_of_row w8 _ 0 _ _ _ hM.box
        simp only [List.getElem?_toArray, List.getElem?_cons_zero, List.getElem?_cons_succ] at cb0
        have cw : w8.cell? ⟨c, co + k, none⟩ = some (.int .u32 v) := by rw [← HV.out]; exact (hM.below.cell HCB.out).trans (HCL.out k (by rw [HN.out]; exact hlt))
        have hx2 : w8.cell? ⟨w.heap.size + 1 + 1, 2, none⟩ = some (.slice (some ⟨w.heap.size + 1, 0, none⟩) M M) := by
          have hwl : (m0 ((cl.map wrap32).take k ++ List.replicate (M - k) 0)).words.length = M := by have := HN.out; simp [m0]; omega
          have := hM.ref.head.2.2.1
          rwa [hwl] at this
        have hg1 := hM.ref.word k (by have := HN.out; simp [m0]; omega)
        have hgz := hM.ref.gfree
        have kM : (k : Int) < M := by omega
        have evw : IntKind.i64.wrap v = v := IntWalk.i64_in _ (by omega)
        clear hM
        go_wp2_with fail
        refine region_tail 13 mixed (by kernel_rfl) ?_
        simp only [List.take_succ_cons, List.take_zero, List.drop_succ_cons, List.drop_zero]
        repeat still_step
        still_call ((word_any v _ hv01.1 (by omega)).mono fun _ _ ⟨a, b⟩ => ⟨a, b.symm⟩)
        clear evw
        repeat still_step
        refine wpStill_nil ?_
        go_wp2_with fail
        go_roundg (n - (k + 1))
        case measure => have := HG.out; omega
        case rel =>
          have hs := (HM2.out.word k (wrap32 v)).go (below_drewN (Below.refl _ _) 1)
          have he : ((cl.map wrap32).take k ++ List.replicate (M - k) 0).set k (wrap32 v) = (cl.map wrap32).take (k + 1) ++ List.replicate (M - (k + 1)) 0 := by
            have := HN.out
            refine words_set _ k M (by rw [List.length_map]; omega) (by omega) _ ?_
            rw [← HV.out, List.getElem?_map, List.getD_eq_getElem?_getD, List.getElem?_eq_getElem (by omega)]
            rfl
          rw [he] at hs
          exact ⟨k + 1, hlt, rfl, by go_num, _, _, hs⟩
    · obtain rfl : k = n := by omega
      have hws : (cl.map wrap32).take k ++ List.replicate (M - k) 0 = cl.map wrap32 ++ (dl.take 0 ++ List.replicate (M - k - 0) 0) := by
        rw [List.take_of_length_le (by rw [List.length_map, HN.out]; exact Nat.le_refl _)]
        rfl
      rw [hws] at hN
      have HNA := Lib.hid hN
      clear hN hws hlt
      go_wp2_with fail
      go_loopg [7] d (fun gk i wr => ∃ j : Nat, j ≤ d ∧ gk = d - j ∧ i = .int .i64 j ∧ ∃ cv iv, NewAt w wr #[.slice pc k kn, .slice pd d kd, .int .i64 M] (k + d) cl k k (cl.map wrap32 ++ (dl.take j ++ List.replicate (M - k - j) 0)) cv iv)
      case atStart => exact ⟨0, by omega, rfl, rfl, _, _, HNA.out⟩
      case round =>
        clear cb0 cb1 cb2
        obtain ⟨j, hj, hg, rfl, cv2, iv2, hN⟩ := hrel
        have HG2 := Lib.hid hg
        clear hg
        have cb0 := cell_of_row wr _ 0 _ _ _ hN.box
        have cb1 := cell_of_row wr _ 1 _ _ _ hN.box
        have cb2 := cell_of_row wr _ 2 _ _ _ hN.box
        simp only [List.getElem?_toArray, List.getElem?_cons_zero, List.getElem?_cons_succ] at cb0 cb1 cb2
        have hwl : (m0 (cl.map wrap32 ++ (dl.take j ++ List.replicate (M - k - j) 0))).words.length = M := by have := HN.out; have := HDL.out; simp [m0]; omega
        have hx2 : wr.cell? ⟨w.heap.size + 1 + 1, 2, none⟩ = some (.slice (some ⟨w.heap.size + 1, 0, none⟩) M M) := by
          have := hN.ref.head.2.2.1
          rwa [hwl] at this
        by_cases hjd : j < d
        · have hcd := HDL.out
          rcases HDD.out with hz | ⟨c, co, hp, hcl, hcells⟩
          · omega
          subst hp
          have cw : wr.cell? ⟨c, co + j, none⟩ = some (.int .i32 (dl.getD j 0)) := (hN.below.cell hcl).trans (hcells j (by omega))
          obtain ⟨v, hv⟩ : ∃ v, dl.getD j 0 = v := ⟨_, rfl⟩
          rw [hv] at cw
          have hg1 := hN.ref.word (k + j) (by rw [hwl]; omega)
          have hgz := hN.ref.gfree
          have kM : (k : Int) + j < M := by omega
          have kj0 : (0 : Int) ≤ (k : Int) + j := by omega
          have kjn : ((k : Int) + j).toNat = k + j := by omega
          have ewj : IntKind.i64.wrap ((k : Int) + j) = k + j := IntWalk.i64_in _ (by omega)
          have HV := Lib.hid hv
          have HNB := Lib.hid hN
          clear hv hN hcells hcl hcd hwl HDD
          go_wp2_with fail
          refine region_tail 15 mixed (by kernel_rfl) ?_
          simp only [List.take_succ_cons, List.take_zero, List.drop_succ_cons, List.drop_zero]
          repeat still_step
          refine wpStill_nil ?_
          go_wp2_with fail
          go_roundg (d - (j + 1))
          case measure => have := HG2.out; omega
          case rel =>
            have hs := (HNB.out.word (k + j) v).go (below_drewN (Below.refl _ _) 1)
            have he : (cl.map wrap32 ++ (dl.take j ++ List.replicate (M - k - j) 0)).set (k + j) v = cl.map wrap32 ++ (dl.take (j + 1) ++ List.replicate (M - k - (j + 1)) 0) := by
              have h5 := HN.out
              have h6 := HDL.out
              rw [List.set_append_right _ _ (by rw [List.length_map]; omega), List.length_map, h5, Nat.add_sub_cancel_left]
              rw [words_set dl j (M - k) (by omega) (by omega) v (by rw [← HV.out, List.getD_eq_getElem?_getD, List.getElem?_eq_getElem (by omega)]; rfl)]
            rw [he] at hs
            exact ⟨j + 1, hjd, rfl, by go_num, _, _, hs⟩
        · obtain rfl : j = d := by omega
          have hr13 := hN.ref.reg 13 (by omega)
          have hf13 := hN.ref.free
          have HNB := Lib.hid hN
          clear hN hwl
          go_wp2_with fail
          refine region_tail 7 mixed (by kernel_rfl) ?_
          simp only [List.take_succ_cons, List.take_zero, List.drop_succ_cons, List.drop_zero]
          repeat still_step
          refine wpStill_nil ?_
          go_wp2_with fail
          go_ret
          exact ⟨rfl, HNB.out.done HN.out HDL.out⟩

end Go.Proofs.Ythnehhidlaggeaa
