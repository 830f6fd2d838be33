/- machine.begun: a machine of an image. -/
import Derived.Test.YthnehhidlaggeaaMat
import Derived.Test.YthnehhidlaggeaaDoes4
import Derived.Deep.LoopGhost
import Derived.Deep.OwnRows
import Derived.Laws.CopyOwn
import Derived.BigQuiet
namespace Go.Proofs.Ythnehhidlaggeaa
set_option linter.unusedVariables false
set_option linter.unusedSimpArgs false
open Go.RowKit Mc

/-- an argument's slice of numbers -/
def SliceAt (w : World) (k : IntKind) (p : Option Addr) (l : List Int) : Prop :=
  l.length = 0 ∨ ∃ c co, p = some ⟨c, co, none⟩ ∧ c < w.heap.size ∧ ∀ j, j < l.length → w.cell? ⟨c, co + j, none⟩ = some (.int k (l.getD j 0))

theorem made_zeros (M : Nat) : madeCells #[.int .i32 0] M = ((List.replicate M (0 : Int)).map (Value.int .i32)).toArray := by
  apply Array.ext
  · simp [madeCells]
  · intro i h1 h2
    simp [madeCells, Nat.mod_one]
theorem heap_new3 (w : World) (o1 o2 o3 : Obj) : (((w.alloc o1).alloc o2).alloc o3).heap[w.heap.size + 1 + 1]? = some o3 := by
  have h := heap_alloc_new ((w.alloc o1).alloc o2) o3
  rwa [show ((w.alloc o1).alloc o2).heap.size = w.heap.size + 1 + 1 by simp] at h
theorem heap_new3b (w : World) (o1 o2 o3 : Obj) : (((w.alloc o1).alloc o2).alloc o3).heap[w.heap.size + 1]? = some o2 :=
  (Below.heap_alloc _ _ _ (by simp)).trans (heap_alloc_new2 w o1 o2)

theorem words_set (l : List Int) (k M : Nat) (hk : k < l.length) (hM : k < M) (v : Int) (hv : l[k]? = some v) : (l.take k ++ List.replicate (M - k) 0).set k v = l.take (k + 1) ++ List.replicate (M - (k + 1)) 0 := by
  rw [List.set_append_right _ _ (by rw [List.length_take]; omega), List.length_take, Nat.min_eq_left (by omega), Nat.sub_self, show M - k = (M - (k + 1)) + 1 by omega, List.replicate_succ, List.set_cons_zero, List.take_add_one, hv]
  simp

/-- a machine at its beginning, of these words -/
def m0 (ws : List Int) : Mach := { R := List.replicate 16 0, pc := 0, words := ws, out := [], fin := -1, value := 0, steps := 0 }

/-- copy into a row that is known whole: the world behind it -/
theorem wpList_copy_at {P : Program} {w : World} {ops : Array Oper} {rest : List Oper} {o : Oper} {a : Act} {Q : Exit → Act → World → Prop} (hgd : o.guard = none) (d s : Operand) (dT sT : TypeId)
    (ho : o.op = .call { callee := .builtin .copy, args := #[d, s], argTypes := #[dT, sT] }) (elem : TypeId) (hu : P.underlying dT = some (.slice elem)) (hsz : (P.info? elem).map (·.size) = some 1)
    (dp sp : Option Addr) (dLen dCap sLen sCap : Nat) (hd : a.eval d = .slice dp dLen dCap) (hs : a.eval s = .slice sp sLen sCap)
    (g off : Nat) (cur : List Value) (t : TypeId) (hg : w.heap[g]? = some (.cells cur.toArray t (0, 0))) (cs : List Value) (hn : cs.length = Nat.min sLen dLen)
    (hpos : 0 < cs.length → dp = some ⟨g, off, none⟩ ∧ ∃ ad, sp = some ad ∧ ∀ j v, cs[j]? = some v → w.cell? (ad.add j) = some v)
    (hfit : off + cs.length ≤ cur.length) (h1 : ∀ v ∈ cs, v.oneCell' = true)
    (h : ∀ w', Hid (w' = w.setRow g (splice cur off cs).toArray) → wpList P ops Q rest (a.put o.dst (goInt cs.length)) w') :
    wpList P ops Q (o :: rest) a w := by
  by_cases h0 : cs.length = 0
  · obtain rfl : cs = [] := List.eq_nil_of_length_eq_zero h0
    refine wpList_copy_nothing hgd d s dT sT ho elem hu hsz dp sp dLen dCap sLen sCap hd hs (by simpa using hn.symm) ?_
    refine h w ?_
    show w = _
    have e : splice cur off [] = cur := by simp [splice]
    rw [e]
    exact (setRow_self w g cur.toArray t (0, 0) hg).symm
  · obtain ⟨rfl, ad, rfl, hsrc⟩ := hpos (by omega)
    refine wpList_copy_own hgd d s dT sT ho elem hu hsz g off dLen dCap ad sLen sCap hd hs cur.toArray t hg cs hn hsrc (by simpa using hfit) h1 ?_
    exact h _ (show _ = _ from rfl)

theorem MachAt.setWords {w : World} {B x g : Nat} {n low endv : Int} {ov : Value} {m : Mach} (h : MachAt w B x g n low endv ov m) (ws : List Int) (hl : ws.length = m.words.length) :
    MachAt (w.setRow g (ws.map (Value.int .i32)).toArray) B x g n low endv ov { m with words := ws } := by
  refine ⟨?_, ?_, ?_, h.apart, h.base, h.regs⟩
  · rw [setRow_other _ _ _ _ h.ne]
    have e : cellsOf { m with words := ws } endv ov g n low = cellsOf m endv ov g n low := by simp [cellsOf, hl]
    rw [e]; exact h.mach
  · exact setRow_heap w g _ _ _ _ h.mem
  · exact h.outs.kept (row := some g) ⟨rfl, rfl, rfl, by simp, fun k _ hk => setRow_other w g k _ (fun e => hk (by rw [e]))⟩ (.inr h.apart)

theorem words_splice (l dl : List Int) (n d M : Nat) (hn : l.length = n) (hd : dl.length = d) (hM : n + d ≤ M) :
    splice ((l.take n ++ List.replicate (M - n) 0).map (Value.int .i32)) n (dl.map (Value.int .i32)) = (l ++ (dl ++ List.replicate (M - n - d) 0)).map (Value.int .i32) := by
  unfold splice
  rw [List.take_of_length_le (l := l) (by omega), List.length_map, hd, ← List.map_take, ← List.map_drop, List.take_append_of_le_length (by omega), List.take_of_length_le (by omega)]
  rw [List.drop_append, List.drop_of_length_le (by omega), List.nil_append, List.drop_replicate, hn]
  simp only [List.map_append]
  rw [show M - n - (n + d - n) = M - n - d by omega]

/-- the machine of an image, at its beginning -/
def mBegin (cl dl : List Int) (M : Nat) : Mach := { R := (List.replicate 16 0).set 13 (M : Int), pc := 0, words := cl.map wrap32 ++ (dl ++ List.replicate (M - cl.length - dl.length) 0), out := [], fin := -1, value := 0, steps := 0 }

set_option maxRecDepth 100000 in
set_option maxHeartbeats 2000000 in
theorem begun_any (pc pd : Option Addr) (cl dl : List Int) (n kn d kd M : Nat) (w : World) (hn : cl.length = n) (hd : dl.length = d) (hc : SliceAt w .u32 pc cl) (hdd : SliceAt w .i32 pd dl) (h1 : n ≤ 6000) (h2 : 32 ≤ M) (h3 : M ≤ 16000) (h4 : n + d ≤ M - 16) :
    Calls Try.prog 72 #[.agg #[.slice pc n kn, .slice pd d kd, .int .i64 M]] w fun e w' =>
      e = .returned (.pointer (some ⟨w.heap.size + 1 + 1, 0, none⟩)) ∧ Below w.heap.size w w' ∧ MachAt w' w.heap.size (w.heap.size + 1 + 1) (w.heap.size + 1) n (n + d) 0 (.slice none 0 0) (mBegin cl dl M) := by
  have hmk := run_make_row' (P := Try.prog) 32 21 (.int .i32 0) 4 Try.underlying32 i32_info rfl .i64 .i64 M (by omega) (by omega)
  have HC := Lib.hid hc
  have HDD := Lib.hid hdd
  have HN := Lib.hid hn
  have HDL := Lib.hid hd
  clear hc hdd hn hd
  go_enter Try.func72, Try.ntmps72
  go_wp2_with fail
  refine wp_region_held_drew (S := fun w' => w'.cell? ⟨w.heap.size, 0, none⟩ = some (.slice pc n kn) ∧ w'.cell? ⟨w.heap.size, 1, none⟩ = some (.slice pd d kd) ∧ w'.cell? ⟨w.heap.size, 2, none⟩ = some (.int .i64 M)) mixed ?hS0 (fun hHeld => ?_)
  case hS0 => (try dsimp only); simp [*, go_sem]
  refine' wpAnyH_take (i := 0) (v := ?v1) rfl (by kernel_rfl) (by kernel_rfl) (by kernel_rfl) (fun _ _ _ h => h) (Or.inl ⟨by rfl, ?hy1⟩) (by assumption) ?rest1
  case hy1 => (intro w hSw; (try dsimp only at hSw); go_simp; try with_reducible rfl)
  try simp only [Act.put, List.setIfInBounds_toArray, List.set_cons_zero, List.set_cons_succ]
  refine' wpAnyH_take (i := 1) (v := ?v2) rfl (by kernel_rfl) (by kernel_rfl) (by kernel_rfl) (fun _ _ _ h => h) (Or.inl ⟨by rfl, ?hy2⟩) (by assumption) ?rest2
  case hy2 => (intro w hSw; (try dsimp only at hSw); go_simp; try with_reducible rfl)
  try simp only [Act.put, List.setIfInBounds_toArray, List.set_cons_zero, List.set_cons_succ]
  refine' wpAnyH_take (i := 2) (v := ?v3) rfl (by kernel_rfl) (by kernel_rfl) (by kernel_rfl) (fun _ _ _ h => h) (Or.inl ⟨by rfl, ?hy3⟩) (by assumption) ?rest3
  case hy3 => (intro w hSw; (try dsimp only at hSw); go_simp; try with_reducible rfl)
  try simp only [Act.put, List.setIfInBounds_toArray, List.set_cons_zero, List.set_cons_succ]
  refine' wpAnyH_take (i := 3) (v := ?v4) rfl (by kernel_rfl) (by kernel_rfl) (by kernel_rfl) (fun _ _ _ h => h) (Or.inl ⟨by rfl, ?hy4⟩) (by assumption) ?rest4
  case hy4 => (intro w hSw; (try dsimp only at hSw); go_simp; try with_reducible rfl)
  try simp only [Act.put, List.setIfInBounds_toArray, List.set_cons_zero, List.set_cons_succ]
  refine' wpAnyH_take (i := 4) (v := ?v5) rfl (by kernel_rfl) (by kernel_rfl) (by kernel_rfl) (fun _ _ _ h => h) (Or.inl ⟨by rfl, ?hy5⟩) (by assumption) ?rest5
  case hy5 => (intro w hSw; (try dsimp only at hSw); go_simp; try with_reducible rfl)
  try simp only [Act.put, List.setIfInBounds_toArray, List.set_cons_zero, List.set_cons_succ]
  refine' wpAnyH_take (i := 5) (v := ?v6) rfl (by kernel_rfl) (by kernel_rfl) (by kernel_rfl) (fun _ _ _ h => h) (Or.inl ⟨by rfl, ?hy6⟩) (by assumption) ?rest6
  case hy6 => (intro w hSw; (try dsimp only at hSw); go_simp; try with_reducible rfl)
  try simp only [Act.put, List.setIfInBounds_toArray, List.set_cons_zero, List.set_cons_succ]
  refine' wpAnyH_take (i := 6) (v := ?v7) rfl (by kernel_rfl) (by kernel_rfl) (by kernel_rfl) (fun _ _ _ h => h) (Or.inl ⟨by rfl, ?hy7⟩) (by assumption) ?rest7
  case hy7 => (intro w hSw; (try dsimp only at hSw); go_simp; try with_reducible rfl)
  try simp only [Act.put, List.setIfInBounds_toArray, List.set_cons_zero, List.set_cons_succ]
  refine' wpAnyH_take (i := 7) (v := ?v8) rfl (by kernel_rfl) (by kernel_rfl) (by kernel_rfl) (fun _ _ _ h => h) (Or.inl ⟨by rfl, ?hy8⟩) (by assumption) ?rest8
  case hy8 => (intro w hSw; (try dsimp only at hSw); go_simp; try with_reducible rfl)
  try simp only [Act.put, List.setIfInBounds_toArray, List.set_cons_zero, List.set_cons_succ]
  refine' wpAnyH_take (i := 8) (v := ?v9) rfl (by kernel_rfl) (by kernel_rfl) (by kernel_rfl) (fun _ _ _ h => h) (Or.inl ⟨by rfl, ?hy9⟩) (by assumption) ?rest9
  case hy9 => (intro w hSw; (try dsimp only at hSw); go_simp; try with_reducible rfl)
  try simp only [Act.put, List.setIfInBounds_toArray, List.set_cons_zero, List.set_cons_succ]
  refine' wpAnyH_take (i := 9) (v := ?v10) rfl (by kernel_rfl) (by kernel_rfl) (by kernel_rfl) (fun _ _ _ h => h) (Or.inl ⟨by rfl, ?hy10⟩) (by assumption) ?rest10
  case hy10 => (intro w hSw; (try dsimp only at hSw); go_simp; try with_reducible rfl)
  try simp only [Act.put, List.setIfInBounds_toArray, List.set_cons_zero, List.set_cons_succ]
  refine' wpAnyH_take (i := 10) (v := ?v11) rfl (by kernel_rfl) (by kernel_rfl) (by kernel_rfl) (fun _ _ _ h => h) (Or.inl ⟨by rfl, ?hy11⟩) (by assumption) ?rest11
  case hy11 => (intro w hSw; (try dsimp only at hSw); go_simp; try with_reducible rfl)
  try simp only [Act.put, List.setIfInBounds_toArray, List.set_cons_zero, List.set_cons_succ]
  refine' wpAnyH_take (i := 11) (v := ?v12) rfl (by kernel_rfl) (by kernel_rfl) (by kernel_rfl) (fun _ _ _ h => h) (Or.inl ⟨by rfl, ?hy12⟩) (by assumption) ?rest12
  case hy12 => (intro w hSw; (try dsimp only at hSw); go_simp; try with_reducible rfl)
  try simp only [Act.put, List.setIfInBounds_toArray, List.set_cons_zero, List.set_cons_succ]
  refine wpAnyH_ready (rs := [12]) (by kernel_rfl) (by simp) ?_
  refine AllReadyH.cons rfl (fun KA hKA => ?_) AllReadyH.nil
  go_simp
  refine hKA.out _ _ ?hSA (fun hHeld2 => ?_)
  case hSA => (try dsimp only); simp [*, go_sem]
  clear hKA KA
  refine' wpAnyH_take (i := 13) (v := ?v20) rfl (by kernel_rfl) (by kernel_rfl) (by kernel_rfl) (fun _ _ _ h => h) (Or.inl ⟨by rfl, ?hy20⟩) (by assumption) ?rest20
  case hy20 => (intro w hSw; (try dsimp only at hSw); go_simp; try with_reducible rfl)
  try simp only [Act.put, List.setIfInBounds_toArray, List.set_cons_zero, List.set_cons_succ]
  refine wpAnyH_ready (rs := [14]) (by kernel_rfl) (by simp) ?_
  refine AllReadyH.cons rfl (fun KB hKB => ?_) AllReadyH.nil
  go_simp
  refine hKB.out _ _ ?hSB (fun hHeld3 => ?_)
  case hSB => (try dsimp only); simp [*, go_sem]
  clear hKB KB
  refine' wpAnyH_take (i := 15) (v := ?v21) rfl (by kernel_rfl) (by kernel_rfl) (by kernel_rfl) (fun _ _ _ h => h) (Or.inl ⟨by rfl, ?hy21⟩) (by assumption) ?rest21
  case hy21 => (intro w hSw; (try dsimp only at hSw); go_simp; try with_reducible rfl)
  try simp only [Act.put, List.setIfInBounds_toArray, List.set_cons_zero, List.set_cons_succ]
  refine wpAnyH_done (by kernel_rfl) ?_ _
  go_wp2_with fail
  go_loopg [24] n (fun gk i wr => ∃ k : Nat, k ≤ n ∧ gk = n - k ∧ i = .int .i64 k ∧ Below w.heap.size w wr ∧ wr.heap[w.heap.size]? = some (.cells #[.slice pc n kn, .slice pd d kd, .int .i64 M] 34 (0, 0)) ∧
    MachAt wr w.heap.size (w.heap.size + 1 + 1) (w.heap.size + 1) n (n + d) 0 (.slice none 0 0) (m0 ((cl.map wrap32).take k ++ List.replicate (M - k) 0)))
  case atStart =>
    refine ⟨0, by omega, rfl, rfl, ((((Below.refl _ _).alloc (Nat.le_refl _) _).alloc (by simp) _).alloc (by simp; omega) _).drew, ?_, ⟨?_, ?_, World.ownsRow_nil _ _ _ _, by simp [Value.ownBlock], by omega, rfl⟩⟩
    · exact (Below.heap_alloc _ _ _ (by simp; omega)).trans ((Below.heap_alloc _ _ _ (by simp)).trans (heap_alloc_new w _))
    · refine (heap_new3 w _ _ _).trans ?_
      simp [cellsOf, m0, List.replicate]
    · refine (heap_new3b w _ _ _).trans ?_
      rw [made_zeros]
      simp [m0]
  case round =>
    obtain ⟨k, hk, hg, rfl, hB, hbx, hM⟩ := hrel
    have HG := Lib.hid hg
    have HBX := Lib.hid hbx
    clear hg hbx
    by_cases hlt : k < n
    · have hcn := HN.out
      rcases HC.out with hz | ⟨c, co, hp, hcl, hcells⟩
      · omega
      subst hp
      have cw : wr.cell? ⟨c, co + k, none⟩ = some (.int .u32 (cl.getD k 0)) := (hB.cell hcl).trans (hcells k (by omega))
      obtain ⟨v, hv⟩ : ∃ v, cl.getD k 0 = v := ⟨_, rfl⟩
      rw [hv] at cw
      have HV := Lib.hid hv
      clear hv
      have t23 := hM.tail.2.2.2.2.2.2.2
      have gz := hM.gfree
      have gw := hM.word k (by simp [m0]; omega)
      have hwl : (m0 ((cl.map wrap32).take k ++ List.replicate (M - k) 0)).words.length = M := by simp [m0]; omega
      rw [hwl] at t23
      clear hwl
      have HM := Lib.hid hM
      have HB := Lib.hid hB
      clear hM hB hcells hcl
      go_wp2_with fail
      go_roundg (n - (k + 1))
      case measure => have := HG.out; omega
      case rel =>
        refine ⟨k + 1, hlt, rfl, by go_num, HB.out.setCell (by simp) _, (Below.heap_setCell _ _ _ _ (by simp)).trans HBX.out, ?_⟩
        have hs := HM.out.setWord k (wrap32 v)
        have he : (m0 ((cl.map wrap32).take k ++ List.replicate (M - k) 0)).words.set k (wrap32 v) = (cl.map wrap32).take (k + 1) ++ List.replicate (M - (k + 1)) 0 := by
          refine words_set _ k M (by rw [List.length_map]; omega) (by omega) _ ?_
          rw [← HV.out, List.getElem?_map, List.getD_eq_getElem?_getD, List.getElem?_eq_getElem (by omega)]
          rfl
        rw [he] at hs
        exact hs
    · obtain rfl : k = n := by omega
      have t21 := hM.tail.2.2.2.2.2.1
      have t23 := hM.tail.2.2.2.2.2.2.2
      have hwl : (m0 ((cl.map wrap32).take k ++ List.replicate (M - k) 0)).words.length = M := by have := HN.out; simp [m0]; omega
      rw [hwl] at t23
      clear hwl
      have HM := Lib.hid hM
      have HB := Lib.hid hB
      clear hM hB
      have cb1 : wr.cell? ⟨w.heap.size, 1, none⟩ = some (.slice pd d kd) := cell_of_row wr _ 1 _ _ _ HBX.out
      have cb2 : wr.cell? ⟨w.heap.size, 2, none⟩ = some (.int .i64 M) := cell_of_row wr _ 2 _ _ _ HBX.out
      have k1 : (0 : Int) ≤ k := by omega
      have k2 : (k : Int) ≤ M := by omega
      have k3 : ¬ M = k := by omega
      obtain ⟨CUR, hcur⟩ : ∃ CUR, CUR = (((cl.map wrap32).take k ++ List.replicate (M - k) 0)).map (Value.int .i32) := ⟨_, rfl⟩
      obtain ⟨CS, hcs⟩ : ∃ CS, CS = dl.map (Value.int .i32) := ⟨_, rfl⟩
      have HCUR := Lib.hid hcur
      have HCS := Lib.hid hcs
      clear hcur hcs
      have HROW : Hid (∀ nq, (wr.drewN nq).heap[w.heap.size + 1]? = some (.cells CUR.toArray 21 (0, 0))) := by
        intro nq
        rw [HCUR.out]
        exact (HM.out.drewN nq).mem
      go_wp2_with fail
      refine region_tail 11 mixed (by kernel_rfl) ?_
      simp only [List.take_succ_cons, List.take_zero, List.drop_succ_cons, List.drop_zero]
      repeat still_step
      refine wpStill_nil ?_
      rw [show wr.drew = wr.drewN 1 from rfl]
      refine wpList_copy_at (by rfl) (.tmp 46) (.tmp 48) 32 32 (by rfl) 21 Try.underlying32 (by kernel_rfl) (some ⟨w.heap.size + 1, k, none⟩) pd (M - k) (M - k) d kd (by rfl) (by rfl) (w.heap.size + 1) k CUR 21 (HROW.out 1) CS ?ca ?cb ?cc ?cd ?_
      case ca => rw [HCS.out, List.length_map, HDL.out]; exact (Nat.min_eq_left (by omega)).symm
      case cb =>
        intro h0
        have hd1 := HDL.out
        rw [HCS.out, List.length_map, hd1] at h0
        refine ⟨rfl, ?_⟩
        rcases HDD.out with hz | ⟨c, co, hp, hcl, hcells⟩
        · omega
        · refine ⟨_, hp, ?_⟩
          intro j v hj
          rw [HCS.out, List.getElem?_map] at hj
          have hjl : j < dl.length := by
            by_cases hjl : j < dl.length
            · exact hjl
            · rw [List.getElem?_eq_none (by omega)] at hj; simp at hj
          have hc2 := hcells j hjl
          rw [List.getElem?_eq_getElem hjl] at hj
          rw [List.getD_eq_getElem?_getD, List.getElem?_eq_getElem hjl] at hc2
          have hb3 := (below_drewN HB.out 1).cell (p := ⟨c, co + j, none⟩) hcl
          have ea : (⟨c, co, none⟩ : Addr).add j = ⟨c, co + j, none⟩ := by
            simp only [Addr.add]
            split
            · rename_i h; rw [h, Nat.add_zero]
            · rfl
          rw [ea, hb3, hc2, ← hj]
          rfl
      case cc =>
        have h5 := HN.out
        have h6 := HDL.out
        rw [HCUR.out, HCS.out, List.length_map, List.length_map, List.length_append, List.length_take, List.length_map, List.length_replicate]
        omega
      case cd =>
        rw [HCS.out]
        intro v hv
        obtain ⟨y, _, rfl⟩ := List.mem_map.1 hv
        rfl
      intro w2 HW2
      have hM2 : MachAt w2 w.heap.size (w.heap.size + 1 + 1) (w.heap.size + 1) k (k + d) 0 (.slice none 0 0) (m0 (cl.map wrap32 ++ (dl ++ List.replicate (M - k - d) 0))) := by
        rw [HW2.out, HCUR.out, HCS.out, words_splice _ _ k d M (by rw [List.length_map]; exact HN.out) HDL.out (by omega)]
        have h5 := HN.out
        have h6 := HDL.out
        exact (HM.out.drewN 1).setWords _ (by simp [m0]; omega)
      have hB2 : Below w.heap.size w w2 := by
        rw [HW2.out]
        exact below_setRow (below_drewN HB.out 1) (by omega) _
      have hbx2 : w2.heap[w.heap.size]? = some (.cells #[.slice pc k kn, .slice pd d kd, .int .i64 M] 34 (0, 0)) := by
        rw [HW2.out, setRow_other _ _ _ _ (by omega)]
        exact HBX.out
      clear HROW cb1 cb2 t21 t23
      have cb2 : w2.cell? ⟨w.heap.size, 2, none⟩ = some (.int .i64 M) := cell_of_row w2 _ 2 _ _ _ hbx2
      have cr : w2.cell? ⟨w.heap.size + 1 + 1, 13, none⟩ = some (.int .i32 0) := hM2.reg 13 (by omega)
      have cz := hM2.free
      have HM2 := Lib.hid hM2
      have HB2 := Lib.hid hB2
      clear hM2 hB2 hbx2
      go_wp2_with fail
      refine region_tail 8 mixed (by kernel_rfl) ?_
      simp only [List.take_succ_cons, List.take_zero, List.drop_succ_cons, List.drop_zero]
      repeat still_step
      refine wpStill_nil ?_
      go_wp2_with fail
      go_ret
      refine ⟨rfl, ?_, ?_⟩
      · exact (below_drewN HB2.out 1).setCell (by simp; omega) _
      · have h7 := (HM2.out.drewN 1).setReg 13 (by omega) M
        have h5 := HN.out
        have h6 := HDL.out
        subst h5 h6
        exact h7

end Go.Proofs.Ythnehhidlaggeaa
