/- linker.open: the walk. -/
import Derived.Test.YthnehhidlaggeaaLkAddr
import Derived.Deep.DeepCutAuto
import Derived.Deep.CutBlock
namespace Go.Proofs.Ythnehhidlaggeaa
set_option linter.unusedVariables false
set_option linter.unusedSimpArgs false
open Go.RowKit Ob

theorem opens_len (os : List Ob.Obj) (hf : ∀ o ∈ os, few o) : ∀ u, u ≤ os.length → (opens os u).length ≤ 400 * u
  | 0, _ => by simp [opens]
  | u + 1, h => by
    rw [opens, List.length_append, symsOf_at (show u < os.length by omega)]
    have h1 := opens_len os hf u (by omega)
    have h2 : (openIn u os[u].syms).length ≤ os[u].syms.length := by
      generalize os[u].syms = l
      induction l with
      | nil => simp [openIn]
      | cons s r ih =>
        unfold openIn at ih ⊢
        rw [List.flatMap_cons, List.length_append, List.length_cons]
        have : (openOne u s).length ≤ 1 := by unfold openOne; split <;> simp
        omega
    have h3 := (hf os[u] (List.getElem_mem (by omega))).2.2.1
    omega
theorem openIn_len (u : Nat) (l : List Sym) : (openIn u l).length ≤ l.length := by
  induction l with
  | nil => simp [openIn]
  | cons s r ih =>
    unfold openIn at ih ⊢
    rw [List.flatMap_cons, List.length_append, List.length_cons]
    have : (openOne u s).length ≤ 1 := by unfold openOne; split <;> simp
    omega
theorem opensAt_len {os : List Ob.Obj} (hf : ∀ o ∈ os, few o) {u i : Nat} (hu : u < os.length) : (opensAt os u i).length ≤ 400 * u + 400 := by
  unfold opensAt
  rw [List.length_append]
  have h1 := opens_len os hf u (by omega)
  have h2 := openIn_len u ((symsOf os u).take i)
  have h3 : ((symsOf os u).take i).length ≤ (symsOf os u).length := by rw [List.length_take]; omega
  rw [symsOf_at hu] at h2 h3
  have h4 := (hf os[u] (List.getElem_mem hu)).2.2.1
  rw [symsOf_at hu]
  omega
theorem lookup_mem_iff {L : List (List UInt8 × Value)} {k : List UInt8} : (L.lookup k).isSome = true ↔ k ∈ L.map Prod.fst := by
  induction L with
  | nil => simp
  | cons x l ih =>
    obtain ⟨n, v⟩ := x
    rw [List.lookup_cons, List.map_cons, List.mem_cons]
    by_cases e : k = n
    · subst e; simp
    · rw [beq_eq_false_iff_ne.2 e]
      simp only [ih]
      constructor
      · exact .inr
      · rintro (h | h)
        · exact absurd h e
        · exact h
def homeCells (a : Int) (b : ByteArray) (c : Int) (d : Bool) (e f : Int) (g : ByteArray) (h : Int) : Value := .agg #[.int .i64 a, .string b, .int .i64 c, .bool d, .int .i64 e, .int .i64 f, .string g, .int .i64 h]
theorem opens_look {os : List Ob.Obj} {u i : Nat} (hu : u < os.length) (nm : List UInt8) : ∃ a b c d e f g h, ((opensAt os u i).lookup nm).getD homeZ = homeCells a b c d e f g h := by
  cases e : (opensAt os u i).lookup nm with
  | none => exact ⟨0, ⟨#[]⟩, 0, false, 0, 0, ⟨#[]⟩, 0, rfl⟩
  | some x =>
    have hx := List.lookup_eq_some_iff.1 e
    obtain ⟨l1, l2, h1, _⟩ := hx
    have hm : (nm, x) ∈ opensAt os u i := by rw [h1]; simp
    obtain ⟨v, k, s, _, _, _, h2⟩ := (mem_opensAt hu).1 hm
    injection h2 with h2 h3
    subst h3
    exact ⟨_, _, _, _, _, _, _, _, rfl⟩
def troV (t : Trb) : Value := .agg #[.int .i64 t.1, .int .i64 t.2.1, .int .i64 t.2.2]
/-- what open and meet leave alone; their result's cells, still 0 -/
structure OpAt (bm br : Nat) (w wr : World) : Prop where
  hbr : br = w.heap.size
  sz : w.heap.size ≤ wr.heap.size
  res : wr.heap[br]? = some (.cells #[.int .i64 0, .int .i64 0, .int .i64 0] 73 (0, 0))
  oth : ∀ k, k < w.heap.size → k ≠ bm → wr.heap[k]? = w.heap[k]?
theorem OpAt.new (bm : Nat) (w : World) : OpAt bm w.heap.size w (w.alloc (.cells #[.int .i64 0, .int .i64 0, .int .i64 0] 73)) :=
  ⟨rfl, by simp, heap_alloc_new w _, fun k hk _ => Below.heap_alloc w _ k hk⟩
theorem OpAt.go {bm br : Nat} {w wr w2 : World} (h : OpAt bm br w wr) (hb : Below wr.heap.size wr w2) : OpAt bm br w w2 :=
  ⟨h.hbr, Nat.le_trans h.sz hb.size, (hb.block _ (lt_of_block h.res)).trans h.res, fun k hk hne => (hb.block k (Nat.lt_of_lt_of_le hk h.sz)).trans (h.oth k hk hne)⟩
theorem OpAt.grown {bm br : Nat} {w wr w2 : World} {es : Array MapEntry} {cl : Nat} (h : OpAt bm br w wr) (hm : wr.heap[bm]? = some (.map es cl)) (hg : wr.grownBy w2 (some bm)) : OpAt bm br w w2 := by
  have hsz := hg.size
  refine ⟨h.hbr, Nat.le_trans h.sz hsz, ?_, fun k hk hne => (hg.block k (Nat.lt_of_lt_of_le hk h.sz) (by simpa using hne)).trans (h.oth k hk hne)⟩
  rw [hg.block br (lt_of_block h.res) (by
    intro e
    injection e with e
    subst e
    have h1 := h.res
    rw [hm] at h1
    injection h1 with h1
    cases h1)]
  exact h.res
def OthB (bm : Nat) (w w' : World) : Prop := ∀ k, k < w.heap.size → k ≠ bm → w'.heap[k]? = w.heap[k]?
theorem OpAt.done {bm br : Nat} {w wr : World} (h : OpAt bm br w wr) (y0 y1 y2 : Value) : OthB bm w (((wr.setCell ⟨br, 0, none⟩ y0).setCell ⟨br, 1, none⟩ y1).setCell ⟨br, 2, none⟩ y2) := fun k hk hne => by
  have hb : br ≠ k := by have := h.hbr; omega
  rw [heap_setCell_other _ ⟨br, 2, none⟩ k _ (by simp; omega), heap_setCell_other _ ⟨br, 1, none⟩ k _ (by simp; omega), heap_setCell_other _ ⟨br, 0, none⟩ k _ (by simp; omega)]
  exact h.oth k hk hne
/-- open's result -/
def OpTells (W0 w : World) (bl bm c co n kap : Nat) (mem : Int) (os : List Ob.Obj) (e : Ending) (w' : World) : Prop := match scan (twiceF os) os with
  | some t => e = .returned (troV t) ∧ Below W0.heap.size W0 w' ∧ OthB bm w w'
  | none => e = .returned (troV noTrb) ∧ LkAt W0 w' bl bm c co n kap (.slice none 0 0) (.slice none 0 0) (.slice none 0 0) (.slice none 0 0) mem (opens os n) [] [] [] [] ∧ OthB bm w w'

theorem blk3' {w : World} {b : Nat} {t : TypeId} {v0 v1 v2 : Value} (h : w.heap[b]? = some (.cells #[v0, v1, v2] t (0, 0))) :
    w.cell? ⟨b, 0, none⟩ = some v0 ∧ w.cell? ⟨b, 1, none⟩ = some v1 ∧ w.cell? ⟨b, 2, none⟩ = some v2 ∧ ∀ o, w.frozen? ⟨b, o, none⟩ = false :=
  ⟨cell_of_row w b 0 _ _ _ h, cell_of_row w b 1 _ _ _ h, cell_of_row w b 2 _ _ _ h, fun o => by simp [World.frozen?, h]⟩
/-- one block that is none of the linker's is written -/
theorem LkAt.other {W0 w w2 : World} {bl bm c co n kap k : Nat} {vk vd vC vD : Value} {mem : Int} {L : List (List UInt8 × Value)} {ks ds xc xd : List Int} {cs : Array Value} {t : TypeId} {fz : Nat × Nat} (h : LkAt W0 w bl bm c co n kap vk vd vC vD mem L ks ds xc xd) (hk : w.heap[k]? = some (.cells cs t fz)) (hg : w.grownBy w2 (some k)) (hge : W0.heap.size ≤ k) (hne : k ≠ bl) (t1 : 3 ≠ t) (t2 : 22 ≠ t) (t3 : 21 ≠ t) : LkAt W0 w2 bl bm c co n kap vk vd vC vD mem L ks ds xc xd := by
  have h2 := h.size
  have hm : bm ≠ k := by
    obtain ⟨es, cl, hmp⟩ := h.mapAt
    intro e
    subst e
    rw [hmp] at hk
    injection hk with hk
    cases hk
  exact ⟨h.base, h.mbase, (hg.block _ h2 (by simp; omega)).trans h.box, h.map.kept hg (by simpa using hm), h.nd, h.rk.kept hg (own_off2 h.rk hk t1), h.rd.kept hg (own_off2 h.rd hk t1), h.rC.kept hg (own_off2 h.rC hk t2), h.rD.kept hg (own_off2 h.rD hk t3), h.apart, h.below.grown hg h.below.size (fun k' e => by injection e with e; omega)⟩
theorem LkAt.trb {W0 w : World} {bl bm c co n kap k : Nat} {vk vd vC vD : Value} {mem : Int} {L : List (List UInt8 × Value)} {ks ds xc xd : List Int} {x0 x1 x2 : Value} (y0 y1 y2 : Value) (h : LkAt W0 w bl bm c co n kap vk vd vC vD mem L ks ds xc xd) (hk : w.heap[k]? = some (.cells #[x0, x1, x2] 73 (0, 0))) (hge : W0.heap.size ≤ k) (hne : k ≠ bl) : LkAt W0 (((w.setCell ⟨k, 0, none⟩ y0).setCell ⟨k, 1, none⟩ y1).setCell ⟨k, 2, none⟩ y2) bl bm c co n kap vk vd vC vD mem L ks ds xc xd := by
  have h0 := heap_setCell_same w k 0 _ _ y0 hk
  have h1 := heap_setCell_same _ k 1 _ _ y1 h0
  exact ((h.other hk (set_grown _ _ _ _) hge hne (by decide) (by decide) (by decide)).other h0 (set_grown _ _ _ _) hge hne (by decide) (by decide) (by decide)).other h1 (set_grown _ _ _ _) hge hne (by decide) (by decide) (by decide)

section
variable {W0 w : World} {bl bm c co n kap : Nat} {mem : Int} {vs : List OV} {os : List Ob.Obj}
set_option maxRecDepth 100000 in
set_option maxHeartbeats 4000000 in
theorem open_any (h : LkAt W0 w bl bm c co n kap (.slice none 0 0) (.slice none 0 0) (.slice none 0 0) (.slice none 0 0) mem [] [] [] [] []) (ho : ObjsAt W0 c co n vs os) (hm : AllMay os) (hn1 : 1 ≤ n) (hn : n ≤ 4) :
    Calls Try.prog 86 #[.pointer (some ⟨bl, 0, none⟩)] w (OpTells W0 w bl bm c co n kap mem os) := by
  have hf : ∀ o ∈ os, few o := fun o h => (mayB_fine (hm.may o h)).few
  have HL := Lib.hid (h.go ((Below.refl _ _).alloc (Nat.le_refl _) (.cells #[.int .i64 0, .int .i64 0, .int .i64 0] 73)))
  have hb3 : bl < w.heap.size := h.size
  have hb4 : W0.heap.size ≤ w.heap.size := h.below.size
  have HR := Lib.hid (OpAt.new bm w)
  have HO := Lib.hid ho
  have HM := Lib.hid hm
  have HF := Lib.hid hf
  have HNL := Lib.hid ho.nl
  clear ho hm hf h
  obtain ⟨br, hbr⟩ : ∃ br, br = w.heap.size := ⟨_, rfl⟩
  go_enter Try.func86, Try.ntmps86
  go_upto_region 1 with fail
  obtain ⟨ws, hws⟩ : ∃ ws, ws = w.alloc (.cells #[.int .i64 0, .int .i64 0, .int .i64 0] 73) := ⟨_, rfl⟩
  rw [← hws] at HL HR ⊢
  rw [← hbr] at HR hb3 hb4 ⊢
  clear hws hbr
  obtain ⟨b0, b1, b2, b3, b4, b5, b6, bz⟩ := blk7l HL.out.box
  go_wp2_with fail
  clear b0 b1 b2 b3 b4 b5 b6 bz
  go_loopg [14] n (fun gk v14 wr => ∃ u : Nat, u ≤ n ∧ gk = n - u ∧ v14 = .int .i64 u ∧ LkAt W0 wr bl bm c co n kap (.slice none 0 0) (.slice none 0 0) (.slice none 0 0) (.slice none 0 0) mem (opens os u) [] [] [] [] ∧ OpAt bm br w wr ∧ (∀ j (hj : j < os.length), j < u → firstFrom (twiceF os j) 0 os[j].syms = none))
  case atStart => exact ⟨0, Nat.zero_le _, rfl, rfl, HL.out, HR.out, fun j hj h => by omega⟩
  case round =>
    clear HL HR
    obtain ⟨u, hu, hg, rfl, hl, hr, hno⟩ := hrel
    have HG := Lib.hid hg
    have HL := Lib.hid hl
    have HR := Lib.hid hr
    have HNO := Lib.hid hno
    clear hg hl hr hno
    by_cases hlt : u < n
    · have hlu : u < os.length := by rw [HNL.out]; exact hlt
      obtain ⟨v, o, hv, hou⟩ := (HO.out.below HL.out.below).some hlt
      have hoe : os[u] = o := (List.getElem?_eq_some_iff.1 hou).2
      obtain ⟨x0, x1, x2, x3, hobj⟩ := (HO.out.below HL.out.below).get hlt hv hou
      have hml := hobj.ml
      have hvm : v.m ≤ 9223372036854775807 := hobj.mb
      have HV := Lib.hid hv
      have HOU := Lib.hid hou
      have HOE := Lib.hid hoe
      have HML := Lib.hid hml
      have hbx : Below wr.heap.size wr (wr.alloc (.cells #[.slice v.pc v.n v.kn, .slice v.pd v.d v.kd, .slice v.ps v.m v.km, .slice v.pr v.r v.kr] 60)) := (Below.refl _ _).alloc (Nat.le_refl _) _
      have HL2 := Lib.hid (HL.out.go hbx)
      have HR2 := Lib.hid (HR.out.go hbx)
      clear hv hou hoe hobj hml hbx
      go_wp2_with fail
      obtain ⟨wo, hwo⟩ : ∃ wo, wo = wr.alloc (.cells #[.slice v.pc v.n v.kn, .slice v.pd v.d v.kd, .slice v.ps v.m v.km, .slice v.pr v.r v.kr] 60) := ⟨_, rfl⟩
      obtain ⟨ps, hpse⟩ : ∃ ps, ps = v.ps := ⟨_, rfl⟩
      rw [← hwo] at HL2 HR2 ⊢
      rw [← hpse]
      have HPE := Lib.hid hpse
      clear hwo hpse x0 x1 x2 x3 HL HR
      go_loopg [22] v.m (fun gk v22 wi => ∃ i : Nat, i ≤ v.m ∧ gk = v.m - i ∧ v22 = .int .i64 i ∧ LkAt W0 wi bl bm c co n kap (.slice none 0 0) (.slice none 0 0) (.slice none 0 0) (.slice none 0 0) mem (opensAt os u i) [] [] [] [] ∧ OpAt bm br w wi ∧ (∀ k (hk : k < os[u].syms.length), k < i → twiceF os u k os[u].syms[k] = none))
      case atStart => exact ⟨0, Nat.zero_le _, rfl, rfl, by rw [opensAt_zero]; exact HL2.out, HR2.out, fun j hj h => by omega⟩
      case round =>
        clear HL2 HR2
        obtain ⟨i, hi, hgi, rfl, hl, hr, hno⟩ := hrel
        have HGI := Lib.hid hgi
        have HL := Lib.hid hl
        have HR := Lib.hid hr
        have HNOI := Lib.hid hno
        clear hgi hl hr hno
        obtain ⟨_, _, _, _, hobj⟩ := (HO.out.below HL.out.below).get hlt HV.out HOU.out
        by_cases hlt2 : i < v.m
        · obtain ⟨c0, c1, hps, hc0', hi', hrange⟩ := hobj.sym hlt2
          obtain ⟨s, hs⟩ : ∃ s, o.syms[i] = s := ⟨_, rfl⟩
          rw [hs] at hrange
          have HS : Hid (symAt os u i = some s) := Lib.hid (by
            have := HOE.out
            subst this
            rw [← hs]
            exact sym_of hlu hi')
          have hiu : i < os[u].syms.length := by rw [HOE.out]; exact hi'
          have HSE : Hid (os[u].syms[i] = s) := Lib.hid (by
            have := HOE.out
            subst this
            exact hs)
          have hfs := (mayB_fine (HM.out.may _ (List.getElem_mem hlu))).syms s (HSE.out ▸ List.getElem_mem hiu)
          have hnm : s.name.size ≤ 9223372036854775807 := by have := hfs.name; omega
          have HRG := Lib.hid hrange
          obtain rfl : ps = some ⟨c0, c1, none⟩ := HPE.out.trans hps
          clear hs hrange hps hobj hfs
          have hst := sym_store s
          go_upto_region 7 with (refine wpList_load_mid (by rfl) 106 (.tmp 25) (by rfl) c0 (c1 + i * 7) (by rfl) [.string s.name, .int .i64 s.kind, .bool s.static, .int .i64 s.pos, .int .i64 s.size, .string s.sign, .int .i64 s.frame] _ HRG.out Try.underlying106 (by rfl) (by kernel_rfl) ?_)
          clear hst
          obtain ⟨b6, hb6⟩ : ∃ b6, b6 = wr.heap.size := ⟨_, rfl⟩
          obtain ⟨w3, hw3⟩ : ∃ w3, w3 = wr.alloc (.cells #[.string s.name, .int .i64 s.kind, .bool s.static, .int .i64 s.pos, .int .i64 s.size, .string s.sign, .int .i64 s.frame] 106) := ⟨_, rfl⟩
          have hbs : Below wr.heap.size wr w3 := by rw [hw3]; exact (Below.refl _ _).alloc (Nat.le_refl _) _
          have HL3 := Lib.hid (HL.out.go hbs)
          have HR3 := Lib.hid (HR.out.go hbs)
          have hx3 : w3.heap[b6]? = some (.cells #[.string s.name, .int .i64 s.kind, .bool s.static, .int .i64 s.pos, .int .i64 s.size, .string s.sign, .int .i64 s.frame] 106 (0, 0)) := by rw [hw3, hb6]; exact heap_alloc_new wr _
          rw [← hw3, ← hb6]
          obtain ⟨st, hstt⟩ : ∃ st, st = s.static := ⟨_, rfl⟩
          rw [← hstt] at hx3
          have HST := Lib.hid hstt
          have hout := fun w => outside_any s w
          obtain ⟨oo, hoo⟩ : ∃ oo, oo = outK s := ⟨_, rfl⟩
          rw [← hoo] at hout
          unfold symV at hout
          rw [← hstt] at hout
          have HOUT := Lib.hid hout
          have HOO := Lib.hid hoo
          clear hw3 hb6 hbs hstt HL HR hout hoo
          obtain ⟨y0, y1, y2, y3, y4, y5, y6, yz⟩ := blk7 hx3
          have HX3 := Lib.hid hx3
          clear hx3
          cases st
          · go_wp2_with fail
            refine (HOUT.out _).mono ?_
            rintro e w4 ⟨rfl, hb4⟩
            have HL4 := Lib.hid (HL3.out.go hb4)
            have HR4 := Lib.hid (HR3.out.go hb4)
            have hx4 := (hb4.block _ (lt_of_block HX3.out)).trans HX3.out
            clear hb4 HL3 HR3 HX3 HOUT y0 y1 y2 y3 y4 y5 y6 yz
            obtain ⟨y0, y1, y2, y3, y4, y5, y6, yz⟩ := blk7 hx4
            have HX4 := Lib.hid hx4
            clear hx4
            cases oo
            · have HOP : Hid (openS s = true) := Lib.hid (by unfold openS; rw [← HST.out, ← HOO.out]; rfl)
              obtain ⟨a1, a2, a3, a4, a5, a6, a7, a8, hlook⟩ := opens_look (i := i) hlu (nameOf s)
              obtain ⟨bk, hbk⟩ : ∃ bk, bk = ((opensAt os u i).lookup (nameOf s)).isSome := ⟨_, rfl⟩
              have hlk : ∀ w2, LkAt W0 w2 bl bm c co n kap (.slice none 0 0) (.slice none 0 0) (.slice none 0 0) (.slice none 0 0) mem (opensAt os u i) [] [] [] [] → (Instr.lookup 135 (.map (some bm)) (.string s.name) true).run Try.prog w2 = .ok (.tuple #[.agg #[.int .i64 a1, .string a2, .int .i64 a3, .bool a4, .int .i64 a5, .int .i64 a6, .string a7, .int .i64 a8], .bool bk]) w2 := fun w2 h2 => by
                have := (homes_look h2.map h2.nd s.name hnm).1
                rw [show (opensAt os u i).lookup s.name.data.toList = (opensAt os u i).lookup (nameOf s) from rfl, hlook, ← hbk] at this
                exact this
              have hlk1 := fun o => hlk (w4.alloc o) (HL4.out.go ((Below.refl _ _).alloc (Nat.le_refl _) _))
              have hlk2 := hlk w4.drew (HL4.out.go (Below.refl _ _).drew)
              have hlk3 := fun o => hlk (w4.alloc o).drew (HL4.out.go ((Below.refl _ _).alloc (Nat.le_refl _) _).drew)
              have HBK := Lib.hid hbk
              clear hlk hlook hbk
              obtain ⟨b0, b1, b2, b3, b4, b5, b6', bz⟩ := blk7l HL4.out.box
              have hx4l := lt_of_block HX4.out
              have hbl4 := HL4.out.size
              have hn1 : w4.heap.size ≠ b6 := by omega
              have hn2 : w4.heap.size ≠ bl := by omega
              go_wp2_with fail
              go_cut [7, 8] from 33 to 42 (fun v7 v8 wx => v8 = .bool bk ∧ Below w4.heap.size w4 wx)
              case first =>
                go_region
                all_goals go_wp2_with fail
                all_goals go_meet
                all_goals exact ⟨rfl, ((Below.refl _ _).alloc (Nat.le_refl _) _).drew⟩
              case rest =>
                obtain ⟨rfl, hbe⟩ := hcut
                clear hlk1 hlk2 hlk3 hn1 hn2 b0 b1 b2 b3 b4 b5 b6' bz y0 y1 y2 y3 y4 y5 y6 yz
                have HL5 := Lib.hid (HL4.out.go hbe)
                have HR5 := Lib.hid (HR4.out.go hbe)
                have hx5 := (hbe.block _ hx4l).trans HX4.out
                have hx5l := lt_of_block hx5
                clear hbe HL4 HR4 HX4 hx4l hbl4
                obtain ⟨y0, y1, y2, y3, y4, y5, y6, yz⟩ := blk7 hx5
                cases bk
                · have hfresh : nameOf s ∉ (opensAt os u i).map Prod.fst := fun hm => by
                    have := lookup_mem_iff.2 hm
                    rw [← HBK.out] at this
                    cases this
                  have HNX : Hid (twiceF os u i os[u].syms[i] = none) := Lib.hid (by
                    rw [HSE.out]
                    exact twice_fresh HM.out HS.out HOP.out hfresh)
                  have hll := opensAt_len (i := i) HF.out hlu
                  have hll2 : (opensAt os u i).length ≤ 2000 := by have := HNL.out; omega
                  obtain ⟨wu, hrun, hown, hgr⟩ := ((HL5.out.go (Below.refl _ _).drew).map).update (Maps.string_keyed Try.underlying9) Try.underlying135 (by unfold maxLen; omega) (key := .string s.name) (val := homeV u s) (ps := []) (WideMaps.keyOf_string_mk Try.underlying9 (s := s.name) (by unfold maxLen; omega)) rfl
                  have HL6 := Lib.hid ((HL5.out.go (Below.refl _ _).drew).put (nm := nameOf s) hown hgr hfresh)
                  have HR6 : Hid (OpAt bm br w wu) := Lib.hid (by
                    obtain ⟨es, cl, hmp⟩ := HL5.out.mapAt
                    exact (HR5.out.go (Below.refl _ _).drew).grown (by rw [drew_heap]; exact hmp) hgr)
                  have HAS : Hid (opensAt os u i ++ [(nameOf s, homeV u s)] = opensAt os u (i + 1)) := Lib.hid (by
                    rw [opensAt_succ HS.out]
                    unfold openOne
                    rw [if_pos HOP.out])
                  unfold homeV at hrun
                  rw [← HST.out] at hrun
                  obtain ⟨b0, b1, b2, b3, b4, b5, b6', bz⟩ := blk7l HL5.out.box
                  clear hfresh hll hll2 hown hgr hx5
                  go_wp2_with fail
                  go_region
                  all_goals go_wp2_with fail
                  all_goals
                    go_roundg (v.m - (i + 1))
                    case measure => have := HGI.out; omega
                    case rel => exact ⟨i + 1, hlt2, rfl, by go_num, by rw [← HAS.out]; exact HL6.out, HR6.out, fun k hk hki => by
                      by_cases e : k < i
                      · exact HNOI.out k hk e
                      · obtain rfl : k = i := by omega
                        exact HNX.out⟩
                · have HTW : Hid (OpTells W0 w bl bm c co n kap mem os = fun e w' => e = .returned (troV ((u : Int), (5 : Int), (i : Int))) ∧ Below W0.heap.size W0 w' ∧ OthB bm w w') := Lib.hid (by
                    have hdup : nameOf s ∈ (opensAt os u i).map Prod.fst := lookup_mem_iff.1 HBK.out.symm
                    have hsc : scan (twiceF os) os = some ((u : Int), (5 : Int), (i : Int)) := by
                      refine firstFrom_some _ _ 0 u hlu ((u : Int), (5 : Int), (i : Int)) (fun j hj hju => by simpa using HNO.out j hj hju) ?_
                      simp only [Nat.zero_add]
                      refine firstFrom_some _ _ 0 i hiu ((u : Int), (5 : Int), (i : Int)) (fun k hk hki => by simpa using HNOI.out k hk hki) ?_
                      simp only [Nat.zero_add]
                      rw [HSE.out]
                      exact twice_dup HM.out HS.out HOP.out hdup
                    funext e w'
                    unfold OpTells
                    rw [hsc])
                  have HB5 := Lib.hid HL5.out.below
                  obtain ⟨r0, r1, r2, rz⟩ := blk3' HR5.out.res
                  clear hx5
                  go_wp2_with fail
                  refine bodyPost_ret (v := .agg #[.int .i64 (u : Int), .int .i64 5, .int .i64 (i : Int)]) (by simp [results, Try.results86, go_sem, r0, r1, r2]) rfl ?_
                  clear r0 r1 r2 rz y0 y1 y2 y3 y4 y5 y6 yz
                  rw [HTW.out]
                  exact ⟨rfl, ((HB5.out.setCell hb4 _).setCell hb4 _).setCell hb4 _, HR5.out.done _ _ _⟩
            · have HNX : Hid (twiceF os u i os[u].syms[i] = none) := Lib.hid (by
                rw [HSE.out]
                exact twice_shut HM.out HS.out (by unfold openS; rw [← HOO.out]; simp))
              have HAS : Hid (opensAt os u (i + 1) = opensAt os u i) := Lib.hid (by
                rw [opensAt_succ HS.out]
                unfold openOne
                rw [if_neg (by unfold openS; rw [← HOO.out]; simp), List.append_nil])
              go_wp2_with fail
              go_roundg (v.m - (i + 1))
              case measure => have := HGI.out; omega
              case rel => exact ⟨i + 1, hlt2, rfl, by go_num, by rw [HAS.out]; exact HL4.out, HR4.out, fun k hk hki => by
                by_cases e : k < i
                · exact HNOI.out k hk e
                · obtain rfl : k = i := by omega
                  exact HNX.out⟩
          · have HNX : Hid (twiceF os u i os[u].syms[i] = none) := Lib.hid (by
              rw [HSE.out]
              exact twice_shut HM.out HS.out (by unfold openS; rw [← HST.out]; simp))
            have HAS : Hid (opensAt os u (i + 1) = opensAt os u i) := Lib.hid (by
              rw [opensAt_succ HS.out]
              unfold openOne
              rw [if_neg (by unfold openS; rw [← HST.out]; simp), List.append_nil])
            go_wp2_with fail
            go_roundg (v.m - (i + 1))
            case measure => have := HGI.out; omega
            case rel => exact ⟨i + 1, hlt2, rfl, by go_num, by rw [HAS.out]; exact HL3.out, HR3.out, fun k hk hki => by
              by_cases e : k < i
              · exact HNOI.out k hk e
              · obtain rfl : k = i := by omega
                exact HNX.out⟩
        · obtain rfl : i = v.m := by omega
          have HAS : Hid (opensAt os u v.m = opens os (u + 1)) := Lib.hid (by
            rw [← opensAt_all, symsOf_at hlu, HOE.out, hobj.ml])
          have HNX : Hid (firstFrom (twiceF os u) 0 os[u].syms = none) := Lib.hid (by
            refine firstFrom_none _ _ 0 (fun k hk => ?_)
            rw [Nat.zero_add]
            exact HNOI.out k hk (by rw [HOE.out, hobj.ml] at hk; exact hk))
          clear hobj
          go_wp2_with fail
          go_roundg (n - (u + 1))
          case measure => have := HG.out; omega
          case rel => exact ⟨u + 1, hlt, rfl, by go_num, by rw [← HAS.out]; exact HL.out, HR.out, fun k hk hki => by
            by_cases e : k < u
            · exact HNO.out k hk e
            · obtain rfl : k = u := by omega
              exact HNX.out⟩
    · obtain rfl : n = u := by omega
      have HTW : Hid (OpTells W0 w bl bm c co n kap mem os = fun e w' => e = .returned (troV noTrb) ∧ LkAt W0 w' bl bm c co n kap (.slice none 0 0) (.slice none 0 0) (.slice none 0 0) (.slice none 0 0) mem (opens os n) [] [] [] [] ∧ OthB bm w w') := Lib.hid (by
        have hsc : scan (twiceF os) os = none := by
          refine firstFrom_none _ _ 0 (fun j hj => ?_)
          rw [Nat.zero_add]
          exact HNO.out j hj (by rw [HNL.out] at hj; exact hj)
        funext e w'
        unfold OpTells
        rw [hsc])
      obtain ⟨r0, r1, r2, rz⟩ := blk3' HR.out.res
      have hbne : br ≠ bl := by omega
      have HT := Lib.hid (HL.out.trb (.int .i64 0) (.int .i64 0) (.int .i64 0) HR.out.res hb4 hbne)
      go_wp2_with fail
      refine bodyPost_ret (v := .agg #[.int .i64 0, .int .i64 0, .int .i64 0]) (by simp [results, Try.results86, go_sem, r0, r1, r2]) rfl ?_
      rw [HTW.out]
      exact ⟨rfl, HT.out, HR.out.done _ _ _⟩
end

end Go.Proofs.Ythnehhidlaggeaa

/-! linker.meet: the walk. -/
namespace Go.Proofs.Ythnehhidlaggeaa
set_option linter.unusedVariables false
set_option linter.unusedSimpArgs false
open Go.RowKit Ob

/-- what meet finds first -/
def meetT (os : List Ob.Obj) : Trb := match scan (meetF os) os with
  | some t => t
  | none => mainE os
section
variable {W0 w : World} {bl bm c co n kap : Nat} {mem : Int} {vs : List OV} {os : List Ob.Obj} {L : List (List UInt8 × Value)}
set_option maxRecDepth 100000 in
set_option maxHeartbeats 4000000 in
theorem meet_any (h : LkAt W0 w bl bm c co n kap (.slice none 0 0) (.slice none 0 0) (.slice none 0 0) (.slice none 0 0) mem L [] [] [] []) (hL : L = opens os n) (ho : ObjsAt W0 c co n vs os) (hm : AllMay os) (hn1 : 1 ≤ n) (hn : n ≤ 4) :
    Calls Try.prog 87 #[.pointer (some ⟨bl, 0, none⟩)] w fun e w' => e = .returned (troV (meetT os)) ∧ LkAt W0 w' bl bm c co n kap (.slice none 0 0) (.slice none 0 0) (.slice none 0 0) (.slice none 0 0) mem L [] [] [] [] ∧ OthB bm w w' := by
  have hf : ∀ o ∈ os, few o := fun o h => (mayB_fine (hm.may o h)).few
  have hnd := h.nd
  have hhn : ∀ nm, home os nm = none → L.lookup nm = none := fun nm hh => by
    rw [hL, ← ho.nl]; exact homes_none hm hh
  have hhs : ∀ nm v k s, home os nm = some (v, k) → symAt os v k = some s → L.lookup nm = some (homeV v s) := fun nm v k s hh hs => by
    rw [hL, ← ho.nl]; exact homes_some hm (by rw [ho.nl, ← hL]; exact hnd) hh hs
  have HHN := Lib.hid hhn
  have HHS := Lib.hid hhs
  have HL := Lib.hid (h.go ((Below.refl _ _).alloc (Nat.le_refl _) (.cells #[.int .i64 0, .int .i64 0, .int .i64 0] 73)))
  have hb3 : bl < w.heap.size := h.size
  have hb4 : W0.heap.size ≤ w.heap.size := h.below.size
  have HR := Lib.hid (OpAt.new bm w)
  have HO := Lib.hid ho
  have HM := Lib.hid hm
  have HF := Lib.hid hf
  have HNL := Lib.hid ho.nl
  clear ho hm hf h hL hnd hhn hhs
  obtain ⟨br, hbr⟩ : ∃ br, br = w.heap.size := ⟨_, rfl⟩
  go_enter Try.func87, Try.ntmps87
  go_upto_region 1 with fail
  obtain ⟨ws, hws⟩ : ∃ ws, ws = w.alloc (.cells #[.int .i64 0, .int .i64 0, .int .i64 0] 73) := ⟨_, rfl⟩
  rw [← hws] at HL HR ⊢
  rw [← hbr] at HR hb3 hb4 ⊢
  have hbne : br ≠ bl := by omega
  clear hws hbr
  obtain ⟨b0, b1, b2, b3, b4, b5, b6, bz⟩ := blk7l HL.out.box
  go_wp2_with fail
  clear b0 b1 b2 b3 b4 b5 b6 bz
  go_loopg [16] n (fun gk v16 wr => ∃ u : Nat, u ≤ n ∧ gk = n - u ∧ v16 = .int .i64 u ∧ LkAt W0 wr bl bm c co n kap (.slice none 0 0) (.slice none 0 0) (.slice none 0 0) (.slice none 0 0) mem L [] [] [] [] ∧ OpAt bm br w wr ∧ (∀ j (hj : j < os.length), j < u → firstFrom (meetF os j) 0 os[j].syms = none))
  case atStart => exact ⟨0, Nat.zero_le _, rfl, rfl, HL.out, HR.out, fun j hj h => by omega⟩
  case round =>
    clear HL HR
    obtain ⟨u, hu, hg, rfl, hl, hr, hno⟩ := hrel
    have HG := Lib.hid hg
    have HL := Lib.hid hl
    have HR := Lib.hid hr
    have HNO := Lib.hid hno
    clear hg hl hr hno
    by_cases hlt : u < n
    · have hlu : u < os.length := by rw [HNL.out]; exact hlt
      obtain ⟨v, o, hv, hou⟩ := (HO.out.below HL.out.below).some hlt
      have hoe : os[u] = o := (List.getElem?_eq_some_iff.1 hou).2
      obtain ⟨x0, x1, x2, x3, hobj⟩ := (HO.out.below HL.out.below).get hlt hv hou
      have hml := hobj.ml
      have hvm : v.m ≤ 9223372036854775807 := hobj.mb
      have HV := Lib.hid hv
      have HOU := Lib.hid hou
      have HOE := Lib.hid hoe
      have HML := Lib.hid hml
      have hbx : Below wr.heap.size wr (wr.alloc (.cells #[.slice v.pc v.n v.kn, .slice v.pd v.d v.kd, .slice v.ps v.m v.km, .slice v.pr v.r v.kr] 60)) := (Below.refl _ _).alloc (Nat.le_refl _) _
      have HL2 := Lib.hid (HL.out.go hbx)
      have HR2 := Lib.hid (HR.out.go hbx)
      clear hv hou hoe hobj hml hbx
      go_wp2_with fail
      obtain ⟨wo, hwo⟩ : ∃ wo, wo = wr.alloc (.cells #[.slice v.pc v.n v.kn, .slice v.pd v.d v.kd, .slice v.ps v.m v.km, .slice v.pr v.r v.kr] 60) := ⟨_, rfl⟩
      obtain ⟨ps, hpse⟩ : ∃ ps, ps = v.ps := ⟨_, rfl⟩
      rw [← hwo] at HL2 HR2 ⊢
      rw [← hpse]
      have HPE := Lib.hid hpse
      clear hwo hpse x0 x1 x2 x3 HL HR
      go_loopg [24] v.m (fun gk v24 wi => ∃ i : Nat, i ≤ v.m ∧ gk = v.m - i ∧ v24 = .int .i64 i ∧ LkAt W0 wi bl bm c co n kap (.slice none 0 0) (.slice none 0 0) (.slice none 0 0) (.slice none 0 0) mem L [] [] [] [] ∧ OpAt bm br w wi ∧ (∀ k (hk : k < os[u].syms.length), k < i → meetF os u k os[u].syms[k] = none))
      case atStart => exact ⟨0, Nat.zero_le _, rfl, rfl, HL2.out, HR2.out, fun j hj h => by omega⟩
      case round =>
        clear HL2 HR2
        obtain ⟨i, hi, hgi, rfl, hl, hr, hno⟩ := hrel
        have HGI := Lib.hid hgi
        have HL := Lib.hid hl
        have HR := Lib.hid hr
        have HNOI := Lib.hid hno
        clear hgi hl hr hno
        obtain ⟨_, _, _, _, hobj⟩ := (HO.out.below HL.out.below).get hlt HV.out HOU.out
        by_cases hlt2 : i < v.m
        · obtain ⟨c0, c1, hps, hc0', hi', hrange⟩ := hobj.sym hlt2
          obtain ⟨s, hs⟩ : ∃ s, o.syms[i] = s := ⟨_, rfl⟩
          rw [hs] at hrange
          have HS : Hid (symAt os u i = some s) := Lib.hid (by
            have := HOE.out
            subst this
            rw [← hs]
            exact sym_of hlu hi')
          have hiu : i < os[u].syms.length := by rw [HOE.out]; exact hi'
          have HSE : Hid (os[u].syms[i] = s) := Lib.hid (by
            have := HOE.out
            subst this
            exact hs)
          have hfs := (mayB_fine (HM.out.may _ (List.getElem_mem hlu))).syms s (HSE.out ▸ List.getElem_mem hiu)
          have hnm : s.name.size ≤ 9223372036854775807 := by have := hfs.name; omega
          have HRG := Lib.hid hrange
          obtain rfl : ps = some ⟨c0, c1, none⟩ := HPE.out.trans hps
          clear hs hrange hps hobj hfs
          have hst := sym_store s
          go_upto_region 7 with (refine wpList_load_mid (by rfl) 106 (.tmp 27) (by rfl) c0 (c1 + i * 7) (by rfl) [.string s.name, .int .i64 s.kind, .bool s.static, .int .i64 s.pos, .int .i64 s.size, .string s.sign, .int .i64 s.frame] _ HRG.out Try.underlying106 (by rfl) (by kernel_rfl) ?_)
          clear hst
          obtain ⟨b6, hb6⟩ : ∃ b6, b6 = wr.heap.size := ⟨_, rfl⟩
          obtain ⟨w3, hw3⟩ : ∃ w3, w3 = wr.alloc (.cells #[.string s.name, .int .i64 s.kind, .bool s.static, .int .i64 s.pos, .int .i64 s.size, .string s.sign, .int .i64 s.frame] 106) := ⟨_, rfl⟩
          have hbs : Below wr.heap.size wr w3 := by rw [hw3]; exact (Below.refl _ _).alloc (Nat.le_refl _) _
          have HL3 := Lib.hid (HL.out.go hbs)
          have HR3 := Lib.hid (HR.out.go hbs)
          have hx3 : w3.heap[b6]? = some (.cells #[.string s.name, .int .i64 s.kind, .bool s.static, .int .i64 s.pos, .int .i64 s.size, .string s.sign, .int .i64 s.frame] 106 (0, 0)) := by rw [hw3, hb6]; exact heap_alloc_new wr _
          rw [← hw3, ← hb6]
          have hout := fun w => outside_any s w
          obtain ⟨oo, hoo⟩ : ∃ oo, oo = outK s := ⟨_, rfl⟩
          rw [← hoo] at hout
          unfold symV at hout
          have HOUT := Lib.hid hout
          have HOWK : Hid (ownK s = !oo) := Lib.hid (by rw [hoo, HM.out.kind HS.out]; simp)
          have HOO := Lib.hid hoo
          clear hw3 hb6 hbs HL HR hout hoo
          obtain ⟨y0, y1, y2, y3, y4, y5, y6, yz⟩ := blk7 hx3
          have HX3 := Lib.hid hx3
          clear hx3
          go_wp2_with fail
          refine (HOUT.out _).mono ?_
          rintro e w4 ⟨rfl, hb4'⟩
          have HL4 := Lib.hid (HL3.out.go hb4')
          have HR4 := Lib.hid (HR3.out.go hb4')
          have hx4 := (hb4'.block _ (lt_of_block HX3.out)).trans HX3.out
          clear hb4' HL3 HR3 HX3 HOUT y0 y1 y2 y3 y4 y5 y6 yz
          obtain ⟨y0, y1, y2, y3, y4, y5, y6, yz⟩ := blk7 hx4
          have HX4 := Lib.hid hx4
          clear hx4
          cases oo
          · have HNX : Hid (meetF os u i os[u].syms[i] = none) := Lib.hid (by
              rw [HSE.out]
              unfold meetF
              rw [HOWK.out]
              rfl)
            go_wp2_with fail
            go_roundg (v.m - (i + 1))
            case measure => have := HGI.out; omega
            case rel => exact ⟨i + 1, hlt2, rfl, by go_num, HL4.out, HR4.out, fun k hk hki => by
              by_cases e : k < i
              · exact HNOI.out k hk e
              · obtain rfl : k = i := by omega
                exact HNX.out⟩
          · obtain ⟨a1, a2, a3, a4, a5, a6, a7, a8, bk, hval, hbk, hcase⟩ : ∃ a1 a2 a3 a4 a5 a6 a7 a8, ∃ bk : Bool, (L.lookup (nameOf s)).getD homeZ = homeCells a1 a2 a3 a4 a5 a6 a7 a8 ∧ (L.lookup (nameOf s)).isSome = bk ∧ ((bk = false ∧ meetF os u i s = some ((u : Int), (4 : Int), (i : Int))) ∨ (bk = true ∧ ∃ sh, ownK sh = true ∧ a3 = sh.kind ∧ a7 = sh.sign ∧ meetF os u i s = if kindBad s sh then some ((u : Int), (3 : Int), (i : Int)) else none)) := by
              rcases hhome : home os (nameOf s) with _ | ⟨vh, kh⟩
              · refine ⟨0, ⟨#[]⟩, 0, false, 0, 0, ⟨#[]⟩, 0, false, ?_, ?_, .inl ⟨rfl, ?_⟩⟩
                · rw [HHN.out _ hhome]; rfl
                · rw [HHN.out _ hhome]; rfl
                · unfold meetF
                  rw [HOWK.out]
                  simp only [hhome]
                  rfl
              · obtain ⟨oh, hvl, hohe, hkl, hownh, hq1, hq2⟩ := home_sym hhome
                subst hohe
                have hsy := sym_of hvl hkl
                refine ⟨(vh : Int), os[vh].syms[kh].name, os[vh].syms[kh].kind, os[vh].syms[kh].static, os[vh].syms[kh].pos, os[vh].syms[kh].size, os[vh].syms[kh].sign, os[vh].syms[kh].frame, true, ?_, ?_, .inr ⟨rfl, os[vh].syms[kh], hownh, rfl, rfl, ?_⟩⟩
                · rw [HHS.out _ _ _ _ hhome hsy]; rfl
                · rw [HHS.out _ _ _ _ hhome hsy]; rfl
                · unfold meetF
                  rw [HOWK.out]
                  simp only [hhome, hsy]
                  rfl
            have hlk : ∀ w2, LkAt W0 w2 bl bm c co n kap (.slice none 0 0) (.slice none 0 0) (.slice none 0 0) (.slice none 0 0) mem L [] [] [] [] → (Instr.lookup 135 (.map (some bm)) (.string s.name) true).run Try.prog w2 = .ok (.tuple #[.agg #[.int .i64 a1, .string a2, .int .i64 a3, .bool a4, .int .i64 a5, .int .i64 a6, .string a7, .int .i64 a8], .bool bk]) w2 := fun w2 h2 => by
              have := (homes_look h2.map h2.nd s.name hnm).1
              rw [show L.lookup s.name.data.toList = L.lookup (nameOf s) from rfl, hval, hbk] at this
              exact this
            have hlk1 := fun o => hlk (w4.alloc o) (HL4.out.go ((Below.refl _ _).alloc (Nat.le_refl _) _))
            have hlk2 := hlk w4.drew (HL4.out.go (Below.refl _ _).drew)
            have hlk3 := fun o => hlk (w4.alloc o).drew (HL4.out.go ((Below.refl _ _).alloc (Nat.le_refl _) _).drew)
            have HCASE := Lib.hid hcase
            clear hlk hval hbk hcase
            obtain ⟨b0, b1, b2, b3, b4, b5, b6', bz⟩ := blk7l HL4.out.box
            have hx4l := lt_of_block HX4.out
            have hbl4 := HL4.out.size
            have hn1' : w4.heap.size ≠ b6 := by omega
            have hn2 : w4.heap.size ≠ bl := by omega
            go_wp2_with fail
            go_cut [7, 8] from 32 to 41 (fun v7 v8 wx => v8 = .bool bk ∧ ∃ b7 : Nat, v7 = .pointer (some ⟨b7, 0, none⟩) ∧ w4.heap.size ≤ b7 ∧ Below w4.heap.size w4 wx ∧ wx.heap[b7]? = some (.cells #[.int .i64 a1, .string a2, .int .i64 a3, .bool a4, .int .i64 a5, .int .i64 a6, .string a7, .int .i64 a8] 172 (0, 0)))
            case first =>
              go_region
              all_goals go_wp2_with fail
              all_goals go_meet
              all_goals exact ⟨rfl, _, rfl, Nat.le_refl _, ((Below.refl _ _).alloc (Nat.le_refl _) _).drew, heap_alloc_new _ _⟩
            case rest =>
              obtain ⟨rfl, b7, rfl, hb7, hbe, hx7⟩ := hcut
              clear hlk1 hlk2 hlk3 hn1' hn2 b0 b1 b2 b3 b4 b5 b6' bz y0 y1 y2 y3 y4 y5 y6 yz
              have HL5 := Lib.hid (HL4.out.go hbe)
              have HR5 := Lib.hid (HR4.out.go hbe)
              have hx5 := (hbe.block _ hx4l).trans HX4.out
              clear hbe HL4 HR4 HX4 hx4l hbl4
              obtain ⟨y0, y1, y2, y3, y4, y5, y6, yz⟩ := blk7 hx5
              obtain ⟨q0, q1, q2, q3, q4, q5, q6, q7, qz⟩ := blk8 hx7
              clear hx5 hx7 hb7
              rcases HCASE.out with ⟨rfl, hme⟩ | ⟨rfl, sh, hown, rfl, rfl, hme⟩
              · clear HCASE
                have HTW : Hid (meetT os = ((u : Int), (4 : Int), (i : Int))) := Lib.hid (by
                  unfold meetT
                  have hsc : scan (meetF os) os = some ((u : Int), (4 : Int), (i : Int)) := by
                    refine firstFrom_some _ _ 0 u hlu ((u : Int), (4 : Int), (i : Int)) (fun j hj hju => by simpa using HNO.out j hj hju) ?_
                    simp only [Nat.zero_add]
                    refine firstFrom_some _ _ 0 i hiu ((u : Int), (4 : Int), (i : Int)) (fun k hk hki => by simpa using HNOI.out k hk hki) ?_
                    simp only [Nat.zero_add]
                    rw [HSE.out]
                    exact hme
                  rw [hsc])
                clear hme y0 y1 y2 y3 y4 y5 y6 yz q0 q1 q2 q3 q4 q5 q6 q7 qz
                have HTR := Lib.hid (HL5.out.trb (.int .i64 (u : Int)) (.int .i64 4) (.int .i64 (i : Int)) HR5.out.res hb4 hbne)
                obtain ⟨r0, r1, r2, rz⟩ := blk3' HR5.out.res
                go_wp2_with fail
                refine bodyPost_ret (v := .agg #[.int .i64 (u : Int), .int .i64 4, .int .i64 (i : Int)]) (by simp [results, Try.results87, go_sem, r0, r1, r2]) rfl ?_
                rw [HTW.out]
                exact ⟨rfl, HTR.out, HR5.out.done _ _ _⟩
              · clear HCASE
                obtain ⟨kb, hkb⟩ : ∃ kb, kb = kindBad s sh := ⟨_, rfl⟩
                rw [← hkb] at hme
                have HMF := Lib.hid hme
                have HKB := Lib.hid hkb
                have HOWNH := Lib.hid hown
                clear hme hkb hown
                go_upto_region 11 with fail
                go_cut [62] from 47 to 62 (fun v62 wx => v62 = .bool kb ∧ wc = wx)
                case first =>
                  have hks : s.kind = 3 ∨ s.kind = 4 := by
                    have h1 := HOO.out
                    unfold outK at h1
                    simpa using h1.symm
                  have hkh : sh.kind = 1 ∨ sh.kind = 2 := by
                    have h1 := HOWNH.out
                    unfold ownK at h1
                    simpa using h1
                  obtain ⟨ts, hts⟩ : ∃ ts : Bool, (sh.sign.toList == s.sign.toList) = ts := ⟨_, rfl⟩
                  have hsg : (signOf sh == signOf s) = ts := by
                    rw [ByteArray.toList_eq, ByteArray.toList_eq] at hts
                    exact hts
                  have HSG := Lib.hid hsg
                  clear hsg
                  rcases hks with ek | ek <;> rcases hkh with eh | eh
                  all_goals
                    have hkv : kb = (((s.kind == 3 && !(sh.kind == 1)) || (s.kind == 4 && !(sh.kind == 2))) || !ts) := by
                      rw [HKB.out]
                      unfold kindBad
                      rw [HSG.out]
                    rw [ek, eh] at hkv
                    rw [ek] at y1
                    rw [eh] at q2
                    have HKV := Lib.hid hkv
                    clear hkv ek eh
                    go_wp2_with fail
                    go_meet
                    exact ⟨by rw [HKV.out]; cases ts <;> rfl, rfl⟩
                case rest =>
                  obtain ⟨rfl, rfl⟩ := hcut
                  clear y0 y1 y2 y3 y4 y5 y6 yz q0 q1 q2 q3 q4 q5 q6 q7 qz
                  cases kb
                  · have HNX : Hid (meetF os u i os[u].syms[i] = none) := Lib.hid (by
                      rw [HSE.out, HMF.out]
                      rfl)
                    go_wp2_with fail
                    go_roundg (v.m - (i + 1))
                    case measure => have := HGI.out; omega
                    case rel => exact ⟨i + 1, hlt2, rfl, by go_num, HL5.out, HR5.out, fun k hk hki => by
                      by_cases e : k < i
                      · exact HNOI.out k hk e
                      · obtain rfl : k = i := by omega
                        exact HNX.out⟩
                  · have HTW : Hid (meetT os = ((u : Int), (3 : Int), (i : Int))) := Lib.hid (by
                      unfold meetT
                      have hsc : scan (meetF os) os = some ((u : Int), (3 : Int), (i : Int)) := by
                        refine firstFrom_some _ _ 0 u hlu ((u : Int), (3 : Int), (i : Int)) (fun j hj hju => by simpa using HNO.out j hj hju) ?_
                        simp only [Nat.zero_add]
                        refine firstFrom_some _ _ 0 i hiu ((u : Int), (3 : Int), (i : Int)) (fun k hk hki => by simpa using HNOI.out k hk hki) ?_
                        simp only [Nat.zero_add]
                        rw [HSE.out]
                        exact HMF.out
                      rw [hsc])
                    have HTR := Lib.hid (HL5.out.trb (.int .i64 (u : Int)) (.int .i64 3) (.int .i64 (i : Int)) HR5.out.res hb4 hbne)
                    obtain ⟨r0, r1, r2, rz⟩ := blk3' HR5.out.res
                    go_wp2_with fail
                    refine bodyPost_ret (v := .agg #[.int .i64 (u : Int), .int .i64 3, .int .i64 (i : Int)]) (by simp [results, Try.results87, go_sem, r0, r1, r2]) rfl ?_
                    rw [HTW.out]
                    exact ⟨rfl, HTR.out, HR5.out.done _ _ _⟩
        · obtain rfl : i = v.m := by omega
          have HNX : Hid (firstFrom (meetF os u) 0 os[u].syms = none) := Lib.hid (by
            refine firstFrom_none _ _ 0 (fun k hk => ?_)
            rw [Nat.zero_add]
            exact HNOI.out k hk (by rw [HOE.out, hobj.ml] at hk; exact hk))
          clear hobj
          go_wp2_with fail
          go_roundg (n - (u + 1))
          case measure => have := HG.out; omega
          case rel => exact ⟨u + 1, hlt, rfl, by go_num, HL.out, HR.out, fun k hk hki => by
            by_cases e : k < u
            · exact HNO.out k hk e
            · obtain rfl : k = u := by omega
              exact HNX.out⟩
    · obtain rfl : n = u := by omega
      have HMT : Hid (meetT os = mainE os) := Lib.hid (by
        have hsc : scan (meetF os) os = none := by
          refine firstFrom_none _ _ 0 (fun j hj => ?_)
          rw [Nat.zero_add]
          exact HNO.out j hj (by rw [HNL.out] at hj; exact hj)
        unfold meetT
        rw [hsc])
      obtain ⟨a1, a2, a3, a4, a5, a6, a7, a8, bk, hval, hbk, hcase⟩ : ∃ a1 a2 a3 a4 a5 a6 a7 a8, ∃ bk : Bool, (L.lookup mainName).getD homeZ = homeCells a1 a2 a3 a4 a5 a6 a7 a8 ∧ (L.lookup mainName).isSome = bk ∧ ((bk = false ∧ mainE os = ((0 : Int), (4 : Int), (0 : Int))) ∨ (bk = true ∧ ∃ sh : Ob.Sym, a3 = sh.kind ∧ a7 = sh.sign ∧ mainE os = if sh.kind = 1 then (if signOf sh = mainSign then noTrb else (0, 3, 0)) else (0, 4, 0))) := by
        rcases hhome : home os mainName with _ | ⟨vh, kh⟩
        · refine ⟨0, ⟨#[]⟩, 0, false, 0, 0, ⟨#[]⟩, 0, false, ?_, ?_, .inl ⟨rfl, ?_⟩⟩
          · rw [HHN.out _ hhome]; rfl
          · rw [HHN.out _ hhome]; rfl
          · unfold mainE
            simp only [hhome]
        · obtain ⟨oh, hvl, hohe, hkl, hownh, hq1, hq2⟩ := home_sym hhome
          subst hohe
          have hsy := sym_of hvl hkl
          refine ⟨(vh : Int), os[vh].syms[kh].name, os[vh].syms[kh].kind, os[vh].syms[kh].static, os[vh].syms[kh].pos, os[vh].syms[kh].size, os[vh].syms[kh].sign, os[vh].syms[kh].frame, true, ?_, ?_, .inr ⟨rfl, os[vh].syms[kh], rfl, rfl, ?_⟩⟩
          · rw [HHS.out _ _ _ _ hhome hsy]; rfl
          · rw [HHS.out _ _ _ _ hhome hsy]; rfl
          · unfold mainE
            simp only [hhome, hsy]
      have hlk : (Instr.lookup 135 (.map (some bm)) (.string ⟨#[109, 97, 105, 110]⟩) true).run Try.prog wr = .ok (.tuple #[.agg #[.int .i64 a1, .string a2, .int .i64 a3, .bool a4, .int .i64 a5, .int .i64 a6, .string a7, .int .i64 a8], .bool bk]) wr := by
        have := (homes_look HL.out.map HL.out.nd ⟨#[109, 97, 105, 110]⟩ (by decide)).1
        rw [show L.lookup (⟨#[109, 97, 105, 110]⟩ : ByteArray).data.toList = L.lookup mainName from rfl, hval, hbk] at this
        exact this
      obtain ⟨b0, b1, b2, b3, b4, b5, b6', bz⟩ := blk7l HL.out.box
      have HCASE := Lib.hid hcase
      clear hval hbk hcase
      go_upto_region 16 with fail
      obtain ⟨b9, hb9⟩ : ∃ b9, b9 = wr.heap.size := ⟨_, rfl⟩
      obtain ⟨w3, hw3⟩ : ∃ w3, w3 = wr.alloc (.cells #[.int .i64 a1, .string a2, .int .i64 a3, .bool a4, .int .i64 a5, .int .i64 a6, .string a7, .int .i64 a8] 172) := ⟨_, rfl⟩
      have hbs : Below wr.heap.size wr w3 := by rw [hw3]; exact (Below.refl _ _).alloc (Nat.le_refl _) _
      have HL3 := Lib.hid (HL.out.go hbs)
      have HR3 := Lib.hid (HR.out.go hbs)
      have hx3 : w3.heap[b9]? = some (.cells #[.int .i64 a1, .string a2, .int .i64 a3, .bool a4, .int .i64 a5, .int .i64 a6, .string a7, .int .i64 a8] 172 (0, 0)) := by rw [hw3, hb9]; exact heap_alloc_new wr _
      rw [← hw3, ← hb9]
      clear hw3 hb9 hbs HL HR hlk b0 b1 b2 b3 b4 b5 b6' bz
      obtain ⟨q0, q1, q2, q3, q4, q5, q6, q7, qz⟩ := blk8 hx3
      clear hx3
      rcases HCASE.out with ⟨rfl, hme⟩ | ⟨rfl, sh, rfl, rfl, hme⟩
      · clear HCASE
        have HTW : Hid (meetT os = ((0 : Int), (4 : Int), (0 : Int))) := Lib.hid (by rw [HMT.out, hme])
        clear hme q0 q1 q2 q3 q4 q5 q6 q7 qz
        have HTR := Lib.hid (HL3.out.trb (.int .i64 0) (.int .i64 4) (.int .i64 0) HR3.out.res hb4 hbne)
        obtain ⟨r0, r1, r2, rz⟩ := blk3' HR3.out.res
        go_wp2_with fail
        refine bodyPost_ret (v := .agg #[.int .i64 0, .int .i64 4, .int .i64 0]) (by simp [results, Try.results87, go_sem, r0, r1, r2]) rfl ?_
        rw [HTW.out]
        exact ⟨rfl, HTR.out, HR3.out.done _ _ _⟩
      · clear HCASE
        by_cases hk1 : sh.kind = 1
        · rw [hk1] at q2
          rw [if_pos hk1] at hme
          obtain ⟨ts, hts⟩ : ∃ ts : Bool, (sh.sign.toList == (⟨#[102, 110, 40, 41, 105, 110, 116]⟩ : ByteArray).toList) = ts := ⟨_, rfl⟩
          have hsg : decide (signOf sh = mainSign) = ts := by
            rw [ByteArray.toList_eq, ByteArray.toList_eq] at hts
            rw [← hts]
            exact (Bool.beq_eq_decide_eq _ _).symm
          have hts2 : (sh.sign.toList == [102, 110, 40, 41, 105, 110, 116]) = ts := by rw [← hts, ByteArray.toList_eq ⟨#[102, 110, 40, 41, 105, 110, 116]⟩]
          cases ts
          · have HTW : Hid (meetT os = ((0 : Int), (3 : Int), (0 : Int))) := Lib.hid (by rw [HMT.out, hme, if_neg (of_decide_eq_false hsg)])
            clear hme hsg hk1
            have HTR := Lib.hid (HL3.out.trb (.int .i64 0) (.int .i64 3) (.int .i64 0) HR3.out.res hb4 hbne)
            obtain ⟨r0, r1, r2, rz⟩ := blk3' HR3.out.res
            go_wp2_with fail
            refine bodyPost_ret (v := .agg #[.int .i64 0, .int .i64 3, .int .i64 0]) (by simp [results, Try.results87, go_sem, r0, r1, r2]) rfl ?_
            rw [HTW.out]
            exact ⟨rfl, HTR.out, HR3.out.done _ _ _⟩
          · have HTW : Hid (meetT os = ((0 : Int), (0 : Int), (0 : Int))) := Lib.hid (by rw [HMT.out, hme, if_pos (of_decide_eq_true hsg)]; rfl)
            clear hme hsg hk1
            have HTR := Lib.hid (HL3.out.trb (.int .i64 0) (.int .i64 0) (.int .i64 0) HR3.out.res hb4 hbne)
            obtain ⟨r0, r1, r2, rz⟩ := blk3' HR3.out.res
            go_wp2_with fail
            refine bodyPost_ret (v := .agg #[.int .i64 0, .int .i64 0, .int .i64 0]) (by simp [results, Try.results87, go_sem, r0, r1, r2]) rfl ?_
            rw [HTW.out]
            exact ⟨rfl, HTR.out, HR3.out.done _ _ _⟩
        · have hkb : (sh.kind == 1) = false := by simp [hk1]
          have hkb2 : (sh.kind != 1) = true := by simp [hk1]
          have HTW : Hid (meetT os = ((0 : Int), (4 : Int), (0 : Int))) := Lib.hid (by rw [HMT.out, hme, if_neg hk1])
          clear hme hk1
          have HTR := Lib.hid (HL3.out.trb (.int .i64 0) (.int .i64 4) (.int .i64 0) HR3.out.res hb4 hbne)
          obtain ⟨r0, r1, r2, rz⟩ := blk3' HR3.out.res
          go_wp2_with fail
          refine bodyPost_ret (v := .agg #[.int .i64 0, .int .i64 4, .int .i64 0]) (by simp [results, Try.results87, go_sem, r0, r1, r2]) rfl ?_
          rw [HTW.out]
          exact ⟨rfl, HTR.out, HR3.out.done _ _ _⟩
end

end Go.Proofs.Ythnehhidlaggeaa
