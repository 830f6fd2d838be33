/- link.joined: what it tells, where its linker stands: no walk. -/
import Derived.Test.YthnehhidlaggeaaLkOpen
import Derived.Test.YthnehhidlaggeaaLkRng
import Derived.Test.YthnehhidlaggeaaRCheck
import Derived.Test.YthnehhidlaggeaaLinkPlain
import Derived.Test.YthnehhidlaggeaaDec2
import Derived.Test.YthnehhidlaggeaaEnc
import Derived.Test.YthnehhidlaggeaaObjPut
import Derived.Test.YthnehhidlaggeaaMCheck
import Derived.Deep.Onto
import Derived.RegionTactic
import Derived.ChangeAlike
import Derived.BigRegion
import Derived.Laws.EntriesVeiled
import Derived.Deep.RegionHeld3
import Derived.Deep.DeepCutAuto
import Derived.Deep.CutBlock
import Derived.IntWalk
namespace Go.Proofs.Ythnehhidlaggeaa
set_option linter.unusedVariables false
set_option linter.unusedSimpArgs false
open Go.RowKit Ob

theorem linkR_err {os : List Ob.Obj} {mem : Int} (h : checkT os ≠ noTrb) : linkR os mem = .error (checkT os) := by unfold linkR; rw [if_neg h]
/-- the memory's size is laid -/
theorem LkAt.setM {W0 w : World} {bl bm c co n kap : Nat} {vk vd vC vD : Value} {mem m' : Int} {L : List (List UInt8 × Value)} {ks ds xc xd : List Int} (h : LkAt W0 w bl bm c co n kap vk vd vC vD mem L ks ds xc xd) : LkAt W0 (w.setCell ⟨bl, 6, none⟩ (.int .i64 m')) bl bm c co n kap vk vd vC vD m' L ks ds xc xd := by
  have g := set_grown w bl 6 (.int .i64 m')
  have hbx := h.box
  have hm : bm ≠ bl := h.ne.symm
  exact ⟨h.base, h.mbase, heap_setCell_same w bl 6 _ _ _ hbx, h.map.kept g (by simpa using hm), h.nd, h.rk.kept g (own_off2 h.rk hbx (by decide)), h.rd.kept g (own_off2 h.rd hbx (by decide)), h.rC.kept g (own_off2 h.rC hbx (by decide)), h.rD.kept g (own_off2 h.rD hbx (by decide)), h.apart, h.below.grown g h.below.size (fun k e => by injection e with e; have := h.base; omega)⟩
/-- a new linker -/
theorem LkAt.new {W0 w : World} {c co n kap : Nat} {mem : Int} (hb : Below W0.heap.size W0 w) : LkAt W0 ((w.alloc (.map #[] 0)).alloc (.cells #[.slice (some ⟨c, co, none⟩) n kap, .map (some w.heap.size), .slice none 0 0, .slice none 0 0, .slice none 0 0, .slice none 0 0, .int .i64 mem] 138)) (w.heap.size + 1) w.heap.size c co n kap (.slice none 0 0) (.slice none 0 0) (.slice none 0 0) (.slice none 0 0) mem [] [] [] [] [] := by
  have hz := hb.size
  refine ⟨by omega, hz, ?_, (World.ownsMap_made w Try.prog 9 heldR).alloc _, by simp, World.ownsRow_nil _ _ _ _, World.ownsRow_nil _ _ _ _, World.ownsRow_nil _ _ _ _, World.ownsRow_nil _ _ _ _, .inl rfl, (hb.alloc hz _).alloc (by simp; omega) _⟩
  have := heap_alloc_new (w.alloc (.map #[] 0)) (.cells #[.slice (some ⟨c, co, none⟩) n kap, .map (some w.heap.size), .slice none 0 0, .slice none 0 0, .slice none 0 0, .slice none 0 0, .int .i64 mem] 138)
  simpa using this
/-- what joined tells -/
def JnTells (w : World) (c co n kap : Nat) (mem : Int) (os : List Ob.Obj) (e : Ending) (w' : World) : Prop := match linkR os mem with
  | .error t => e = .returned (.tuple #[.pointer none, trV t]) ∧ Below w.heap.size w w'
  | .ok (xc, xd, xr) => ∃ bl bm vk vd vC vD, e = .returned (.tuple #[.pointer (some ⟨bl, 0, none⟩), trV noTrb]) ∧ LkAt w w' bl bm c co n kap vk vd vC vD mem (opens os n) (ksAll os) (dsAll os) xc xd
/-- where the steps stand -/
def StepAt (w : World) (bl bm c co n kap : Nat) (mem : Int) (os : List Ob.Obj) (j : Nat) (w' : World) : Prop := match j with
  | 0 => LkAt w w' bl bm c co n kap (.slice none 0 0) (.slice none 0 0) (.slice none 0 0) (.slice none 0 0) mem [] [] [] [] []
  | 1 => LkAt w w' bl bm c co n kap (.slice none 0 0) (.slice none 0 0) (.slice none 0 0) (.slice none 0 0) mem (opens os n) [] [] [] [] ∧ scan (twiceF os) os = none
  | _ => LkAt w w' bl bm c co n kap (.slice none 0 0) (.slice none 0 0) (.slice none 0 0) (.slice none 0 0) mem (opens os n) [] [] [] [] ∧ scan (twiceF os) os = none ∧ (meetT os).2.1 = 0


/-- seen from an earlier world -/
theorem LkAt.rebase {W W0 w : World} {bl bm c co n kap : Nat} {vk vd vC vD : Value} {mem : Int} {L : List (List UInt8 × Value)} {ks ds xc xd : List Int} (h : LkAt W0 w bl bm c co n kap vk vd vC vD mem L ks ds xc xd) (hb : Below W.heap.size W W0) : LkAt W w bl bm c co n kap vk vd vC vD mem L ks ds xc xd :=
  ⟨Nat.le_trans hb.size h.base, Nat.le_trans hb.size h.mbase, h.box, h.map, h.nd, h.rk.mono hb.size, h.rd.mono hb.size, h.rC.mono hb.size, h.rD.mono hb.size, h.apart, hb.trans (h.below.mono hb.size)⟩
theorem dec_op {n op a b c i : Int} (h0 : 0 ≤ n) (h1 : n ≤ 4294967295) (h : Cp.dec n = some (op, a, b, c, i)) : -9223372036854775808 ≤ op ∧ op ≤ 9223372036854775807 := by
  have := Cp.ok_bounds op a b c i (Cp.dec_enc n h0 h1 op a b c i h).1
  omega

section
variable {W0 w : World} {bl bm c co n kap : Nat} {vk vd vC vD : Value} {mem : Int} {L : List (List UInt8 × Value)} {xc xd : List Int} {os : List Ob.Obj}
/-- a symbol's address, when all is laid -/
theorem address_any (h : LkAt W0 w bl bm c co n kap vk vd vC vD mem (opens os n) (ksAll os) (dsAll os) xc xd) (hok : LinkOk os) (hnl : os.length = n) (hn : n ≤ 4) (u i : Nat) (s : Ob.Sym) (hs : symAt os u i = some s) :
    Calls Try.prog 90 #[.pointer (some ⟨bl, 0, none⟩), .int .i64 u, symV s] w fun e w' => e = .returned (.int .i64 (addrOf os u s)) ∧ Below w.heap.size w w' := by
  have hm : AllMay os := ⟨hok.may⟩
  have hk := hm.kind hs
  have hkb : ∀ v, v < n → 0 ≤ (ksAll os).getD v 0 ∧ (ksAll os).getD v 0 ≤ 10000000 ∧ 0 ≤ (dsAll os).getD v 0 ∧ (dsAll os).getD v 0 ≤ 10000000 := fun v hv => by
    rw [ksAll_at os v (by omega), dsAll_at os v (by omega)]
    have h1 := codeB_le os hok.few v (by omega)
    have h2 := codeB_le os hok.few os.length (Nat.le_refl _)
    have h3 := dataB_le os hok.few v (by omega)
    omega
  have hval : ∀ v (t : Ob.Sym), v < n → (if t.kind = 1 then (ksAll os).getD v 0 + t.pos else (dsAll os).getD v 0 + t.pos) = addrOwn os v t := fun v t hv => by
    rw [ksAll_at os v (by omega), dsAll_at os v (by omega)]
    rfl
  have hfs : ∀ v k t, symAt os v k = some t → v < n ∧ SymFine t := fun v k t ht => by
    obtain ⟨hu, hi, rfl⟩ := sym_mem ht
    exact ⟨by omega, (mayB_fine (hok.may _ (List.getElem_mem hu))).syms _ (List.getElem_mem hi)⟩
  obtain ⟨hun, hsf⟩ := hfs u i s hs
  have hp := hsf.pos
  rcases hok.homed hs with ho | ⟨⟨v, k⟩, hh⟩
  · have ho2 : outK s = false := by rw [hk, ho]; rfl
    obtain ⟨k0, k1, d0, d1⟩ := hkb u hun
    have := address_own h (by rw [ksAll_len]; exact hnl) (by rw [dsAll_len]; exact hnl) u hun s ho2 k0 k1 d0 d1 hp.1 (by omega)
    rw [hval u s hun] at this
    unfold addrOf
    rw [if_pos ho]
    exact this
  · by_cases ho : ownK s = true
    · have ho2 : outK s = false := by rw [hk, ho]; rfl
      obtain ⟨k0, k1, d0, d1⟩ := hkb u hun
      have := address_own h (by rw [ksAll_len]; exact hnl) (by rw [dsAll_len]; exact hnl) u hun s ho2 k0 k1 d0 d1 hp.1 (by omega)
      rw [hval u s hun] at this
      unfold addrOf
      rw [if_pos ho]
      exact this
    · have ho2 : outK s = true := by rw [hk]; simp [ho]
      obtain ⟨oh, hvl, hohe, hkl, hownh, hq1, hq2⟩ := home_sym hh
      subst hohe
      have hsy := sym_of hvl hkl
      obtain ⟨hvn, hvf⟩ := hfs v k _ hsy
      have hvp := hvf.pos
      obtain ⟨k0, k1, d0, d1⟩ := hkb v hvn
      have hlk : (opens os n).lookup (nameOf s) = some (homeV v os[v].syms[k]) := by
        have hnd := h.nd
        rw [← hnl] at hnd ⊢
        exact homes_some hm hnd hh hsy
      have := address_out h (by rw [ksAll_len]; exact hnl) (by rw [dsAll_len]; exact hnl) u v hvn s os[v].syms[k] (by have := hsf.name; omega) ho2 hlk k0 k1 d0 d1 hvp.1 (by omega)
      rw [hval v _ hvn] at this
      unfold addrOf
      rw [if_neg ho, hh]
      simp only [hsy]
      exact this
end

end Go.Proofs.Ythnehhidlaggeaa

/-! linker.turn: the walk. -/
namespace Go.Proofs.Ythnehhidlaggeaa
set_option linter.unusedVariables false
set_option linter.unusedSimpArgs false
open Go.RowKit Ob

section
variable {W0 w : World} {bl bm c co n kap : Nat} {vk vd vD : Value} {mem : Int} {L : List (List UInt8 × Value)} {ks ds xc xd : List Int} {g cap N : Nat}
set_option maxRecDepth 100000 in
set_option maxHeartbeats 1000000 in
theorem turn_any (h : LkAt W0 w bl bm c co n kap vk vd (.slice (some ⟨g, 0, none⟩) N cap) vD mem L ks ds xc xd) (hN : xc.length = N) (q : Nat) (hq : q < N) (x : Int) (op a b cc i0 : Int) (hu0 : 0 ≤ xc.getD q 0) (hu1 : xc.getD q 0 ≤ 4294967295) (hd : Cp.dec (xc.getD q 0) = some (op, a, b, cc, i0)) (o0 : -9223372036854775808 ≤ op) (o1 : op ≤ 9223372036854775807) (t : Bool) (ht : t = decide (Cp.mayE op a b cc x = 0)) :
    Calls Try.prog 89 #[.pointer (some ⟨bl, 0, none⟩), .int .i64 q, .int .i64 x] w fun e w' => e = .returned (.bool t) ∧ LkAt W0 w' bl bm c co n kap vk vd (.slice (some ⟨g, 0, none⟩) N cap) vD mem L ks ds (if t then xc.set q (Cp.encN op a b cc x) else xc) xd ∧ OthB g w w' := by
  have hdc : ∀ w' : World, Calls Try.prog 11 #[.int .u32 (xc.getD q 0)] w' fun e w'' => e = .returned (.tuple #[.agg #[.int .i64 op, .int .i64 a, .int .i64 b, .int .i64 cc, .int .i64 i0], .bool true]) ∧ Below w'.heap.size w' w'' := fun w' => by
    have := decode_any (xc.getD q 0) w' hu0 hu1
    rw [hd] at this
    exact this
  have rC := h.rC
  rw [hN] at rC
  obtain ⟨cw, cf⟩ := u32_at rC hN q hq
  obtain ⟨wv, hwv⟩ : ∃ wv, wv = xc.getD q 0 := ⟨_, rfl⟩
  rw [← hwv] at hdc cw hu0 hu1
  obtain ⟨b0, b1, b2, b3, b4, b5, b6, bz⟩ := blk7l h.box
  obtain ⟨m, hm⟩ : ∃ m, m = Cp.mayE op a b cc x := ⟨_, rfl⟩
  obtain ⟨en, hen⟩ : ∃ en, en = Cp.encN op a b cc x := ⟨_, rfl⟩
  have henc : ∀ w' : World, Calls Try.prog 13 #[.agg #[.int .i64 op, .int .i64 a, .int .i64 b, .int .i64 cc, .int .i64 x]] w' fun e w'' => e = .returned (.tuple #[.int .u32 (if m = 0 then en else 0), .int .i64 m]) ∧ Below w'.heap.size w' w'' := fun w' => by
    have := encode_any op a b cc x w' o0 o1
    rw [← hm, ← hen] at this
    exact this
  rw [← hm] at ht
  rw [← hen]
  have HDC := Lib.hid hdc
  have HL := Lib.hid h
  have HNN := Lib.hid hN
  clear hdc h hN hd hwv hm hen rC
  by_cases h0 : m = 0
  · subst h0
    obtain rfl : t = true := by rw [ht]; rfl
    have HENC := Lib.hid henc
    clear henc ht
    go_enter Try.func89, Try.ntmps89
    go_wp2_with fail
    refine (HDC.out _).mono ?_
    rintro e w1 ⟨rfl, hb⟩
    have h1 := HL.out.go hb
    have H1 := Lib.hid h1
    have HB1 := Lib.hid hb
    clear hb h1 HDC b0 b1 b2 b3 b4 b5 b6 bz cw cf HL
    go_wp2_with fail
    refine (HENC.out _).mono ?_
    rintro e w2 ⟨rfl, hb2⟩
    have hbz : Below w1.heap.size w1 w2 := Below.trans (by repeat (first | exact Below.refl _ _ | refine Below.alloc ?_ (by simp) _ | refine Below.setCell ?_ (by simp) _)) (hb2.mono (by simp))
    have h2 := H1.out.go hbz
    have HB2 := Lib.hid (HB1.out.trans (hbz.mono HB1.out.size))
    clear hbz HB1
    have rC := h2.rC
    rw [HNN.out] at rC
    obtain ⟨cw, cf⟩ := u32_at rC HNN.out q hq
    obtain ⟨b0, b1, b2, b3, b4, b5, b6, bz⟩ := blk7l h2.box
    have H2 := Lib.hid h2
    clear hb2 h2 HENC rC H1
    go_wp2_with fail
    go_ret
    exact ⟨rfl, H2.out.word HNN.out q en, fun k hk hne => (heap_setCell_other _ ⟨g, q, none⟩ k _ (by simp; omega)).trans (HB2.out.block k hk)⟩
  · obtain rfl : t = false := by rw [ht]; exact decide_eq_false h0
    rw [if_neg h0] at henc
    have hne : (m == 0) = false := beq_eq_false_iff_ne.2 h0
    have hne2 : (m != 0) = true := by unfold bne; rw [hne]; rfl
    have HENC := Lib.hid henc
    clear henc ht h0
    go_enter Try.func89, Try.ntmps89
    go_wp2_with fail
    refine (HDC.out _).mono ?_
    rintro e w1 ⟨rfl, hb⟩
    have h1 := HL.out.go hb
    have H1 := Lib.hid h1
    have HB1 := Lib.hid hb
    clear hb h1 HDC b0 b1 b2 b3 b4 b5 b6 bz cw cf HL
    go_wp2_with fail
    refine (HENC.out _).mono ?_
    rintro e w2 ⟨rfl, hb2⟩
    have hbz : Below w1.heap.size w1 w2 := Below.trans (by repeat (first | exact Below.refl _ _ | refine Below.alloc ?_ (by simp) _ | refine Below.setCell ?_ (by simp) _)) (hb2.mono (by simp))
    have h2 := H1.out.go hbz
    have HB2 := Lib.hid (HB1.out.trans (hbz.mono HB1.out.size))
    clear hbz HB1
    have H2 := Lib.hid h2
    clear hb2 h2 HENC H1
    go_wp2_with fail
    go_ret
    exact ⟨rfl, H2.out, fun k hk _ => HB2.out.block k hk⟩
end

end Go.Proofs.Ythnehhidlaggeaa

/-! link.joined: the walk. -/
namespace Go.Proofs.Ythnehhidlaggeaa
set_option linter.unusedVariables false
set_option linter.unusedSimpArgs false
open Go.RowKit Ob

set_option maxRecDepth 100000 in
set_option maxHeartbeats 1000000 in
theorem joined_size (p : Option Addr) (n kap : Nat) (mem : Int) (w : World) (hn : n < 1 ∨ 4 < n) :
    Calls Try.prog 59 #[.slice p n kap, .int .i64 mem] w fun e w' => e = .returned (.tuple #[.pointer none, trV (0, 1, 0)]) ∧ Below w.heap.size w w' := by
  unfold trV
  rcases hn with hn | hn
  · have h1 : decide ((n : Int) < 1) = true := decide_eq_true (by omega)
    obtain rfl : n = 0 := by omega
    go_enter Try.func59, Try.ntmps59
    go_wp2_with fail
    refine bodyPost_ret (v := .tuple #[.pointer none, .agg #[.int .i64 0, .int .i64 1, .int .i64 0]]) (by simp [results, Try.results59, go_sem]) rfl ⟨rfl, ?_⟩
    exact (Below.refl _ _).alloc (Nat.le_refl _) _
  · have h1 : decide ((n : Int) < 1) = false := decide_eq_false (by omega)
    have h2 : decide ((4 : Int) < n) = true := decide_eq_true (by omega)
    go_enter Try.func59, Try.ntmps59
    go_wp2_with fail
    refine bodyPost_ret (v := .tuple #[.pointer none, .agg #[.int .i64 0, .int .i64 1, .int .i64 0]]) (by simp [results, Try.results59, go_sem]) rfl ⟨rfl, ?_⟩
    exact (Below.refl _ _).alloc (Nat.le_refl _) _

set_option maxRecDepth 100000 in
set_option maxHeartbeats 4000000 in
theorem joined_any (c co n kap : Nat) (vs : List OV) (os : List Ob.Obj) (mem mx : Int) (w : World) (ho : ObjsAt w c co n vs os) (hmx : w.cell? ⟨0, 0, none⟩ = some (.int .i64 mx)) (hn1 : 1 ≤ n) (hn : n ≤ 4) :
    Calls Try.prog 59 #[.slice (some ⟨c, co, none⟩) n kap, .int .i64 mem] w (JnTells w c co n kap mem os) := by
  have HO := Lib.hid ho
  have HMX := Lib.hid hmx
  have HNL := Lib.hid ho.nl
  have hd1 : decide ((n : Int) < 1) = false := decide_eq_false (by omega)
  have hd2 : decide ((4 : Int) < n) = false := decide_eq_false (by omega)
  clear ho hmx
  have HC0 : Hid (CkAt w.heap.size w (w.alloc (.cells #[.int .i64 0, .int .i64 0, .int .i64 0] 73))) := Lib.hid ⟨rfl, heap_alloc_new w _, (Below.refl _ _).alloc (Nat.le_refl _) _⟩
  obtain ⟨br, hbr⟩ : ∃ br, br = w.heap.size := ⟨_, rfl⟩
  go_enter Try.func59, Try.ntmps59
  go_wp2_with fail
  obtain ⟨ws, hws⟩ : ∃ ws, ws = w.alloc (.cells #[.int .i64 0, .int .i64 0, .int .i64 0] 73) := ⟨_, rfl⟩
  rw [← hws] at HC0 ⊢
  rw [← hbr] at HC0 ⊢
  have HBR := Lib.hid hbr
  clear hws hd1 hd2 hbr
  go_loopg [28] n (fun gk v28 wr => ∃ u : Nat, u ≤ n ∧ gk = n - u ∧ v28 = .int .i64 u ∧ CkAt br w wr ∧ (∀ j (hj : j < os.length), j < u → formF j os[j] = none))
  case atStart => exact ⟨0, by omega, rfl, rfl, HC0.out, fun j hj h => by omega⟩
  case round =>
    clear HC0
    obtain ⟨u, hu, hg, rfl, hc, hno⟩ := hrel
    have HG := Lib.hid hg
    have HC := Lib.hid hc
    have HNO := Lib.hid hno
    clear hg hc hno
    by_cases hlt : u < n
    · have hul : u < os.length := by rw [HNL.out]; exact hlt
      obtain ⟨v, o, hv, hou⟩ := HO.out.some hlt
      have hoe : os[u] = o := (List.getElem?_eq_some_iff.1 hou).2
      have hbw : Below w.heap.size w wr := HC.out.below.mono (by have := HC.out.hB; omega)
      obtain ⟨x0, x1, x2, x3, hobj⟩ := (HO.out.below hbw).get hlt hv hou
      obtain ⟨t, ht⟩ : ∃ t, mayB o = t := ⟨_, rfl⟩
      have hmay := fun w' (hb : Below wr.heap.size wr w') => omay_any o v.pc v.pd v.ps v.pr v.n v.kn v.d v.kd v.m v.km v.r v.kr mx w' (hobj.below hb) ((hb.cell (p := ⟨0, 0, none⟩) (Nat.lt_of_lt_of_le (lt_of_cell HMX.out) hbw.size)).trans ((hbw.cell (p := ⟨0, 0, none⟩) (lt_of_cell HMX.out)).trans HMX.out))
      rw [ht] at hmay
      unfold objV at hmay
      have HMAY := Lib.hid hmay
      have HFM : Hid (formF u os[u] = if t then none else some ((u : Int), (2 : Int), (0 : Int))) := Lib.hid (by unfold formF; rw [hoe, ht])
      clear hv hou hoe hobj ht hmay hbw
      go_wp2_with fail
      refine (HMAY.out _ ((Below.refl _ _).alloc (Nat.le_refl _) _)).mono ?_
      rintro e w1 ⟨rfl, hb⟩
      have HC1 := Lib.hid (HC.out.go (((Below.refl _ _).alloc (Nat.le_refl _) _).trans (hb.mono (by simp))))
      clear hb HC x0 x1 x2 x3
      cases t
      · have HTW : Hid (JnTells w c co n kap mem os = fun e w' => e = .returned (.tuple #[.pointer none, trV ((u : Int), (2 : Int), (0 : Int))]) ∧ Below w.heap.size w w') := Lib.hid (by
          have hT : checkT os = ((u : Int), (2 : Int), (0 : Int)) := by
            unfold checkT
            rw [firstFrom_some formF os 0 u hul ((u : Int), (2 : Int), (0 : Int)) (fun j hj hju => by simpa using HNO.out j hj hju) (by rw [Nat.zero_add, HFM.out]; rfl)]
          funext e w'
          unfold JnTells
          rw [linkR_err (by rw [hT]; simp [noTrb]), hT])
        obtain ⟨r0, r1, r2, rz⟩ := blk3 HC1.out.res
        go_wp2_with fail
        refine bodyPost_ret (v := .tuple #[.pointer none, .agg #[.int .i64 (u : Int), .int .i64 2, .int .i64 0]]) (by simp [results, Try.results59, go_sem, r0, r1, r2]) rfl ?_
        clear r0 r1 r2 rz
        rw [HTW.out]
        have hB := HC1.out.below
        rw [HBR.out] at hB ⊢
        exact ⟨rfl, ((hB.setCell (Nat.le_refl _) _).setCell (Nat.le_refl _) _).setCell (Nat.le_refl _) _⟩
      · go_wp2_with fail
        go_roundg (n - (u + 1))
        case measure => have := HG.out; omega
        case rel => exact ⟨u + 1, hlt, rfl, by go_num, HC1.out, fun j hj hju => by
          by_cases e : j < u
          · exact HNO.out j hj e
          · obtain rfl : j = u := by omega
            rw [HFM.out]
            rfl⟩
    · obtain rfl : n = u := by omega
      have hmay : ∀ o ∈ os, mayB o = true := fun o ho => by
        obtain ⟨j, hj, rfl⟩ := List.getElem_of_mem ho
        have := HNO.out j hj (by rw [HNL.out] at hj; exact hj)
        unfold formF at this
        split at this
        · assumption
        · cases this
      have HM : Hid (AllMay os) := Lib.hid ⟨hmay⟩
      have HCT : Hid (checkT os = match scan (twiceF os) os with
          | some t => t
          | none => meetT os) := Lib.hid (by
        unfold checkT meetT
        rw [firstFrom_none formF os 0 (fun j hj => by rw [Nat.zero_add]; exact HNO.out j hj (by rw [HNL.out] at hj; exact hj))]
        rfl)
      clear hmay HNO
      have hmm := @run_makeMap Try.prog
      go_wp2_with fail
      clear hmm
      obtain ⟨w5, hw5⟩ : ∃ w5 : World, w5 = wr := ⟨_, rfl⟩
      rw [← hw5] at HC ⊢
      clear hw5
      obtain ⟨bm, hbm⟩ : ∃ bm, bm = w5.heap.size := ⟨_, rfl⟩
      obtain ⟨bl, hbl⟩ : ∃ bl, bl = w5.heap.size + 1 := ⟨_, rfl⟩
      obtain ⟨w9, hw9⟩ : ∃ w9, w9 = ((w5.alloc (.map #[] 0)).alloc (.cells #[.slice (some ⟨c, co, none⟩) n kap, .map (some w5.heap.size), .slice none 0 0, .slice none 0 0, .slice none 0 0, .slice none 0 0, .int .i64 mem] 138)).alloc (.cells #[.func (.func 86) #[.pointer (some ⟨w5.heap.size + 1, 0, none⟩)] #[], .func (.func 87) #[.pointer (some ⟨w5.heap.size + 1, 0, none⟩)] #[]] 167) := ⟨_, rfl⟩
      obtain ⟨bs, hbs⟩ : ∃ bs, bs = w5.heap.size + 1 + 1 := ⟨_, rfl⟩
      have hl9 : LkAt w5 w9 bl bm c co n kap (.slice none 0 0) (.slice none 0 0) (.slice none 0 0) (.slice none 0 0) mem [] [] [] [] [] := by
        rw [hw9, hbm, hbl]
        exact (LkAt.new (Below.refl _ _)).go ((Below.refl _ _).alloc (Nat.le_refl _) _)
      have hs9 : w9.heap[bs]? = some (.cells #[.func (.func 86) #[.pointer (some ⟨bl, 0, none⟩)] #[], .func (.func 87) #[.pointer (some ⟨bl, 0, none⟩)] #[]] 167 (0, 0)) := by
        rw [hw9, hbs, hbl]
        have := heap_alloc_new ((w5.alloc (.map #[] 0)).alloc (.cells #[.slice (some ⟨c, co, none⟩) n kap, .map (some w5.heap.size), .slice none 0 0, .slice none 0 0, .slice none 0 0, .slice none 0 0, .int .i64 mem] 138)) (.cells #[.func (.func 86) #[.pointer (some ⟨w5.heap.size + 1, 0, none⟩)] #[], .func (.func 87) #[.pointer (some ⟨w5.heap.size + 1, 0, none⟩)] #[]] 167)
        simpa using this
      rw [← hw9]
      have hbw : Below w.heap.size w w5 := HC.out.below.mono (by have := HC.out.hB; omega)
      have HBW := Lib.hid hbw
      have HO5 := Lib.hid (HO.out.below hbw)
      have hsm : bs ≠ bm := by omega
      have HL9 := Lib.hid hl9
      have HS9 := Lib.hid hs9
      rw [← hbs, ← hbl]
      clear hl9 hs9 hw9 hbm hbl hbs hbw
      go_loopg [54] 2 (fun gk v54 wr => ∃ j : Nat, j ≤ 2 ∧ gk = 2 - j ∧ v54 = .int .i64 j ∧ StepAt w5 bl bm c co n kap mem os j wr ∧ wr.heap[bs]? = some (.cells #[.func (.func 86) #[.pointer (some ⟨bl, 0, none⟩)] #[], .func (.func 87) #[.pointer (some ⟨bl, 0, none⟩)] #[]] 167 (0, 0)))
      case atStart => exact ⟨0, by omega, rfl, rfl, HL9.out, HS9.out⟩
      case round =>
        clear HL9 HS9
        obtain ⟨j, hj, hg, rfl, hst, hs⟩ := hrel
        have HG := Lib.hid hg
        have HS := Lib.hid hs
        clear hg
        rcases (show j = 0 ∨ j = 1 ∨ j = 2 by omega) with hj0 | hj1 | hj2
        · have hcell : wr.cell? ⟨bs, j, none⟩ = some (.func (.func 86) #[.pointer (some ⟨bl, 0, none⟩)] #[]) := by rw [hj0]; exact cell_of_row wr bs 0 _ _ _ hs
          have hl : LkAt w5 wr bl bm c co n kap (.slice none 0 0) (.slice none 0 0) (.slice none 0 0) (.slice none 0 0) mem [] [] [] [] [] := by rw [hj0] at hst; exact hst
          have HOP := Lib.hid (open_any hl HO5.out HM.out hn1 hn)
          have hd : decide ((j : Int) < 2) = true := decide_eq_true (by omega)
          have HJ := Lib.hid hj0
          have hj2 : j < 2 := by omega
          clear hs hst hl hj0
          go_wp2_with fail
          refine HOP.out.mono ?_
          intro e w1 ht
          rcases hsc : scan (twiceF os) os with _ | ⟨T1, T2, T3⟩
          · have ht2 : e = .returned (troV noTrb) ∧ LkAt w5 w1 bl bm c co n kap (.slice none 0 0) (.slice none 0 0) (.slice none 0 0) (.slice none 0 0) mem (opens os n) [] [] [] [] ∧ OthB bm wr w1 := by
              unfold OpTells at ht
              rw [hsc] at ht
              exact ht
            obtain ⟨rfl, hl1, hoth⟩ := ht2
            have HL1 := Lib.hid hl1
            have HS1 := Lib.hid ((hoth bs (lt_of_block HS.out) hsm).trans HS.out)
            have HSC := Lib.hid hsc
            have hs1l := lt_of_block HS1.out
            unfold troV noTrb
            simp only
            clear ht hl1 hoth hsc hcell HOP
            go_wp2_with fail
            go_roundg (2 - (j + 1))
            case measure => have := HG.out; omega
            case rel => exact ⟨j + 1, by omega, rfl, by go_num, by
              rw [HJ.out]
              exact ⟨HL1.out.go ((Below.refl _ _).alloc (Nat.le_refl _) _), HSC.out⟩, (Below.heap_alloc _ _ _ hs1l).trans HS1.out⟩
          · have ht2 : e = .returned (troV (T1, T2, T3)) ∧ Below w5.heap.size w5 w1 ∧ OthB bm wr w1 := by
              unfold OpTells at ht
              rw [hsc] at ht
              exact ht
            obtain ⟨rfl, hb1, hoth⟩ := ht2
            have hc0 : T2 ≠ 0 := scan_code (fun _ _ _ _ => twiceF_code) hsc
            have HTW : Hid (JnTells w c co n kap mem os = fun e w' => e = .returned (.tuple #[.pointer none, trV (T1, T2, T3)]) ∧ Below w.heap.size w w') := Lib.hid (by
              have hT : checkT os = (T1, T2, T3) := by rw [HCT.out, hsc]
              funext e w'
              unfold JnTells
              rw [linkR_err (by rw [hT]; intro e; injection e with _ e; injection e with e; exact hc0 e), hT])
            have hne : (T2 == 0) = false := beq_eq_false_iff_ne.2 hc0
            have hne2 : (T2 != 0) = true := by unfold bne; rw [hne]; rfl
            have HC1 := Lib.hid (HC.out.go hb1)
            unfold troV
            simp only
            clear ht hb1 hoth hsc hcell HOP hc0
            obtain ⟨r0, r1, r2, rz⟩ := blk3 HC1.out.res
            have hbr1 := lt_of_block HC1.out.res
            go_wp2_with fail
            go_region
            all_goals go_wp2_with fail
            all_goals
              refine bodyPost_ret (v := .tuple #[.pointer none, .agg #[.int .i64 T1, .int .i64 T2, .int .i64 T3]]) (by simp [results, Try.results59, go_sem, r0, r1, r2, hbr1]) rfl ?_
              clear r0 r1 r2 rz
              rw [HTW.out]
              have hB := HC1.out.below
              rw [HBR.out] at hB ⊢
              refine ⟨rfl, ?_⟩
              repeat (first | (with_reducible exact hB) | (with_reducible refine Below.setCell ?_ (by simp) _) | (with_reducible refine Below.drew ?_) | (with_reducible refine Below.alloc ?_ (by have := hB.size; simp; omega) _))
        · have hcell : wr.cell? ⟨bs, j, none⟩ = some (.func (.func 87) #[.pointer (some ⟨bl, 0, none⟩)] #[]) := by rw [hj1]; exact cell_of_row wr bs 1 _ _ _ hs
          have hl : LkAt w5 wr bl bm c co n kap (.slice none 0 0) (.slice none 0 0) (.slice none 0 0) (.slice none 0 0) mem (opens os n) [] [] [] [] ∧ scan (twiceF os) os = none := by rw [hj1] at hst; exact hst
          have HSC := Lib.hid hl.2
          have hme := meet_any hl.1 rfl HO5.out HM.out hn1 hn
          obtain ⟨⟨T1, T2, T3⟩, hT⟩ : ∃ T, T = meetT os := ⟨_, rfl⟩
          rw [← hT] at hme
          have HME := Lib.hid hme
          have HT := Lib.hid hT
          have hd : decide ((j : Int) < 2) = true := decide_eq_true (by omega)
          have HJ := Lib.hid hj1
          have hj2 : j < 2 := by omega
          clear hs hst hl hj1 hme hT
          go_wp2_with fail
          refine HME.out.mono ?_
          rintro e w1 ⟨rfl, hl1, hoth⟩
          have HL1 := Lib.hid hl1
          have HS1 := Lib.hid ((hoth bs (lt_of_block HS.out) hsm).trans HS.out)
          have hs1l := lt_of_block HS1.out
          unfold troV
          simp only
          clear hl1 hoth hcell HME
          by_cases hc0 : T2 = 0
          · subst hc0
            go_wp2_with fail
            go_roundg (2 - (j + 1))
            case measure => have := HG.out; omega
            case rel => exact ⟨j + 1, by omega, rfl, by go_num, by
              rw [HJ.out]
              exact ⟨HL1.out.go ((Below.refl _ _).alloc (Nat.le_refl _) _), HSC.out, by rw [← HT.out]⟩, (Below.heap_alloc _ _ _ hs1l).trans HS1.out⟩
          · have HTW : Hid (JnTells w c co n kap mem os = fun e w' => e = .returned (.tuple #[.pointer none, trV (T1, T2, T3)]) ∧ Below w.heap.size w w') := Lib.hid (by
              have hT : checkT os = (T1, T2, T3) := by rw [HCT.out, HSC.out, HT.out]
              funext e w'
              unfold JnTells
              rw [linkR_err (by rw [hT]; intro e; injection e with _ e; injection e with e; exact hc0 e), hT])
            have hne : (T2 == 0) = false := beq_eq_false_iff_ne.2 hc0
            have hne2 : (T2 != 0) = true := by unfold bne; rw [hne]; rfl
            have HC1 := Lib.hid (HC.out.go HL1.out.below)
            clear hc0
            obtain ⟨r0, r1, r2, rz⟩ := blk3 HC1.out.res
            have hbr1 := lt_of_block HC1.out.res
            go_wp2_with fail
            go_region
            all_goals go_wp2_with fail
            all_goals
              refine bodyPost_ret (v := .tuple #[.pointer none, .agg #[.int .i64 T1, .int .i64 T2, .int .i64 T3]]) (by simp [results, Try.results59, go_sem, r0, r1, r2, hbr1]) rfl ?_
              clear r0 r1 r2 rz
              rw [HTW.out]
              have hB := HC1.out.below
              rw [HBR.out] at hB ⊢
              refine ⟨rfl, ?_⟩
              repeat (first | (with_reducible exact hB) | (with_reducible refine Below.setCell ?_ (by simp) _) | (with_reducible refine Below.drew ?_) | (with_reducible refine Below.alloc ?_ (by have := hB.size; simp; omega) _))
        · obtain rfl : j = 2 := hj2
          have hl : LkAt w5 wr bl bm c co n kap (.slice none 0 0) (.slice none 0 0) (.slice none 0 0) (.slice none 0 0) mem (opens os n) [] [] [] [] ∧ scan (twiceF os) os = none ∧ (meetT os).2.1 = 0 := hst
          have hok : LinkOk os := link_ok (by rw [HCT.out, hl.2.1]; exact hl.2.2)
          have HOK := Lib.hid hok
          have HLAY := Lib.hid (lay_any hl.1 HO5.out hok.few hn1 hn _ _ rfl rfl)
          clear hs hst hl hok HS HG HM HCT
          go_wp2_with fail
          refine HLAY.out.mono ?_
          rintro e w1 ⟨rfl, vk, vd, vC, vD, hl1⟩
          obtain ⟨xc, hxc⟩ : ∃ xc, xc = [Cp.encN 21 0 0 0 0, Cp.encN 25 0 0 0 0] ++ codeTo os n := ⟨_, rfl⟩
          obtain ⟨xd, hxd⟩ : ∃ xd, xd = dataTo os n := ⟨_, rfl⟩
          rw [← hxc, ← hxd] at hl1
          have HXB : Hid (xc = baseC os os.length) := Lib.hid (by rw [hxc, HNL.out]; rfl)
          have hxl : xc.length = 2 + codeB os n := by rw [HXB.out, baseC_len, HNL.out]
          have hdl : xd.length = dataB os n := by rw [hxd, dataTo_len os n (by rw [HNL.out]; exact Nat.le_refl _)]
          have hcb := codeB_le os HOK.out.few n (by rw [HNL.out]; exact Nat.le_refl _)
          have hdb := dataB_le os HOK.out.few n (by rw [HNL.out]; exact Nat.le_refl _)
          obtain ⟨gC, kC, hvC⟩ := own_slice hl1.rC (by omega)
          obtain ⟨pD, kD, hvD⟩ := own_form hl1.rD
          obtain ⟨gK, kK, hvK⟩ := own_slice hl1.rk (by rw [ksAll_len, HNL.out]; omega)
          rw [ksAll_len, HNL.out] at hvK
          subst hvC hvD hvK
          obtain ⟨N, hN⟩ : ∃ N, N = xc.length := ⟨_, rfl⟩
          obtain ⟨D, hD⟩ : ∃ D, D = xd.length := ⟨_, rfl⟩
          rw [← hN, ← hD] at hl1
          have HN : Hid (N = 2 + codeB os os.length) := Lib.hid (by rw [hN, hxl, HNL.out])
          have HD : Hid (D = dataB os os.length) := Lib.hid (by rw [hD, hdl, HNL.out])
          have HXL : Hid (xc.length = N) := Lib.hid hN.symm
          have hN1 : N ≤ 30000 := by omega
          have hD1 : D ≤ 70000 := by omega
          have HL1 := Lib.hid hl1
          have HXD := Lib.hid hxd
          obtain ⟨b0, b1, b2, b3, b4, b5, b6, bz⟩ := blk7l hl1.box
          clear hxc hxd hxl hdl hcb hdb hN hD hl1 HLAY
          go_wp2_with fail
          by_cases hmi : mayImage N D mem
          · have HLR : Hid (linkR os mem = match relU os (code0 os) os.length with
                | .error e => .error e
                | .ok L => .ok (L, dataTo os os.length, rngTo os os.length)) := Lib.hid (by
              have hmb : mayImg (2 + codeB os os.length) (dataB os os.length) mem = true := by
                unfold mayImg
                rw [← HN.out, ← HD.out]
                exact decide_eq_true hmi
              unfold linkR
              rw [if_pos HOK.out.eq, if_pos hmb]
              rfl)
            have hN6 : N ≤ 6000 := hmi.2.1
            refine (mcheck_yes _ _ _ _ _ _ _ _ hmi).mono ?_
            rintro e w2 ⟨rfl, rfl⟩
            have HL2 := Lib.hid (HL1.out.go ((Below.refl _ _).alloc (Nat.le_refl _) (.cells #[.slice (some ⟨gC, 0, none⟩) N kC, .slice pD D kD, .int .i64 mem] 34)))
            obtain ⟨w3, hw3⟩ : ∃ w3, w3 = w1.alloc (.cells #[.slice (some ⟨gC, 0, none⟩) N kC, .slice pD D kD, .int .i64 mem] 34) := ⟨_, rfl⟩
            rw [← hw3] at HL2 ⊢
            clear hw3 hmi b0 b1 b2 b3 b4 b5 b6 bz HL1
            go_wp2_with fail
            go_loopg [76] n (fun gk v76 wr => ∃ u : Nat, ∃ Lc : List Int, u ≤ n ∧ gk = n - u ∧ v76 = .int .i64 u ∧ relU os (baseC os os.length) u = .ok Lc ∧ Lc.length = N ∧ LkAt w5 wr bl bm c co n kap (.slice (some ⟨gK, 0, none⟩) n kK) vd (.slice (some ⟨gC, 0, none⟩) N kC) (.slice pD D kD) mem (opens os n) (ksAll os) (dsAll os) Lc xd)
            case atStart => exact ⟨0, xc, by omega, rfl, rfl, by rw [← HXB.out]; rfl, HXL.out, HL2.out⟩
            case round =>
              clear HL2
              obtain ⟨u, Lc, hu, hg, rfl, hre, hll, hl⟩ := hrel
              have HG := Lib.hid hg
              have HRE := Lib.hid hre
              have HLL := Lib.hid hll
              have HL := Lib.hid hl
              clear hg hre hll hl
              by_cases hlt : u < n
              · have hlu : u < os.length := by rw [HNL.out]; exact hlt
                obtain ⟨v, o, hv, hou⟩ := (HO5.out.below HL.out.below).some hlt
                have hoe : os[u] = o := (List.getElem?_eq_some_iff.1 hou).2
                obtain ⟨x0, x1, x2, x3, hobj⟩ := (HO5.out.below HL.out.below).get hlt hv hou
                have hvr : v.r ≤ 9223372036854775807 := hobj.rb
                have HV := Lib.hid hv
                have HOU := Lib.hid hou
                have HOE := Lib.hid hoe
                have HRL := Lib.hid hobj.rl
                have hbx : Below wr.heap.size wr (wr.alloc (.cells #[.slice v.pc v.n v.kn, .slice v.pd v.d v.kd, .slice v.ps v.m v.km, .slice v.pr v.r v.kr] 60)) := (Below.refl _ _).alloc (Nat.le_refl _) _
                have HL2 := Lib.hid (HL.out.go hbx)
                have HB2 := Lib.hid (heap_alloc_new wr (.cells #[.slice v.pc v.n v.kn, .slice v.pd v.d v.kd, .slice v.ps v.m v.km, .slice v.pr v.r v.kr] 60))
                clear hv hou hoe hobj hbx
                go_wp2_with fail
                obtain ⟨wo, hwo⟩ : ∃ wo, wo = wr.alloc (.cells #[.slice v.pc v.n v.kn, .slice v.pd v.d v.kd, .slice v.ps v.m v.km, .slice v.pr v.r v.kr] 60) := ⟨_, rfl⟩
                obtain ⟨b13, hb13⟩ : ∃ b13, b13 = wr.heap.size := ⟨_, rfl⟩
                obtain ⟨pr, hpre⟩ : ∃ pr, pr = v.pr := ⟨_, rfl⟩
                rw [← hwo] at HL2 HB2 ⊢
                rw [← hb13] at HB2 ⊢
                rw [← hpre]
                have HPE := Lib.hid hpre
                clear hwo hpre hb13 x0 x1 x2 x3 HL
                go_loopg [84] v.r (fun gk v84 wi => ∃ k : Nat, ∃ L2 : List Int, k ≤ v.r ∧ gk = v.r - k ∧ v84 = .int .i64 k ∧ relK os u Lc k = .ok L2 ∧ L2.length = N ∧ LkAt w5 wi bl bm c co n kap (.slice (some ⟨gK, 0, none⟩) n kK) vd (.slice (some ⟨gC, 0, none⟩) N kC) (.slice pD D kD) mem (opens os n) (ksAll os) (dsAll os) L2 xd ∧ wi.heap[b13]? = some (.cells #[.slice v.pc v.n v.kn, .slice v.pd v.d v.kd, .slice v.ps v.m v.km, .slice v.pr v.r v.kr] 60 (0, 0)))
                case atStart => exact ⟨0, Lc, by omega, rfl, rfl, rfl, HLL.out, HL2.out, HB2.out⟩
                case round =>
                  clear HL2 HB2
                  obtain ⟨k, L2, hk, hgk, rfl, hrk, hll2, hl2, hb2⟩ := hrel
                  have HGK := Lib.hid hgk
                  have HRK := Lib.hid hrk
                  have HLL2 := Lib.hid hll2
                  have HL2 := Lib.hid hl2
                  have HB2 := Lib.hid hb2
                  clear hgk hrk hll2 hl2 hb2
                  obtain ⟨_, _, _, _, hobj⟩ := (HO5.out.below HL2.out.below).get hlt HV.out HOU.out
                  by_cases hlt2 : k < v.r
                  · obtain ⟨c0, c1, hpr, hc0, hk', hrange⟩ := hobj.rel hlt2
                    have hrel := rel_has (HOK.out.may o (HOE.out ▸ List.getElem_mem hlu)) hk'
                    obtain ⟨⟨rp, rs, ra⟩, hr⟩ : ∃ r, o.rels[k] = r := ⟨_, rfl⟩
                    rw [hr] at hrange hrel
                    obtain ⟨⟨hp0, hp1⟩, ⟨hs0, hs1⟩, ⟨ha0, ha1⟩, hdec⟩ := hrel
                    simp only at hp0 hp1 hs0 hs1 ha0 ha1 hdec
                    obtain ⟨pi, rfl⟩ := Int.eq_ofNat_of_zero_le hp0
                    obtain ⟨si, rfl⟩ := Int.eq_ofNat_of_zero_le hs0
                    rw [Int.toNat_natCast] at hdec
                    have hsn : si < o.syms.length := by omega
                    have hsm2 : si < v.m := by rw [← hobj.ml]; exact hsn
                    have hvm : v.m ≤ 9223372036854775807 := hobj.mb
                    obtain ⟨op, da, db, dc, hdec⟩ := hdec
                    have hwb := hobj.u32 pi
                    obtain ⟨s, hs⟩ : ∃ s, symAt os u si = some s := ⟨_, sym_of hlu (by rw [HOE.out]; exact hsn)⟩
                    obtain ⟨d0, d1, hps, hd0, hsi', hsrange⟩ := ((HO5.out.get hlt HV.out HOU.out).2.2.2.2).sym hsm2
                    have hse : o.syms[si] = s := by
                      obtain ⟨_, _, e⟩ := sym_mem hs
                      have := HOE.out
                      subst this
                      exact e
                    rw [hse] at hsrange
                    have hrp : (os[u].rels[k]'(by rw [HOE.out]; exact hk')) = ⟨(pi : Int), (si : Int), ra⟩ := by
                      have := HOE.out
                      subst this
                      exact hr
                    have hpn : pi < os[u].code.length := by rw [HOE.out]; omega
                    have hwd : L2.getD (2 + codeB os u + pi) 0 = o.code.getD pi 0 := by
                      have := rel_word HOK.out.may hlu (k := k) (by rw [HOE.out]; exact hk') HRE.out HRK.out
                      rw [hrp] at this
                      simp only [Int.toNat_natCast] at this
                      rw [this, HOE.out]
                    have hq : 2 + codeB os u + pi < N := by
                      have h1 := codeB_succ os u hlu
                      have h2 := codeB_mono os (u + 1) os.length hlu (Nat.le_refl _)
                      rw [HN.out]
                      omega
                    obtain ⟨ad, had⟩ : ∃ ad, ad = addrOf os u s := ⟨_, rfl⟩
                    have hnb := HOK.out.of_bd (by rw [HNL.out]; exact hn) hs
                    rw [← had] at hnb
                    obtain ⟨ad0, ad1⟩ := hnb
                    obtain ⟨cb, hcb⟩ : ∃ cb : Int, cb = 2 + (codeB os u : Int) := ⟨_, rfl⟩
                    obtain ⟨q, hqe⟩ : ∃ q, q = 2 + codeB os u + pi := ⟨_, rfl⟩
                    rw [← hqe] at hwd hq
                    have hqc : ((q : Nat) : Int) = cb + pi := by rw [hqe, hcb]; omega
                    obtain ⟨t, ht⟩ : ∃ t, t = decide (Cp.mayE op da db dc (ad + ra) = 0) := ⟨_, rfl⟩
                    have HTU : Hid (∀ w', LkAt w5 w' bl bm c co n kap (.slice (some ⟨gK, 0, none⟩) n kK) vd (.slice (some ⟨gC, 0, none⟩) N kC) (.slice pD D kD) mem (opens os n) (ksAll os) (dsAll os) L2 xd →
                        Calls Try.prog 89 #[.pointer (some ⟨bl, 0, none⟩), .int .i64 (cb + pi), .int .i64 (ad + ra)] w' fun e w'' => e = .returned (.bool t) ∧ LkAt w5 w'' bl bm c co n kap (.slice (some ⟨gK, 0, none⟩) n kK) vd (.slice (some ⟨gC, 0, none⟩) N kC) (.slice pD D kD) mem (opens os n) (ksAll os) (dsAll os) (if t then L2.set q (Cp.encN op da db dc (ad + ra)) else L2) xd ∧ OthB gC w' w'') := Lib.hid (fun w' h' => by
                      have := turn_any h' HLL2.out q hq (ad + ra) op da db dc 0 (by rw [hwd]; exact hwb.1) (by rw [hwd]; exact hwb.2) (by rw [hwd]; exact hdec) (dec_op hwb.1 hwb.2 hdec).1 (dec_op hwb.1 hwb.2 hdec).2 t ht
                      rw [hqc] at this
                      exact this)
                    have HAD : Hid (∀ w', LkAt w5 w' bl bm c co n kap (.slice (some ⟨gK, 0, none⟩) n kK) vd (.slice (some ⟨gC, 0, none⟩) N kC) (.slice pD D kD) mem (opens os n) (ksAll os) (dsAll os) L2 xd →
                        Calls Try.prog 90 #[.pointer (some ⟨bl, 0, none⟩), .int .i64 u, .agg #[.string s.name, .int .i64 s.kind, .bool s.static, .int .i64 s.pos, .int .i64 s.size, .string s.sign, .int .i64 s.frame]] w' fun e w'' => e = .returned (.int .i64 ad) ∧ Below w'.heap.size w' w'') := Lib.hid (fun w' h' => by
                      rw [had]
                      exact address_any h' HOK.out HNL.out hn u si s hs)
                    have HRW : Hid ((t = false → relStep os u k ((relsOf os u).getD k default) L2 = .error (u, 6, k)) ∧ (t = true → relStep os u k ((relsOf os u).getD k default) L2 = .ok (L2.set q (Cp.encN op da db dc (ad + ra))))) := Lib.hid (by
                      have hk2 : k < (relsOf os u).length := by rw [relsOf_at hlu, HOE.out]; exact hk'
                      have hge : (relsOf os u).getD k default = ⟨(pi : Int), (si : Int), ra⟩ := by
                        rw [List.getD_eq_getElem?_getD, List.getElem?_eq_getElem hk2, Option.getD_some, ← hrp]
                        simp only [relsOf_at hlu]
                      have hcl : codeOf os u = o.code := by
                        unfold codeOf
                        rw [List.getElem?_eq_getElem hlu, HOE.out]
                        rfl
                      have hrw : relWord os u ⟨pi, si, ra⟩ (o.code.getD pi 0) = if Cp.mayE op da db dc (ad + ra) = 0 then some (Cp.encN op da db dc (ad + ra)) else none := by
                        unfold relWord
                        rw [hdec]
                        simp only [Int.toNat_natCast, hs, had]
                      rw [hge]
                      unfold relStep
                      rw [hcl]
                      simp only [Int.toNat_natCast]
                      rw [hrw, ← hqe]
                      constructor
                      · intro e
                        rw [ht] at e
                        rw [if_neg (of_decide_eq_false e)]
                      · intro e
                        rw [ht] at e
                        rw [if_pos (of_decide_eq_true e)])
                    have HRG := Lib.hid hrange
                    have HSR := Lib.hid hsrange
                    have HPI : Hid ((pi : Int) ≤ 6000) := Lib.hid (by have := (HOK.out.few o (HOE.out ▸ List.getElem_mem hlu)).1; omega)
                    obtain rfl : pr = some ⟨c0, c1, none⟩ := HPE.out.trans hpr
                    have rk := HL2.out.rk
                    rw [ksAll_len, HNL.out] at rk
                    have ck := i64_at rk (by rw [ksAll_len, HNL.out]) u hlt
                    rw [ksAll_at os u hlu, ← hcb] at ck
                    have gkl := (rk.lt gK rfl).2
                    have hcb0 : 0 ≤ cb ∧ cb ≤ 30000 := by have := HN.out; omega
                    obtain ⟨cb0, cb1⟩ := hcb0
                    have pi0 := HPI.out
                    have HCB := Lib.hid hcb
                    have HPS := Lib.hid hps
                    clear hrange hsrange hr hrp hwd hwb hdec hs hse hcb hqe hqc had ht hpr hobj hps hsi' hk' rk ck hs0 hs1 hp0 hp1 hpn
                    have HF : Hid (∀ w' Lx b15, LkAt w5 w' bl bm c co n kap (.slice (some ⟨gK, 0, none⟩) n kK) vd (.slice (some ⟨gC, 0, none⟩) N kC) (.slice pD D kD) mem (opens os n) (ksAll os) (dsAll os) Lx xd → w'.heap[b13]? = some (.cells #[.slice v.pc v.n v.kn, .slice v.pd v.d v.kd, .slice v.ps v.m v.km, .slice v.pr v.r v.kr] 60 (0, 0)) → w'.heap[b15]? = some (.cells #[.int .i64 pi, .int .i64 si, .int .i64 ra] 110 (0, 0)) → w'.cell? ⟨bl, 2, none⟩ = some (.slice (some ⟨gK, 0, none⟩) n kK) ∧ w'.cell? ⟨gK, u, none⟩ = some (.int .i64 cb) ∧ w'.cell? ⟨b15, 0, none⟩ = some (.int .i64 pi) ∧ w'.cell? ⟨b15, 1, none⟩ = some (.int .i64 si) ∧ w'.cell? ⟨b15, 2, none⟩ = some (.int .i64 ra) ∧ w'.cell? ⟨b13, 2, none⟩ = some (.slice (some ⟨d0, d1, none⟩) v.m v.km) ∧ w'.cell? ⟨d0, d1 + si * 7, none⟩ = some (.string s.name) ∧ w'.cell? ⟨d0, d1 + si * 7 + 1, none⟩ = some (.int .i64 s.kind) ∧ w'.cell? ⟨d0, d1 + si * 7 + 2, none⟩ = some (.bool s.static) ∧ w'.cell? ⟨d0, d1 + si * 7 + 3, none⟩ = some (.int .i64 s.pos) ∧ w'.cell? ⟨d0, d1 + si * 7 + 4, none⟩ = some (.int .i64 s.size) ∧ w'.cell? ⟨d0, d1 + si * 7 + 5, none⟩ = some (.string s.sign) ∧ w'.cell? ⟨d0, d1 + si * 7 + 6, none⟩ = some (.int .i64 s.frame)) := Lib.hid (fun w' Lx b15 hl h13 h15 => by
                      have rk := hl.rk
                      rw [ksAll_len, HNL.out] at rk
                      have ck := i64_at rk (by rw [ksAll_len, HNL.out]) u hlt
                      rw [ksAll_at os u hlu, ← HCB.out] at ck
                      have hc := fun j vv (hj : [Value.string s.name, .int .i64 s.kind, .bool s.static, .int .i64 s.pos, .int .i64 s.size, .string s.sign, .int .i64 s.frame][j]? = some vv) => (hl.below.cell (p := ⟨d0, d1 + si * 7 + j, none⟩) hd0).trans (HSR.out j vv hj)
                      have h5 := cell_of_row w' b13 2 _ _ _ h13
                      rw [HPS.out] at h5
                      exact ⟨(blk7l hl.box).2.2.1, ck, cell_of_row w' b15 0 _ _ _ h15, cell_of_row w' b15 1 _ _ _ h15, cell_of_row w' b15 2 _ _ _ h15, h5, hc 0 _ rfl, hc 1 _ rfl, hc 2 _ rfl, hc 3 _ rfl, hc 4 _ rfl, hc 5 _ rfl, hc 6 _ rfl⟩)
                    have r0 : wr.cell? ⟨c0, c1 + k * 3, none⟩ = some (.int .i64 pi) := HRG.out 0 _ rfl
                    have r1 : wr.cell? ⟨c0, c1 + k * 3 + 1, none⟩ = some (.int .i64 si) := HRG.out 1 _ rfl
                    have r2 : wr.cell? ⟨c0, c1 + k * 3 + 2, none⟩ = some (.int .i64 ra) := HRG.out 2 _ rfl
                    go_upto_region 27 with fail
                    obtain ⟨b15, hb15⟩ : ∃ b15, b15 = wr.heap.size := ⟨_, rfl⟩
                    obtain ⟨w6, hw6⟩ : ∃ w6, w6 = wr.alloc (.cells #[.int .i64 pi, .int .i64 si, .int .i64 ra] 110) := ⟨_, rfl⟩
                    have hbx : Below wr.heap.size wr w6 := by rw [hw6]; exact (Below.refl _ _).alloc (Nat.le_refl _) _
                    have hl6 := HL2.out.go hbx
                    have hx13 := (hbx.block _ (lt_of_block HB2.out)).trans HB2.out
                    have hx15 : w6.heap[b15]? = some (.cells #[.int .i64 pi, .int .i64 si, .int .i64 ra] 110 (0, 0)) := by rw [hw6, hb15]; exact heap_alloc_new wr _
                    have hgC := own_ne hl6.rC hx13 (by decide)
                    have hgC2 := own_ne hl6.rC hx15 (by decide)
                    have h13C : b13 ≠ gC := by simpa [Value.ownBlock] using hgC
                    have h15C : b15 ≠ gC := by simpa [Value.ownBlock] using hgC2
                    have HL6 := Lib.hid hl6
                    have HX13 := Lib.hid hx13
                    have HX15 := Lib.hid hx15
                    have HNE := Lib.hid (And.intro h13C h15C)
                    rw [← hw6, ← hb15]
                    obtain ⟨k0, k1, k2, k3, k4, k5, k6, k7, k8, k9, k10, k11, k12⟩ := HF.out w6 _ b15 hl6 hx13 hx15
                    have hs1 : IntKind.i64.wrap (cb + (pi : Int)) = cb + pi := IntWalk.i64_in _ (by omega)
                    have hs2 : IntKind.i64.wrap (ad + ra) = ad + ra := IntWalk.i64_in _ (by omega)
                    clear r0 r1 r2 hbx hl6 hx13 hx15 hgC hgC2 h13C h15C hw6 hb15
                    go_cut [113] from 89 to 112 (fun v113 wx => v113 = .bool (!t) ∧ LkAt w5 wx bl bm c co n kap (.slice (some ⟨gK, 0, none⟩) n kK) vd (.slice (some ⟨gC, 0, none⟩) N kC) (.slice pD D kD) mem (opens os n) (ksAll os) (dsAll os) (if t then L2.set q (Cp.encN op da db dc (ad + ra)) else L2) xd ∧ wx.heap[b13]? = some (.cells #[.slice v.pc v.n v.kn, .slice v.pd v.d v.kd, .slice v.ps v.m v.km, .slice v.pr v.r v.kr] 60 (0, 0)))
                    case first =>
                      go_region_held3 (fun w' => w'.cell? ⟨bl, 2, none⟩ = some (.slice (some ⟨gK, 0, none⟩) n kK) ∧ w'.cell? ⟨gK, u, none⟩ = some (.int .i64 cb) ∧ w'.cell? ⟨b15, 0, none⟩ = some (.int .i64 pi) ∧ w'.cell? ⟨b15, 1, none⟩ = some (.int .i64 si) ∧ w'.cell? ⟨b15, 2, none⟩ = some (.int .i64 ra) ∧ w'.cell? ⟨b13, 2, none⟩ = some (.slice (some ⟨d0, d1, none⟩) v.m v.km) ∧ w'.cell? ⟨d0, d1 + si * 7, none⟩ = some (.string s.name) ∧ w'.cell? ⟨d0, d1 + si * 7 + 1, none⟩ = some (.int .i64 s.kind) ∧ w'.cell? ⟨d0, d1 + si * 7 + 2, none⟩ = some (.bool s.static) ∧ w'.cell? ⟨d0, d1 + si * 7 + 3, none⟩ = some (.int .i64 s.pos) ∧ w'.cell? ⟨d0, d1 + si * 7 + 4, none⟩ = some (.int .i64 s.size) ∧ w'.cell? ⟨d0, d1 + si * 7 + 5, none⟩ = some (.string s.sign) ∧ w'.cell? ⟨d0, d1 + si * 7 + 6, none⟩ = some (.int .i64 s.frame)) (go_keep) (first | (go_at_call 90; (with_reducible refine (HAD.out _ (HL6.out.go (Below.refl _ _).drew)).mono ?_); rintro e w7 ⟨rfl, hb⟩; have hb2 : Below w6.heap.size w6 w7 := ⟨hb.os, hb.tape, hb.output, hb.size, hb.block⟩; have hl7 := HL6.out.go hb2; have hx13 := (hb2.block _ (lt_of_block HX13.out)).trans HX13.out; have hx15 := (hb2.block _ (lt_of_block HX15.out)).trans HX15.out; clear k0 k1 k2 k3 k4 k5 k6 k7 k8 k9 k10 k11 k12 HL6 HX13 HX15 hb hb2; obtain ⟨k0, k1, k2, k3, k4, k5, k6, k7, k8, k9, k10, k11, k12⟩ := HF.out w7 _ b15 hl7 hx13 hx15; have HL6 := Lib.hid hl7; have HX13 := Lib.hid hx13; have HX15 := Lib.hid hx15; clear hl7 hx13 hx15) | (go_at_call 89; (with_reducible refine (HTU.out _ HL6.out).mono ?_); rintro e w8 ⟨rfl, hl8, hoth⟩; have hx13 := (hoth _ (lt_of_block HX13.out) HNE.out.1).trans HX13.out; have hx15 := (hoth _ (lt_of_block HX15.out) HNE.out.2).trans HX15.out; clear k0 k1 k2 k3 k4 k5 k6 k7 k8 k9 k10 k11 k12 HL6 HX13 HX15 hoth; obtain ⟨k0, k1, k2, k3, k4, k5, k6, k7, k8, k9, k10, k11, k12⟩ := HF.out w8 _ b15 hl8 hx13 hx15; have HL8 := Lib.hid hl8; have HX13 := Lib.hid hx13; clear hl8 hx13 hx15))
                      all_goals go_wp2_with fail
                      all_goals go_meet
                      all_goals exact ⟨rfl, HL8.out, HX13.out⟩
                    case rest =>
                      obtain ⟨rfl, hl8, hb8⟩ := hcut
                      clear k0 k1 k2 k3 k4 k5 k6 k7 k8 k9 k10 k11 k12 hs1 hs2 HL6 HX13 HX15 HNE HF HTU HAD
                      cases t
                      · have HTW : Hid (JnTells w c co n kap mem os = fun e w' => e = .returned (.tuple #[.pointer none, trV ((u : Int), (6 : Int), (k : Int))]) ∧ Below w.heap.size w w') := Lib.hid (by
                          have hru : relU os (baseC os os.length) os.length = .error ((u : Int), (6 : Int), (k : Int)) :=
                            rel_error HRE.out HRK.out (by rw [relsOf_at hlu, HOE.out, HRL.out]; exact hlt2) (HRW.out.1 rfl) hlu
                          have hlr : linkR os mem = .error ((u : Int), (6 : Int), (k : Int)) := by
                            rw [HLR.out, relU_code0, hru]
                            rfl
                          funext e w'
                          unfold JnTells
                          rw [hlr])
                        have HC1 := Lib.hid (HC.out.go hl8.below)
                        clear hl8 hb8
                        obtain ⟨r0, r1, r2, rz⟩ := blk3 HC1.out.res
                        go_wp2_with fail
                        refine bodyPost_ret (v := .tuple #[.pointer none, .agg #[.int .i64 (u : Int), .int .i64 6, .int .i64 (k : Int)]]) (by simp [results, Try.results59, go_sem, r0, r1, r2]) rfl ?_
                        clear r0 r1 r2 rz
                        rw [HTW.out]
                        have hB := HC1.out.below
                        rw [HBR.out] at hB ⊢
                        refine ⟨rfl, ?_⟩
                        repeat (first | (with_reducible exact hB) | (with_reducible refine Below.setCell ?_ (by simp) _))
                      · have HL8 := Lib.hid hl8
                        have HB8 := Lib.hid hb8
                        have HRU : Hid (relK os u Lc (k + 1) = .ok (L2.set q (Cp.encN op da db dc (ad + ra)))) := Lib.hid (by
                          rw [relK, HRK.out]
                          exact HRW.out.2 rfl)
                        clear hl8 hb8
                        go_wp2_with fail
                        go_roundg (v.r - (k + 1))
                        case measure => have := HGK.out; omega
                        case rel => exact ⟨k + 1, _, hlt2, rfl, by go_num, HRU.out, by rw [List.length_set]; exact HLL2.out, HL8.out, HB8.out⟩
                  · obtain rfl : k = v.r := by omega
                    have HRU : Hid (relU os (baseC os os.length) (u + 1) = .ok L2) := Lib.hid (by
                      rw [relU, HRE.out]
                      simp only
                      rw [relsOf_at hlu, HOE.out, hobj.rl]
                      exact HRK.out)
                    clear hobj
                    go_wp2_with fail
                    go_roundg (n - (u + 1))
                    case measure => have := HG.out; omega
                    case rel => exact ⟨u + 1, _, hlt, rfl, by go_num, HRU.out, HLL2.out, HL2.out⟩
              · obtain rfl : n = u := by omega
                obtain ⟨mv, mk, ms, hm1, hm2, hm3, hm4⟩ := HOK.out.main_own
                have hml := HOK.out.main_le
                obtain ⟨am, ham⟩ : ∃ am, am = addrMain os := ⟨_, rfl⟩
                rw [← ham] at hm4 hml
                have hln : codeB os os.length ≤ 6000 := by have := HN.out; omega
                have hma : Cp.mayE 21 0 0 0 am = 0 := mayE_call am (by omega) (by omega)
                have hlk : (Instr.lookup 135 (.map (some bm)) (.string ⟨#[109, 97, 105, 110]⟩) false).run Try.prog wr = .ok (.agg #[.int .i64 mv, .string ms.name, .int .i64 ms.kind, .bool ms.static, .int .i64 ms.pos, .int .i64 ms.size, .string ms.sign, .int .i64 ms.frame]) wr := by
                  have := (homes_look HL.out.map HL.out.nd ⟨#[109, 97, 105, 110]⟩ (by decide)).2
                  rw [show (opens os n).lookup (⟨#[109, 97, 105, 110]⟩ : ByteArray).data.toList = some (homeV mv ms) from by
                    have hnd := HL.out.nd
                    rw [← HNL.out] at hnd ⊢
                    exact homes_some ⟨HOK.out.may⟩ hnd hm1 hm2] at this
                  exact this
                have HAD : Hid (∀ w', LkAt w5 w' bl bm c co n kap (.slice (some ⟨gK, 0, none⟩) n kK) vd (.slice (some ⟨gC, 0, none⟩) N kC) (.slice pD D kD) mem (opens os n) (ksAll os) (dsAll os) Lc xd →
                    Calls Try.prog 90 #[.pointer (some ⟨bl, 0, none⟩), .int .i64 mv, .agg #[.string ms.name, .int .i64 ms.kind, .bool ms.static, .int .i64 ms.pos, .int .i64 ms.size, .string ms.sign, .int .i64 ms.frame]] w' fun e w'' => e = .returned (.int .i64 am) ∧ Below w'.heap.size w' w'') := Lib.hid (fun w' h' => by
                  rw [← hm4]
                  exact address_any h' HOK.out HNL.out hn mv mk ms hm2)
                have hw0 : Lc.getD 0 0 = Cp.encN 21 0 0 0 0 := by
                  rw [(relU_keep HOK.out.may (by rw [HNL.out]; exact Nat.le_refl _) HRE.out).2]
                  rfl
                have HTU : Hid (∀ w', LkAt w5 w' bl bm c co n kap (.slice (some ⟨gK, 0, none⟩) n kK) vd (.slice (some ⟨gC, 0, none⟩) N kC) (.slice pD D kD) mem (opens os n) (ksAll os) (dsAll os) Lc xd →
                    Calls Try.prog 89 #[.pointer (some ⟨bl, 0, none⟩), .int .i64 0, .int .i64 am] w' fun e w'' => e = .returned (.bool true) ∧ LkAt w5 w'' bl bm c co n kap (.slice (some ⟨gK, 0, none⟩) n kK) vd (.slice (some ⟨gC, 0, none⟩) N kC) (.slice pD D kD) mem (opens os n) (ksAll os) (dsAll os) (Lc.set 0 (Cp.encN 21 0 0 0 am)) xd) := Lib.hid (fun w' h' => by
                  have := turn_any h' HLL.out 0 (by have := HN.out; omega) am 21 0 0 0 0 (by rw [hw0]; exact enc_call0.1) (by rw [hw0]; exact enc_call0.2) (by rw [hw0]; exact dec_call0) (by decide) (by decide) true (by rw [hma]; rfl)
                  exact this.mono fun e w'' ⟨a1, a2, _⟩ => ⟨a1, a2⟩)
                have HTW : Hid (JnTells w c co n kap mem os = fun e w' => ∃ bl bm vk vd vC vD, e = .returned (.tuple #[.pointer (some ⟨bl, 0, none⟩), trV noTrb]) ∧ LkAt w w' bl bm c co n kap vk vd vC vD mem (opens os n) (ksAll os) (dsAll os) (Lc.set 0 (Cp.encN 21 0 0 0 am)) xd) := Lib.hid (by
                  have hlr : linkR os mem = .ok (Lc.set 0 (Cp.encN 21 0 0 0 am), xd, rngTo os os.length) := by
                    have hre := HRE.out
                    rw [HLR.out, relU_code0, HXD.out]
                    rw [← HNL.out] at hre ⊢
                    rw [hre, ← ham, show am % 65536 = am by omega]
                    rfl
                  funext e w'
                  unfold JnTells
                  rw [hlr])
                obtain ⟨b0, b1, b2, b3, b4, b5, b6, bz⟩ := blk7l HL.out.box
                have hbl := HL.out.size
                clear hm1 hm2 hm3 hm4 hml ham hln hma hw0 HRE HLL
                go_upto_region 32 with fail
                obtain ⟨b16, hb16⟩ : ∃ b16, b16 = wr.heap.size := ⟨_, rfl⟩
                obtain ⟨w6, hw6⟩ : ∃ w6, w6 = wr.alloc (.cells #[.int .i64 mv, .string ms.name, .int .i64 ms.kind, .bool ms.static, .int .i64 ms.pos, .int .i64 ms.size, .string ms.sign, .int .i64 ms.frame] 172) := ⟨_, rfl⟩
                have HL6 : Hid (LkAt w5 w6 bl bm c co n kap (.slice (some ⟨gK, 0, none⟩) n kK) vd (.slice (some ⟨gC, 0, none⟩) N kC) (.slice pD D kD) mem (opens os n) (ksAll os) (dsAll os) Lc xd) := Lib.hid (by rw [hw6]; exact HL.out.go ((Below.refl _ _).alloc (Nat.le_refl _) _))
                have hx16 : w6.heap[b16]? = some (.cells #[.int .i64 mv, .string ms.name, .int .i64 ms.kind, .bool ms.static, .int .i64 ms.pos, .int .i64 ms.size, .string ms.sign, .int .i64 ms.frame] 172 (0, 0)) := by rw [hw6, hb16]; exact heap_alloc_new wr _
                rw [← hw6, ← hb16]
                clear hw6 hb16 b0 b1 b2 b3 b4 b5 b6 bz hlk hbl HL
                obtain ⟨q0, q1, q2, q3, q4, q5, q6, q7, qz⟩ := blk8 hx16
                clear hx16
                go_wp2_with fail
                refine (HAD.out _ HL6.out).mono ?_
                rintro e w7 ⟨rfl, hb7⟩
                have HL7 := Lib.hid (HL6.out.go hb7)
                clear hb7 q0 q1 q2 q3 q4 q5 q6 q7 qz HL6
                go_wp2_with fail
                refine (HTU.out _ HL7.out).mono ?_
                rintro e w8 ⟨rfl, hl8⟩
                have HC8 := Lib.hid (HC.out.go hl8.below)
                have HL8 := Lib.hid ((hl8.rebase HBW.out).trb (.int .i64 0) (.int .i64 0) (.int .i64 0) HC8.out.res (by rw [HBR.out]; exact Nat.le_refl _) (by
                  have h1 := lt_of_block HC.out.res
                  have h2 := hl8.base
                  omega))
                obtain ⟨r0, r1, r2, rz⟩ := blk3 HC8.out.res
                clear hl8 HL7
                go_wp2_with fail
                refine bodyPost_ret (v := .tuple #[.pointer (some ⟨bl, 0, none⟩), .agg #[.int .i64 0, .int .i64 0, .int .i64 0]]) (by simp [results, Try.results59, go_sem, r0, r1, r2]) rfl ?_
                clear r0 r1 r2 rz
                rw [HTW.out]
                exact ⟨_, _, _, _, _, _, rfl, HL8.out⟩
          · have HTW : Hid (JnTells w c co n kap mem os = fun e w' => e = .returned (.tuple #[.pointer none, trV (0, 1, 1)]) ∧ Below w.heap.size w w') := Lib.hid (by
              have hlr : linkR os mem = .error (0, 1, 1) := by
                unfold linkR
                rw [if_pos HOK.out.eq, if_neg]
                unfold mayImg
                rw [← HN.out, ← HD.out]
                intro h
                exact hmi (of_decide_eq_true h)
              funext e w'
              unfold JnTells
              rw [hlr])
            refine (mcheck_no _ _ _ _ _ _ _ _ hmi).mono ?_
            rintro e w2 ⟨rfl, rfl⟩
            have HC1 := Lib.hid (HC.out.go (HL1.out.below.alloc HL1.out.below.size (.cells #[.slice (some ⟨gC, 0, none⟩) N kC, .slice pD D kD, .int .i64 mem] 34)))
            obtain ⟨w3, hw3⟩ : ∃ w3, w3 = w1.alloc (.cells #[.slice (some ⟨gC, 0, none⟩) N kC, .slice pD D kD, .int .i64 mem] 34) := ⟨_, rfl⟩
            rw [← hw3] at HC1 ⊢
            clear hw3 hmi b0 b1 b2 b3 b4 b5 b6 bz HL1
            obtain ⟨r0, r1, r2, rz⟩ := blk3 HC1.out.res
            go_wp2_with fail
            refine bodyPost_ret (v := .tuple #[.pointer none, .agg #[.int .i64 0, .int .i64 1, .int .i64 1]]) (by simp [results, Try.results59, go_sem, r0, r1, r2]) rfl ?_
            clear r0 r1 r2 rz
            rw [HTW.out]
            have hB := HC1.out.below
            rw [HBR.out] at hB ⊢
            refine ⟨rfl, ?_⟩
            repeat (first | (with_reducible exact hB) | (with_reducible refine Below.setCell ?_ (by simp) _))

end Go.Proofs.Ythnehhidlaggeaa
