/- linker.address: the walk. -/
import Derived.Test.YthnehhidlaggeaaLinkImg
import Derived.Test.YthnehhidlaggeaaLinkMem
import Derived.RegionTactic
import Derived.ChangeAlike
import Derived.BigRegion
import Derived.Deep.RegionHeld3
namespace Go.Proofs.Ythnehhidlaggeaa
set_option linter.unusedVariables false
set_option linter.unusedSimpArgs false
open Go.RowKit Ob

section
variable {W0 w : World} {bl bm c co n kap : Nat} {vk vd vC vD : Value} {mem : Int} {L : List (List UInt8 × Value)} {ks ds xc xd : List Int}
set_option maxRecDepth 100000 in
set_option maxHeartbeats 1000000 in
/-- of a symbol that stands here -/
theorem address_own (h : LkAt W0 w bl bm c co n kap vk vd vC vD mem L ks ds xc xd) (hks : ks.length = n) (hds : ds.length = n) (u : Nat) (hu : u < n) (s : Ob.Sym) (ho : outK s = false)
    (k0 : 0 ≤ ks.getD u 0) (k1 : ks.getD u 0 ≤ 10000000) (d0 : 0 ≤ ds.getD u 0) (d1 : ds.getD u 0 ≤ 10000000) (p0 : 0 ≤ s.pos) (p1 : s.pos ≤ 10000000) :
    Calls Try.prog 90 #[.pointer (some ⟨bl, 0, none⟩), .int .i64 u, symV s] w fun e w' => e = .returned (.int .i64 (if s.kind = 1 then ks.getD u 0 + s.pos else ds.getD u 0 + s.pos)) ∧ Below w.heap.size w w' := by
  have hout := fun w' => outside_any s w'
  rw [ho] at hout
  unfold symV at hout ⊢
  obtain ⟨gk, kk, hvk⟩ := own_slice h.rk (by omega)
  obtain ⟨gd, kd, hvd⟩ := own_slice h.rd (by omega)
  rw [hks] at hvk
  rw [hds] at hvd
  subst hvk hvd
  obtain ⟨x, hx⟩ : ∃ x, x = ks.getD u 0 := ⟨_, rfl⟩
  obtain ⟨y, hy⟩ : ∃ y, y = ds.getD u 0 := ⟨_, rfl⟩
  rw [← hx] at k0 k1 ⊢
  rw [← hy] at d0 d1 ⊢
  have rk := h.rk
  have rd := h.rd
  rw [hks] at rk
  rw [hds] at rd
  have ck := i64_at rk hks u hu
  have cd := i64_at rd hds u hu
  rw [← hx] at ck
  rw [← hy] at cd
  obtain ⟨b0, b1, b2, b3, b4, b5, b6, bz⟩ := blk7l h.box
  have gkl := (h.rk.lt gk rfl).2
  have gdl := (h.rd.lt gd rfl).2
  have bll := h.size
  have HC := Lib.hid (And.intro ck (And.intro cd (And.intro b2 b3)))
  have HOUT := Lib.hid hout
  clear hout hx hy rk rd ck cd b0 b1 b2 b3 b4 b5 b6 bz h ho
  cases hk : s.kind == 1
  · rw [if_neg (beq_eq_false_iff_ne.1 hk)]
    go_enter Try.func90, Try.ntmps90
    go_wp2_with fail
    refine (HOUT.out _).mono ?_
    rintro e w1 ⟨rfl, hb⟩
    have hB : Below w.heap.size w w1 := ((Below.refl _ _).alloc (Nat.le_refl _) _).trans (hb.mono (by simp))
    have hbx := (hb.block w.heap.size (by simp)).trans (heap_alloc_new w (.cells #[.string s.name, .int .i64 s.kind, .bool s.static, .int .i64 s.pos, .int .i64 s.size, .string s.sign, .int .i64 s.frame] 106))
    obtain ⟨z0, z1, z2, z3, z4, z5, z6, zz⟩ := blk7 hbx
    have c1 := (hB.cell (p := ⟨gd, u, none⟩) gdl).trans HC.out.2.1
    have c3 := (hB.cell (p := ⟨bl, 3, none⟩) bll).trans HC.out.2.2.2
    have HB := Lib.hid hB
    clear hb hB hbx HC HOUT
    go_wp2_with fail
    go_quiet (fail)
    go_wp2_with fail
    go_ret
    exact ⟨rfl, HB.out.trans (below_drewN (Below.refl _ _) _)⟩
  · rw [if_pos (beq_iff_eq.1 hk)]
    go_enter Try.func90, Try.ntmps90
    go_wp2_with fail
    refine (HOUT.out _).mono ?_
    rintro e w1 ⟨rfl, hb⟩
    have hB : Below w.heap.size w w1 := ((Below.refl _ _).alloc (Nat.le_refl _) _).trans (hb.mono (by simp))
    have hbx := (hb.block w.heap.size (by simp)).trans (heap_alloc_new w (.cells #[.string s.name, .int .i64 s.kind, .bool s.static, .int .i64 s.pos, .int .i64 s.size, .string s.sign, .int .i64 s.frame] 106))
    obtain ⟨z0, z1, z2, z3, z4, z5, z6, zz⟩ := blk7 hbx
    have c1 := (hB.cell (p := ⟨gk, u, none⟩) gkl).trans HC.out.1
    have c3 := (hB.cell (p := ⟨bl, 2, none⟩) bll).trans HC.out.2.2.1
    have HB := Lib.hid hB
    clear hb hB hbx HC HOUT
    go_wp2_with fail
    go_quiet (fail)
    go_wp2_with fail
    go_ret
    exact ⟨rfl, HB.out.trans (below_drewN (Below.refl _ _) _)⟩
set_option maxRecDepth 100000 in
set_option maxHeartbeats 1000000 in
/-- of a symbol that stands elsewhere -/
theorem address_out (h : LkAt W0 w bl bm c co n kap vk vd vC vD mem L ks ds xc xd) (hks : ks.length = n) (hds : ds.length = n) (u v : Nat) (hv : v < n) (s t : Ob.Sym) (hs : s.name.size ≤ 9223372036854775807) (ho : outK s = true) (hl : L.lookup (nameOf s) = some (homeV v t))
    (k0 : 0 ≤ ks.getD v 0) (k1 : ks.getD v 0 ≤ 10000000) (d0 : 0 ≤ ds.getD v 0) (d1 : ds.getD v 0 ≤ 10000000) (p0 : 0 ≤ t.pos) (p1 : t.pos ≤ 10000000) :
    Calls Try.prog 90 #[.pointer (some ⟨bl, 0, none⟩), .int .i64 u, symV s] w fun e w' => e = .returned (.int .i64 (if t.kind = 1 then ks.getD v 0 + t.pos else ds.getD v 0 + t.pos)) ∧ Below w.heap.size w w' := by
  have hout := fun w' => outside_any s w'
  rw [ho] at hout
  unfold symV at hout ⊢
  obtain ⟨gk, kk, hvk⟩ := own_slice h.rk (by omega)
  obtain ⟨gd, kd, hvd⟩ := own_slice h.rd (by omega)
  rw [hks] at hvk
  rw [hds] at hvd
  subst hvk hvd
  obtain ⟨x, hx⟩ : ∃ x, x = ks.getD v 0 := ⟨_, rfl⟩
  obtain ⟨y, hy⟩ : ∃ y, y = ds.getD v 0 := ⟨_, rfl⟩
  rw [← hx] at k0 k1 ⊢
  rw [← hy] at d0 d1 ⊢
  obtain ⟨r, hr⟩ : ∃ r, r = if t.kind = 1 then x + t.pos else y + t.pos := ⟨_, rfl⟩
  rw [← hr]
  have HR := Lib.hid hr
  clear hr
  have hck : ∀ w2, LkAt W0 w2 bl bm c co n kap (.slice (some ⟨gk, 0, none⟩) n kk) (.slice (some ⟨gd, 0, none⟩) n kd) vC vD mem L ks ds xc xd → w2.cell? ⟨gk, v, none⟩ = some (.int .i64 x) ∧ w2.cell? ⟨gd, v, none⟩ = some (.int .i64 y) ∧ gk < w2.heap.size ∧ gd < w2.heap.size := fun w2 h2 => by
    have rk := h2.rk
    have rd := h2.rd
    rw [hks] at rk
    rw [hds] at rd
    exact ⟨by rw [hx]; exact i64_at rk hks v hv, by rw [hy]; exact i64_at rd hds v hv, (rk.lt gk rfl).2, (rd.lt gd rfl).2⟩
  have hlk : ∀ w2, LkAt W0 w2 bl bm c co n kap (.slice (some ⟨gk, 0, none⟩) n kk) (.slice (some ⟨gd, 0, none⟩) n kd) vC vD mem L ks ds xc xd → (Instr.lookup 135 (.map (some bm)) (.string s.name) false).run Try.prog w2 = .ok (.agg #[.int .i64 v, .string t.name, .int .i64 t.kind, .bool t.static, .int .i64 t.pos, .int .i64 t.size, .string t.sign, .int .i64 t.frame]) w2 := fun w2 h2 => by
    have := (homes_look h2.map h2.nd s.name hs).2
    rw [show L.lookup s.name.data.toList = some (homeV v t) from hl] at this
    exact this
  have HLK := Lib.hid hlk
  have HCK := Lib.hid hck
  have HOUT := Lib.hid hout
  have HL := Lib.hid h
  clear hout hx hy hck hlk h ho hl hks hds
  go_enter Try.func90, Try.ntmps90
  go_wp2_with fail
  refine (HOUT.out _).mono ?_
  rintro e w1 ⟨rfl, hb⟩
  have hB : Below w.heap.size w w1 := ((Below.refl _ _).alloc (Nat.le_refl _) _).trans (hb.mono (by simp))
  have hbx := (hb.block w.heap.size (by simp)).trans (heap_alloc_new w (.cells #[.string s.name, .int .i64 s.kind, .bool s.static, .int .i64 s.pos, .int .i64 s.size, .string s.sign, .int .i64 s.frame] 106))
  have h1 := HL.out.go hB
  obtain ⟨z0, z1, z2, z3, z4, z5, z6, zz⟩ := blk7 hbx
  obtain ⟨b0, b1, b2, b3, b4, b5, b6, bz⟩ := blk7l h1.box
  have hzl := lt_of_block hbx
  have hbl := h1.size
  have hlk1 := fun o => HLK.out (w1.alloc o) (h1.go ((Below.refl _ _).alloc (Nat.le_refl _) _))
  have hlk2 := HLK.out w1.drew (h1.go (Below.refl _ _).drew)
  have hlk3 := fun o => HLK.out (w1.alloc o).drew (h1.go ((Below.refl _ _).alloc (Nat.le_refl _) _).drew)
  have hn1 : w1.heap.size ≠ w.heap.size := by omega
  have hn2 : w1.heap.size ≠ bl := by omega
  have HB := Lib.hid hB
  have H1 := Lib.hid h1
  have HBX := Lib.hid hbx
  have HL2 := HL
  clear hb hB hbx h1 HL HOUT HLK
  go_wp2_with fail
  go_cut [7] from 10 to 16 (fun v7 wx => ∃ b7 : Nat, v7 = .pointer (some ⟨b7, 0, none⟩) ∧ w1.heap.size ≤ b7 ∧ Below w1.heap.size w1 wx ∧ wx.heap[b7]? = some (.cells #[.int .i64 v, .string t.name, .int .i64 t.kind, .bool t.static, .int .i64 t.pos, .int .i64 t.size, .string t.sign, .int .i64 t.frame] 172 (0, 0)))
  case first =>
    go_region
    all_goals go_wp2_with fail
    all_goals go_meet
    all_goals exact ⟨_, rfl, Nat.le_refl _, ((Below.refl _ _).alloc (Nat.le_refl _) _).drew, heap_alloc_new _ _⟩
  case rest =>
    obtain ⟨b7, rfl, hb0, hbe, hblk⟩ := hcut
    have hsb := (hbe.block _ hzl).trans HBX.out
    clear z0 z1 z2 z3 z4 z5 z6 zz b0 b1 b2 b3 b4 b5 b6 bz hlk1 hlk2 hlk3 hn1 hn2
    obtain ⟨z0, z1, z2, z3, z4, z5, z6, zz⟩ := blk7 hsb
    obtain ⟨q0, q1, q2, q3, q4, q5, q6, q7, qz⟩ := blk8 hblk
    have hn1 : w.heap.size ≠ b7 := by omega
    have HBC := Lib.hid (HB.out.trans (hbe.mono HB.out.size))
    have HSB := Lib.hid hsb
    clear hbe hblk hsb
    go_wp2_with fail
    go_cut [1] from 17 to 20 (fun v1 wx => v1 = .int .i64 v ∧ Below w.heap.size w wx ∧ wx.heap[w.heap.size]? = some (.cells #[.string t.name, .int .i64 t.kind, .bool t.static, .int .i64 t.pos, .int .i64 t.size, .string t.sign, .int .i64 t.frame] 106 (0, 0)))
    case first =>
      go_region
      all_goals go_wp2_with fail
      all_goals go_meet
      all_goals
        refine ⟨rfl, ?_, by rw [drew_heap]; exact set7 _ _ _ _ _ _ _ HSB.out⟩
        exact ((((((((HBC.out.setCell (Nat.le_refl _) _).setCell (Nat.le_refl _) _).setCell (Nat.le_refl _) _).setCell (Nat.le_refl _) _).setCell (Nat.le_refl _) _).setCell (Nat.le_refl _) _).setCell (Nat.le_refl _) _).drew)
    case rest =>
      obtain ⟨rfl, hbe, hblk⟩ := hcut
      have h2 := HL2.out.go hbe
      obtain ⟨c1, c2, _, _⟩ := HCK.out _ h2
      obtain ⟨b0, b1, b2, b3, b4, b5, b6, bz⟩ := blk7l h2.box
      clear z0 z1 z2 z3 z4 z5 z6 zz q0 q1 q2 q3 q4 q5 q6 q7 qz hn1 hb0 HBC HSB HB H1 HBX h2 HL2 HCK
      obtain ⟨z0, z1, z2, z3, z4, z5, z6, zz⟩ := blk7 hblk
      have HBE := Lib.hid hbe
      clear hbe hblk
      cases hk : t.kind == 1
      · have HE : Hid (r = y + t.pos) := Lib.hid (by rw [HR.out, if_neg (beq_eq_false_iff_ne.1 hk)])
        go_wp2_with fail
        go_quiet (fail)
        go_wp2_with fail
        go_ret
        exact ⟨by rw [HE.out]; rfl, HBE.out.trans (below_drewN (Below.refl _ _) _)⟩
      · have HE : Hid (r = x + t.pos) := Lib.hid (by rw [HR.out, if_pos (beq_iff_eq.1 hk)])
        go_wp2_with fail
        go_quiet (fail)
        go_wp2_with fail
        go_ret
        exact ⟨by rw [HE.out]; rfl, HBE.out.trans (below_drewN (Below.refl _ _) _)⟩
end

end Go.Proofs.Ythnehhidlaggeaa
