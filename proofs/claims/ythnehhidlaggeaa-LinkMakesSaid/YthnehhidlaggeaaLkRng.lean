/- linker.ranges: the walk. -/
import Derived.Test.YthnehhidlaggeaaLinkImg
import Derived.Test.YthnehhidlaggeaaEnc
import Derived.RegionTactic
import Derived.ChangeAlike
import Derived.BigRegion
import Derived.Deep.RegionLaw
import Derived.Deep.CutBlock
import Derived.IntWalk
namespace Go.Proofs.Ythnehhidlaggeaa
set_option linter.unusedVariables false
set_option linter.unusedSimpArgs false
open Go.RowKit Ob

/-- the first addresses of all objects' functions -/
def ksAll (os : List Ob.Obj) : List Int := (List.range os.length).map fun u => ((2 + codeB os u : Nat) : Int)
def dsAll (os : List Ob.Obj) : List Int := (List.range os.length).map fun u => ((2 + codeB os os.length + dataB os u : Nat) : Int)
theorem ksAll_len (os : List Ob.Obj) : (ksAll os).length = os.length := by simp [ksAll]
theorem dsAll_len (os : List Ob.Obj) : (dsAll os).length = os.length := by simp [dsAll]
theorem ksAll_at (os : List Ob.Obj) (u : Nat) (h : u < os.length) : (ksAll os).getD u 0 = 2 + codeB os u := by
  unfold ksAll
  rw [List.getD_eq_getElem?_getD, List.getElem?_map, List.getElem?_range h]
  simp
theorem dsAll_at (os : List Ob.Obj) (u : Nat) (h : u < os.length) : (dsAll os).getD u 0 = 2 + codeB os os.length + dataB os u := by
  unfold dsAll
  rw [List.getD_eq_getElem?_getD, List.getElem?_map, List.getElem?_range h]
  simp

section
variable {W0 w : World} {bl bm c co n kap : Nat} {vk vd vC vD : Value} {mem : Int} {L : List (List UInt8 × Value)} {xc xd : List Int} {vs : List OV} {os : List Ob.Obj}
set_option maxRecDepth 100000 in
set_option maxHeartbeats 2000000 in
theorem ranges_any (h : LkAt W0 w bl bm c co n kap vk vd vC vD mem L (ksAll os) (dsAll os) xc xd) (ho : ObjsAt W0 c co n vs os) (hok : LinkOk os) (hn1 : 1 ≤ n) (hn : n ≤ 4) :
    Calls Try.prog 60 #[.pointer (some ⟨bl, 0, none⟩)] w fun e w' => ∃ vr, e = .returned vr ∧ Below w.heap.size w w' ∧ w'.ownsRow w.heap.size 77 5 vr (rngTo os n).length (rngs (rngTo os n)) := by
  have hnl := ho.nl
  obtain ⟨gc, kk, hvk⟩ := own_slice h.rk (by rw [ksAll_len]; omega)
  rw [ksAll_len, hnl] at hvk
  subst hvk
  have HL := Lib.hid h
  have HO := Lib.hid ho
  have HOK := Lib.hid hok
  have HNL := Lib.hid hnl
  have HF := Lib.hid hok.few
  obtain ⟨b0, b1, b2, b3, b4, b5, b6, bz⟩ := blk7l h.box
  clear h ho hok hnl
  obtain ⟨iR, hiR, iRz, iRs, iRb⟩ := info_parts lk_rng
  go_enter Try.func60, Try.ntmps60
  go_wp2_with fail
  clear b0 b1 b2 b3 b4 b5 b6 bz
  go_loopg [2, 13] n (fun gk v2 v13 wr => ∃ u : Nat, u ≤ n ∧ gk = n - u ∧ v13 = .int .i64 u ∧ Below w.heap.size w wr ∧ wr.ownsRow w.heap.size 77 5 v2 (rngTo os u).length (rngs (rngTo os u)))
  case atStart => exact ⟨0, Nat.zero_le _, rfl, rfl, Below.refl _ _, World.ownsRow_nil _ _ _ _⟩
  case round =>
    obtain ⟨u, hu, hg, rfl, hb, hr⟩ := hrel
    have HG := Lib.hid hg
    have HB := Lib.hid hb
    have HR := Lib.hid hr
    clear hg hb hr
    by_cases hlt : u < n
    · have hl := HL.out.go HB.out
      obtain ⟨v, o, hv, hou⟩ := (HO.out.below hl.below).some hlt
      obtain ⟨x0, x1, x2, x3, hobj⟩ := (HO.out.below hl.below).get hlt hv hou
      have hlu : u < os.length := by rw [HNL.out]; exact hlt
      have hoe : os[u] = o := (List.getElem?_eq_some_iff.1 hou).2
      have hfew := HF.out o (hoe ▸ List.getElem_mem hlu)
      have hvm : v.m ≤ 400 := by rw [← hobj.ml]; exact hfew.2.2.1
      have HV := Lib.hid hv
      have HOU := Lib.hid hou
      have HOE := Lib.hid hoe
      clear hv hou hoe hobj hfew hl
      go_wp2_with fail
      have hbw : Below w.heap.size w (wr.alloc (.cells #[.slice v.pc v.n v.kn, .slice v.pd v.d v.kd, .slice v.ps v.m v.km, .slice v.pr v.r v.kr] 60)) := HB.out.alloc HB.out.size _
      have HBW := Lib.hid hbw
      obtain ⟨ps, hpse⟩ : ∃ ps, ps = v.ps := ⟨_, rfl⟩
      rw [← hpse]
      have HPE := Lib.hid hpse
      clear hpse
      clear hbw x0 x1 x2 x3
      have HRW := Lib.hid (HR.out.alloc (.cells #[.slice v.pc v.n v.kn, .slice v.pd v.d v.kd, .slice v.ps v.m v.km, .slice v.pr v.r v.kr] 60))
      go_loopg [2, 21] v.m (fun gk v2 v21 wi => ∃ i : Nat, i ≤ v.m ∧ gk = v.m - i ∧ v21 = .int .i64 i ∧ Below w.heap.size w wi ∧ wi.ownsRow w.heap.size 77 5 v2 (rngTo os u ++ rngIn os u (o.syms.take i)).length (rngs (rngTo os u ++ rngIn os u (o.syms.take i))))
      case atStart => exact ⟨0, Nat.zero_le _, rfl, rfl, by rw [HPE.out]; exact HBW.out, by rw [HPE.out]; simpa [rngIn] using HRW.out⟩
      case round =>
        obtain ⟨i, hi, hgi, rfl, hbi, hri⟩ := hrel
        have HGI := Lib.hid hgi
        have HBI := Lib.hid hbi
        have HRI := Lib.hid hri
        clear hgi hbi hri
        have hl := HL.out.go HBI.out
        obtain ⟨_, _, _, _, hobj⟩ := (HO.out.below hl.below).get hlt HV.out HOU.out
        have rk := hl.rk
        rw [ksAll_len, HNL.out] at rk
        have ck := i64_at rk (by rw [ksAll_len, HNL.out]) u hlt
        rw [ksAll_at os u hlu] at ck
        have gcl := (rk.lt gc rfl).2
        have bll := hl.size
        have hb2 := (blk7l hl.box).2.2.1
        have hcb := codeB_le os HF.out u (by omega)
        have hnl := HNL.out
        obtain ⟨cb, hcbe⟩ : ∃ cb : Int, cb = 2 + (codeB os u : Int) := ⟨_, rfl⟩
        rw [← hcbe] at ck
        have hc0 : 0 ≤ cb := by omega
        have hc1 : cb ≤ 30000 := by omega
        have HCB := Lib.hid hcbe
        have HOBJ := Lib.hid hobj
        clear hl rk hobj hcbe hcb hnl
        by_cases hlt2 : i < v.m
        · obtain ⟨c0, c1, hps, hc0', hi', hrange⟩ := HOBJ.out.sym hlt2
          obtain ⟨s, hs⟩ : ∃ s, o.syms[i] = s := ⟨_, rfl⟩
          rw [hs] at hrange
          have HS : Hid (symAt os u i = some s) := Lib.hid (by
            have := HOE.out
            subst this
            rw [← hs]
            exact sym_of hlu hi')
          have HTK := Lib.hid (rngIn_succ os u o.syms i hi')
          rw [hs] at HTK
          have hbd := HOK.out.own_bd (by rw [HNL.out]; exact hn) HS.out
          have hfs := (mayB_fine (HOK.out.may _ (List.getElem_mem hlu))).syms
          have hpos : 0 ≤ s.pos ∧ s.pos ≤ 6400000 := by
            have := HOE.out
            rw [this] at hfs
            exact (hfs s (hs ▸ List.getElem_mem hi')).pos
          obtain ⟨p0, p1⟩ := hpos
          obtain ⟨_, _, s0, s1, f0, f1⟩ := hbd
          have HRG := Lib.hid hrange
          obtain rfl : ps = some ⟨c0, c1, none⟩ := HPE.out.trans hps
          clear hs hrange hps hfs
          have hst := sym_store s
          have hck := fun o => (Below.heap_alloc wr o gc gcl)
          cases hk : s.kind == 1
          · have HR0 : Hid (symRng os u s = []) := Lib.hid (by unfold symRng; rw [if_neg (beq_eq_false_iff_ne.1 hk)])
            go_wp2_with (refine wpList_load_mid (by rfl) 106 (.tmp 23) (by rfl) c0 (c1 + i * 7) (by rfl) [.string s.name, .int .i64 s.kind, .bool s.static, .int .i64 s.pos, .int .i64 s.size, .string s.sign, .int .i64 s.frame] _ HRG.out Try.underlying106 (by rfl) (by kernel_rfl) ?_)
            go_roundg (v.m - (i + 1))
            case measure => have := HGI.out; omega
            case rel => exact ⟨i + 1, hlt2, rfl, by go_num, HBI.out.alloc HBI.out.size _, by
              rw [HTK.out, HR0.out, List.append_nil]
              exact HRI.out.alloc _⟩
          · have hrl : (rngTo os u ++ rngIn os u (o.syms.take i)).length ≤ 2000 := by
              have h1 := rngTo_len os HF.out u (by omega)
              have h2 := rngIn_len os u (o.syms.take i)
              have h3 : (o.syms.take i).length ≤ i := List.length_take_le _ _
              rw [List.length_append]
              omega
            obtain ⟨xr, hxr⟩ : ∃ xr, xr = rngTo os u ++ rngIn os u (o.syms.take i) := ⟨_, rfl⟩
            rw [← hxr] at hrl
            have HR1 : Hid (xr ++ [⟨s.name, u, cb + s.pos, cb + s.pos + s.size, s.frame⟩] = rngTo os u ++ rngIn os u (o.syms.take (i + 1))) := Lib.hid (by
              have hk1 : s.kind = 1 := beq_iff_eq.1 hk
              rw [HTK.out, hxr, ← List.append_assoc]
              unfold symRng addrOwn
              rw [if_pos hk1, if_pos hk1, ← HCB.out])
            have HRX : Hid (wr.ownsRow w.heap.size 77 5 u2 xr.length (rngs xr)) := Lib.hid (by rw [hxr]; exact HRI.out)
            clear hxr
            go_wp2_with (refine wpList_load_mid (by rfl) 106 (.tmp 23) (by rfl) c0 (c1 + i * 7) (by rfl) [.string s.name, .int .i64 s.kind, .bool s.static, .int .i64 s.pos, .int .i64 s.size, .string s.sign, .int .i64 s.frame] _ HRG.out Try.underlying106 (by rfl) (by kernel_rfl) ?_)
            go_quiet (fail)
            obtain ⟨w5, hw5⟩ : ∃ w5, w5 = (wr.alloc (.cells #[.string s.name, .int .i64 s.kind, .bool s.static, .int .i64 s.pos, .int .i64 s.size, .string s.sign, .int .i64 s.frame] 106)).drewN nq := ⟨_, rfl⟩
            have hb5 : Below wr.heap.size wr w5 := by rw [hw5]; exact below_drewN ((Below.refl _ _).alloc (Nat.le_refl _) _) _
            have hx5 : w5.heap[wr.heap.size]? = some (.cells #[.string s.name, .int .i64 s.kind, .bool s.static, .int .i64 s.pos, .int .i64 s.size, .string s.sign, .int .i64 s.frame] 106 (0, 0)) := by rw [hw5]; exact heap_alloc_new wr _
            rw [← hw5]
            clear hw5
            obtain ⟨z0, z1, z2, z3, z4, z5, z6, zz⟩ := blk7 hx5
            have hz5 := lt_of_block hx5
            have HR5 := Lib.hid (own_belowG HRX.out hb5)
            have HB5 := Lib.hid (HBI.out.trans (hb5.mono HBI.out.size))
            have hw5z := HB5.out.size
            clear hb5 hx5
            go_wp2_with (at_builtin; go_loud (refine wpList_append_own_src rfl (.tmp 38) (.tmp 50) 71 71 rfl w.heap.size 77 iR _ 5 48 Try.underlying71 hiR iRz iRs iRb rfl (by decide) u2 _ _ rfl (HR5.out.alloc _) _ 1 (rngCells ⟨s.name, u, cb + s.pos, cb + s.pos + s.size, s.frame⟩) rfl (Src.ofSlice _ Try.underlying71 _ 1 1 _ rfl (cells_list (heap_alloc_new w5 _) rfl) ?h1) ?h63 ?hby ?hba ?hh))
            case h1 => intro u hu; simp only [rngCells, List.mem_cons, List.not_mem_nil, or_false] at hu; rcases hu with rfl | rfl | rfl | rfl | rfl <;> rfl
            case h63 => unfold maxLen; omega
            case hby => omega
            case hba => simp; omega
            case hh =>
              intro v' w9 hown hgr hor
              have hb9 := (HB5.out.alloc HB5.out.size _).grown hgr (by simp; omega) (fun g e => (HR5.out.lt g e).1)
              have HB9 := Lib.hid hb9
              have HOWN := Lib.hid hown
              clear hown hgr hor hb9
              go_wp2_with fail
              go_roundg (v.m - (i + 1))
              case measure => have := HGI.out; omega
              case rel => exact ⟨i + 1, hlt2, rfl, by go_num, HB9.out, by
                rw [← HR1.out, List.length_append]
                have h9 := HOWN.out
                unfold rngs at h9 ⊢
                rw [List.flatMap_append]
                simpa using h9⟩
        · obtain rfl : i = v.m := by omega
          have HRR : Hid (rngTo os u ++ rngIn os u (o.syms.take v.m) = rngTo os (u + 1)) := Lib.hid (by
            rw [rngTo, List.getElem?_eq_getElem hlu, HOE.out, List.take_of_length_le (by rw [HOBJ.out.ml]; exact Nat.le_refl _)]
            rfl)
          go_wp2_with fail
          go_roundg (n - (u + 1))
          case measure => have := HG.out; omega
          case rel => exact ⟨u + 1, hlt, rfl, by go_num, HBI.out, by rw [← HRR.out]; exact HRI.out⟩
    · obtain rfl : n = u := by omega
      go_wp2_with fail
      go_ret
      exact ⟨_, rfl, HB.out, HR.out⟩
end

end Go.Proofs.Ythnehhidlaggeaa

/-! linker.lay: the walk. -/
namespace Go.Proofs.Ythnehhidlaggeaa
set_option linter.unusedVariables false
set_option linter.unusedSimpArgs false
open Go.RowKit Ob

theorem lay1_any (op x : Int) (w : World) (o0 : -9223372036854775808 ≤ op) (o1 : op ≤ 9223372036854775807) (hm : Cp.mayE op 0 0 0 0 = 0) (hx : x = Cp.encN op 0 0 0 0) :
    Calls Try.prog 107 #[.int .i64 op, .int .i64 0] w fun e w' => e = .returned (.int .u32 x) ∧ Below w.heap.size w w' := by
  have henc := fun w' => encode_any op 0 0 0 0 w' o0 o1
  rw [hm, if_pos rfl, ← hx] at henc
  have HE := Lib.hid henc
  clear henc hm hx
  go_enter Try.func107, Try.ntmps107
  go_wp2_with fail
  refine (HE.out _).mono ?_
  rintro e w1 ⟨rfl, hb⟩
  have HB := Lib.hid hb
  clear hb HE
  go_wp2_with fail
  go_ret
  exact ⟨rfl, HB.out⟩
theorem take_snoc_i {l : List Int} {u : Nat} {x : Int} (hu : u < l.length) (hx : l.getD u 0 = x) : l.take u ++ [x] = l.take (u + 1) := by
  rw [List.take_succ_eq_append_getElem hu, ← hx, List.getD_eq_getElem?_getD, List.getElem?_eq_getElem hu]
  rfl
theorem u32s_len (l : List Int) : (u32s l).length = l.length := by simp [u32s]

section
variable {W0 w : World} {bl bm c co n kap : Nat} {mem : Int} {L : List (List UInt8 × Value)} {vs : List OV} {os : List Ob.Obj}
set_option maxRecDepth 100000 in
set_option maxHeartbeats 4000000 in
theorem lay_any (h : LkAt W0 w bl bm c co n kap (.slice none 0 0) (.slice none 0 0) (.slice none 0 0) (.slice none 0 0) mem L [] [] [] []) (ho : ObjsAt W0 c co n vs os) (hf : ∀ o ∈ os, few o) (hn1 : 1 ≤ n) (hn : n ≤ 4) (e0 e1 : Int) (h0 : e0 = Cp.encN 21 0 0 0 0) (h1 : e1 = Cp.encN 25 0 0 0 0) :
    Calls Try.prog 88 #[.pointer (some ⟨bl, 0, none⟩)] w fun e w' => e = .returned (.tuple #[]) ∧ ∃ vk vd vC vD, LkAt W0 w' bl bm c co n kap vk vd vC vD mem L (ksAll os) (dsAll os) ([e0, e1] ++ codeTo os n) (dataTo os n) := by
  have l0 := fun w' => lay1_any 21 e0 w' (by decide) (by decide) (mayE_call 0 (by decide) (by decide)) h0
  have l1 := fun w' => lay1_any 25 e1 w' (by decide) (by decide) mayE_exit h1
  have HL := Lib.hid h
  have HO := Lib.hid ho
  have HF := Lib.hid hf
  have HNL := Lib.hid ho.nl
  have HL0 := Lib.hid l0
  have HL1 := Lib.hid l1
  clear h ho hf l0 l1 h0 h1
  obtain ⟨iC, hiC, iCz, iCs, iCb⟩ := info_parts lk_u32
  obtain ⟨iD, hiD, iDz, iDs, iDb⟩ := info_parts lk_i32
  obtain ⟨iK, hiK, iKz, iKs, iKb⟩ := info_parts lk_i64
  go_enter Try.func88, Try.ntmps88
  go_wp2_with fail
  refine (HL0.out _).mono ?_
  rintro e w1 ⟨rfl, hb1⟩
  have HA := Lib.hid (HL.out.go hb1)
  clear hb1 HL
  go_wp2_with fail
  refine (HL1.out _).mono ?_
  rintro e w2 ⟨rfl, hb2⟩
  have HB := Lib.hid (HA.out.go hb2)
  obtain ⟨b0, b1, b2, b3, b4, b5, b6, bz⟩ := blk7l HB.out.box
  have hbl := HB.out.size
  clear hb2 HA
  go_wp2_with fail
  obtain ⟨w3, hw3⟩ : ∃ w3, w3 = (w2.setCell ⟨bl, 4, none⟩ (.slice (some ⟨w2.heap.size, 0, none⟩) 2 2)).alloc (.cells #[.int .u32 e0, .int .u32 e1] 22) := ⟨_, rfl⟩
  have hm3 : LkAt W0 w3 bl bm c co n kap (.slice none 0 0) (.slice none 0 0) (.slice (some ⟨w2.heap.size, 0, none⟩) 2 2) (.slice none 0 0) mem L [] [] [e0, e1] [] := by
    rw [hw3, ← World.setCell_alloc_past _ _ _ _ hbl]
    exact HB.out.setC (ys := [e0, e1]) (World.ownsRow_lit w2 #[.int .u32 e0, .int .u32 e1] 2 HB.out.below.size (by decide) rfl) (World.grownBy_alloc w2 _ none) (.inr rfl)
  rw [← hw3]
  have HM3 := Lib.hid hm3
  obtain ⟨g3, hg3⟩ : ∃ g3, g3 = w2.heap.size := ⟨_, rfl⟩
  rw [← hg3] at HM3 ⊢
  clear hw3 hm3 HB b0 b1 b2 b3 b4 b5 b6 bz hbl hg3 HL0 HL1
  go_loopg [21] n (fun gk v21 wr => ∃ u : Nat, ∃ vk vC : Value, u ≤ n ∧ gk = n - u ∧ v21 = .int .i64 u ∧ LkAt W0 wr bl bm c co n kap vk (.slice none 0 0) vC (.slice none 0 0) mem L ((ksAll os).take u) [] ([e0, e1] ++ codeTo os u) [])
  case atStart => exact ⟨0, _, _, Nat.zero_le _, rfl, rfl, by simpa [codeTo] using HM3.out⟩
  case round =>
    obtain ⟨u, vk, vC, hu, hg, rfl, hm⟩ := hrel
    have HG := Lib.hid hg
    have HM := Lib.hid hm
    clear hg hm HM3
    by_cases hlt : u < n
    · obtain ⟨v, o, hv, hou⟩ := (HO.out.below HM.out.below).some hlt
      obtain ⟨x0, x1, x2, x3, hobj⟩ := (HO.out.below HM.out.below).get hlt hv hou
      have hlu : u < os.length := by rw [HNL.out]; exact hlt
      have hoe : os[u] = o := (List.getElem?_eq_some_iff.1 hou).2
      have hfew := HF.out o (hoe ▸ List.getElem_mem hlu)
      have hvn : v.n ≤ 6000 := by rw [← hobj.nl]; exact hfew.1
      have hcb := codeB_le os HF.out u (by omega)
      have hcl := codeTo_len os u (by omega)
      have hcs := codeTo_succ os u hlu
      rw [hoe] at hcs
      obtain ⟨xc, hxc⟩ : ∃ xc, xc = [e0, e1] ++ codeTo os u := ⟨_, rfl⟩
      have hxl : (xc.length : Int) = 2 + codeB os u := by rw [hxc, List.length_append, hcl]; simp; try omega
      have hxl2 : xc.length ≤ 30000 := by omega
      have hxp : 0 < xc.length := by omega
      have HXC : Hid (xc ++ o.code = [e0, e1] ++ codeTo os (u + 1)) := Lib.hid (by rw [hcs, hxc, List.append_assoc])
      have hkl : ((ksAll os).take u).length = u := by rw [List.length_take, ksAll_len]; omega
      obtain ⟨ks, hks⟩ : ∃ ks, ks = (ksAll os).take u := ⟨_, rfl⟩
      have HKS : Hid (ks ++ [(xc.length : Int)] = (ksAll os).take (u + 1)) := Lib.hid (by
        rw [hks, hxl]
        exact take_snoc_i (by rw [ksAll_len]; exact hlu) (ksAll_at os u hlu))
      have hkl2 : ks.length = u := by rw [hks]; exact hkl
      have hm1 : LkAt W0 wr bl bm c co n kap vk (.slice none 0 0) vC (.slice none 0 0) mem L ks [] xc [] := by rw [hks, hxc]; exact HM.out
      obtain ⟨gC, kC, hvC⟩ := own_slice hm1.rC hxp
      obtain ⟨pk, kk, hvk⟩ := own_form hm1.rk
      subst hvC hvk
      have HOBJ := Lib.hid hobj
      have HNV := Lib.hid hobj.nl
      have HKL := Lib.hid hkl2
      have HV := Lib.hid hv
      have HOU := Lib.hid hou
      have hbl := hm1.size
      have hkl3 : ks.length ≤ 4 := by omega
      have HM1 := Lib.hid hm1
      clear hv hou hoe hobj hfew hcb hcl hcs hxc hxl hkl hks hkl2 hm1 HM
      go_wp2_with fail
      obtain ⟨b4, hb4⟩ : ∃ b4, b4 = wr.heap.size := ⟨_, rfl⟩
      obtain ⟨w4, hw4⟩ : ∃ w4, w4 = wr.alloc (.cells #[.slice v.pc v.n v.kn, .slice v.pd v.d v.kd, .slice v.ps v.m v.km, .slice v.pr v.r v.kr] 60) := ⟨_, rfl⟩
      have hm4 := HM1.out.go ((Below.refl _ _).alloc (Nat.le_refl _) (.cells #[.slice v.pc v.n v.kn, .slice v.pd v.d v.kd, .slice v.ps v.m v.km, .slice v.pr v.r v.kr] 60))
      have hx4 := heap_alloc_new wr (.cells #[.slice v.pc v.n v.kn, .slice v.pd v.d v.kd, .slice v.ps v.m v.km, .slice v.pr v.r v.kr] 60)
      have ho4 := HOBJ.out.below ((Below.refl _ _).alloc (Nat.le_refl _) (.cells #[.slice v.pc v.n v.kn, .slice v.pd v.d v.kd, .slice v.ps v.m v.km, .slice v.pr v.r v.kr] 60))
      rw [← hw4] at hm4 hx4 ho4 ⊢
      rw [← hb4] at hx4 ⊢
      have hblb : bl < b4 := by rw [hb4]; exact hbl
      clear hb4 hw4 x0 x1 x2 x3 HOBJ HM1
      obtain ⟨z0, z1, z2, z3, zz⟩ := blk4 hx4
      obtain ⟨q0, q1, q2, q3, q4, q5, q6, qz⟩ := blk7l hm4.box
      have hbl4 := hm4.size
      have hb4l := lt_of_block hx4
      have HX4 := Lib.hid hx4
      have HO4 := Lib.hid ho4
      have HM4 := Lib.hid hm4
      have HMD := Lib.hid (hm4.go ((Below.refl _ _).alloc (Nat.le_refl _) (.cells #[.int .i64 xc.length] 3)).drew)
      have HXD := Lib.hid ((((Below.refl w4.heap.size w4).alloc (Nat.le_refl _) (.cells #[.int .i64 xc.length] 3)).drew.block _ hb4l).trans hx4)
      clear hx4 ho4 hm4
      go_cut [] from 25 to 39 (fun wx => ∃ vk' : Value, LkAt W0 wx bl bm c co n kap vk' (.slice none 0 0) (.slice (some ⟨gC, 0, none⟩) xc.length kC) (.slice none 0 0) mem L (ks ++ [(xc.length : Int)]) [] xc [] ∧ wx.heap[b4]? = some (.cells #[.slice v.pc v.n v.kn, .slice v.pd v.d v.kd, .slice v.ps v.m v.km, .slice v.pr v.r v.kr] 60 (0, 0)))
      case first =>
        go_region_law ((refine step_append_own_src rfl (.tmp 29) (.tmp 36) 136 136 rfl W0.heap.size 3 iK _ 1 8 Try.underlying136 hiK iKz iKs iKb rfl (by decide) (.slice pk ks.length kk) _ _ rfl HMD.out.rk _ 1 [.int .i64 xc.length] rfl (Src.ofSlice _ Try.underlying136 _ 1 1 _ rfl (cells_list (heap_alloc_new w4 _) rfl) (by intro u hu; simp only [List.mem_cons, List.not_mem_nil, or_false] at hu; subst hu; rfl)) (by unfold maxLen; omega) (by omega) HMD.out.below.size ?_; intro v' w5 hown hgr hor; obtain ⟨pk', kk', rfl⟩ := own_form hown; have hbx := (hgr.block bl HMD.out.size (own_ne HMD.out.rk HMD.out.box (by decide))).trans HMD.out.box; obtain ⟨s0, s1, s2, s3, s4, s5, s6, sz⟩ := blk7l hbx; have hM := HMD.out.setk (ys := [(xc.length : Int)]) hown hgr hor; have hX := (heap_setCell_other w5 ⟨bl, 2, none⟩ b4 (.slice pk' (ks.length + 1) kk') (by simp; omega)).trans ((hgr.block b4 (lt_of_block HXD.out) (own_ne HMD.out.rk HXD.out (by decide))).trans HXD.out); have HM2 := Lib.hid hM; have HX2 := Lib.hid hX; clear hown hgr hor hbx hM hX))
        all_goals go_wp2_with fail
        all_goals go_meet
        all_goals exact ⟨_, HM2.out, HX2.out⟩
      case rest =>
        obtain ⟨vk', hm5, hx5⟩ := hcut
        clear z0 z1 z2 z3 zz q0 q1 q2 q3 q4 q5 q6 qz hbl4 hb4l HX4 HM4 HMD HXD HO4
        obtain ⟨z0, z1, z2, z3, zz⟩ := blk4 hx5
        obtain ⟨q0, q1, q2, q3, q4, q5, q6, qz⟩ := blk7l hm5.box
        have HO5 := Lib.hid (((HO.out.below hm5.below).get hlt HV.out HOU.out).2.2.2.2.below (Below.refl _ _).drew)
        rw [HKS.out] at hm5
        have HMD := Lib.hid (hm5.go (Below.refl _ _).drew)
        clear hx5 hm5
        go_wp2_with fail
        go_region_law ((refine step_append_own_src rfl (.tmp 45) (.tmp 47) 31 31 rfl W0.heap.size 22 iC _ 1 4 Try.underlying31 hiC iCz iCs iCb rfl (by decide) (.slice (some ⟨gC, 0, none⟩) xc.length kC) _ _ rfl HMD.out.rC _ v.n _ rfl (src_slice Try.underlying31 HO5.out.code HNV.out) (by unfold maxLen; omega) (by omega) HMD.out.below.size ?_; intro v' w5 hown hgr hor; obtain ⟨pk', kk', rfl⟩ := own_form hown; have hbx := (hgr.block bl HMD.out.size (own_ne HMD.out.rC HMD.out.box (by decide))).trans HMD.out.box; obtain ⟨s0, s1, s2, s3, s4, s5, s6, sz⟩ := blk7l hbx; have hM := HMD.out.setC (ys := o.code) (by rw [HNV.out]; exact hown) hgr hor; have HM2 := Lib.hid hM; clear hown hgr hor hbx hM))
        all_goals go_wp2_with fail
        all_goals
          go_roundg (n - (u + 1))
          case measure => have := HG.out; omega
          case rel => exact ⟨u + 1, _, _, hlt, rfl, by go_num, by rw [← HXC.out]; exact HM2.out⟩
    · obtain rfl : n = u := by omega
      obtain ⟨q0, q1, q2, q3, q4, q5, q6, qz⟩ := blk7l HM.out.box
      have hka : (ksAll os).take n = ksAll os := List.take_of_length_le (by rw [ksAll_len, HNL.out]; exact Nat.le_refl _)
      have hm := HM.out
      rw [hka] at hm
      have hcl := codeTo_len os n (by rw [HNL.out]; exact Nat.le_refl _)
      have hcb := codeB_le os HF.out n (by rw [HNL.out]; exact Nat.le_refl _)
      obtain ⟨xc, hxc⟩ : ∃ xc, xc = [e0, e1] ++ codeTo os n := ⟨_, rfl⟩
      have hxl : xc.length = 2 + codeB os n := by rw [hxc, List.length_append, hcl]; rfl
      rw [← hxc] at hm
      obtain ⟨gC, kC, hvC⟩ := own_slice hm.rC (by omega)
      subst hvC
      have hxl2 : xc.length ≤ 30000 := by omega
      have HXL := Lib.hid hxl
      have HXC := Lib.hid hxc
      have HM2 := Lib.hid hm
      clear hka hm hcl hcb hxc hxl HM
      go_wp2_with fail
      clear q0 q1 q2 q3 q4 q5 q6 qz
      go_loopg [58] n (fun gk v58 wr => ∃ u : Nat, ∃ vd vD : Value, u ≤ n ∧ gk = n - u ∧ v58 = .int .i64 u ∧ LkAt W0 wr bl bm c co n kap vk vd (.slice (some ⟨gC, 0, none⟩) xc.length kC) vD mem L (ksAll os) ((dsAll os).take u) xc (dataTo os u))
      case atStart => exact ⟨0, _, _, Nat.zero_le _, rfl, rfl, by simpa [dataTo] using HM2.out⟩
      case round =>
        obtain ⟨u, vd, vD, hu, hg, rfl, hm⟩ := hrel
        have HG := Lib.hid hg
        have HM := Lib.hid hm
        clear hg hm HM2
        by_cases hlt : u < n
        · obtain ⟨v, o, hv, hou⟩ := (HO.out.below HM.out.below).some hlt
          obtain ⟨x0, x1, x2, x3, hobj⟩ := (HO.out.below HM.out.below).get hlt hv hou
          have hlu : u < os.length := by rw [HNL.out]; exact hlt
          have hoe : os[u] = o := (List.getElem?_eq_some_iff.1 hou).2
          have hfew := HF.out o (hoe ▸ List.getElem_mem hlu)
          have hvn : v.d ≤ 16000 := by rw [← hobj.dl]; exact hfew.2.1
          have hdb := dataB_le os HF.out u (by omega)
          have hdl := dataTo_len os u (by omega)
          have hds := dataTo_succ os u hlu
          rw [hoe] at hds
          obtain ⟨xd, hxd⟩ : ∃ xd, xd = dataTo os u := ⟨_, rfl⟩
          have hxdl : xd.length = dataB os u := by rw [hxd, hdl]
          have hxdl2 : xd.length ≤ 80000 := by omega
          have HXD2 : Hid (xd ++ o.data = dataTo os (u + 1)) := Lib.hid (by rw [hds, hxd])
          have hkl : ((dsAll os).take u).length = u := by rw [List.length_take, dsAll_len]; omega
          obtain ⟨ds, hds2⟩ : ∃ ds, ds = (dsAll os).take u := ⟨_, rfl⟩
          have HKS : Hid (ds ++ [((xc.length : Int) + (xd.length : Int))] = (dsAll os).take (u + 1)) := Lib.hid (by
            rw [hds2]
            refine take_snoc_i (by rw [dsAll_len]; exact hlu) ?_
            rw [dsAll_at os u hlu, HXL.out, hxdl, HNL.out]
            omega)
          have hkl2 : ds.length = u := by rw [hds2]; exact hkl
          have hm1 : LkAt W0 wr bl bm c co n kap vk vd (.slice (some ⟨gC, 0, none⟩) xc.length kC) vD mem L (ksAll os) ds xc xd := by rw [hds2, hxd]; exact HM.out
          obtain ⟨pk, kk, hvk⟩ := own_form hm1.rd
          obtain ⟨pD, kD, hvD⟩ := own_form hm1.rD
          subst hvk hvD
          have HOBJ := Lib.hid hobj
          have HNV := Lib.hid hobj.dl
          have HV := Lib.hid hv
          have HOU := Lib.hid hou
          have hbl := hm1.size
          have hkl3 : ds.length ≤ 4 := by omega
          have HM1 := Lib.hid hm1
          clear hv hou hoe hobj hfew hdb hdl hds hxd hxdl hkl hds2 hkl2 hm1 HM
          go_wp2_with fail
          obtain ⟨b4, hb4⟩ : ∃ b4, b4 = wr.heap.size := ⟨_, rfl⟩
          obtain ⟨w4, hw4⟩ : ∃ w4, w4 = wr.alloc (.cells #[.slice v.pc v.n v.kn, .slice v.pd v.d v.kd, .slice v.ps v.m v.km, .slice v.pr v.r v.kr] 60) := ⟨_, rfl⟩
          have hm4 := HM1.out.go ((Below.refl _ _).alloc (Nat.le_refl _) (.cells #[.slice v.pc v.n v.kn, .slice v.pd v.d v.kd, .slice v.ps v.m v.km, .slice v.pr v.r v.kr] 60))
          have hx4 := heap_alloc_new wr (.cells #[.slice v.pc v.n v.kn, .slice v.pd v.d v.kd, .slice v.ps v.m v.km, .slice v.pr v.r v.kr] 60)
          have ho4 := HOBJ.out.below ((Below.refl _ _).alloc (Nat.le_refl _) (.cells #[.slice v.pc v.n v.kn, .slice v.pd v.d v.kd, .slice v.ps v.m v.km, .slice v.pr v.r v.kr] 60))
          rw [← hw4] at hm4 hx4 ho4 ⊢
          rw [← hb4] at hx4 ⊢
          have hblb : bl < b4 := by rw [hb4]; exact hbl
          clear hb4 hw4 x0 x1 x2 x3 HOBJ HM1
          obtain ⟨z0, z1, z2, z3, zz⟩ := blk4 hx4
          obtain ⟨q0, q1, q2, q3, q4, q5, q6, qz⟩ := blk7l hm4.box
          have hbl4 := hm4.size
          have hb4l := lt_of_block hx4
          have HMD := Lib.hid (hm4.go ((Below.refl _ _).alloc (Nat.le_refl _) (.cells #[.int .i64 ((xc.length : Int) + (xd.length : Int))] 3)).drew)
          have HXD := Lib.hid ((((Below.refl w4.heap.size w4).alloc (Nat.le_refl _) (.cells #[.int .i64 ((xc.length : Int) + (xd.length : Int))] 3)).drew.block _ hb4l).trans hx4)
          clear hx4 ho4 hm4
          have hs1 : IntKind.i64.wrap ((xc.length : Int) + (xd.length : Int)) = (xc.length : Int) + (xd.length : Int) := IntWalk.i64_in _ (by omega)
          go_cut [] from 62 to 83 (fun wx => ∃ vk' : Value, LkAt W0 wx bl bm c co n kap vk vk' (.slice (some ⟨gC, 0, none⟩) xc.length kC) (.slice pD xd.length kD) mem L (ksAll os) (ds ++ [((xc.length : Int) + (xd.length : Int))]) xc xd ∧ wx.heap[b4]? = some (.cells #[.slice v.pc v.n v.kn, .slice v.pd v.d v.kd, .slice v.ps v.m v.km, .slice v.pr v.r v.kr] 60 (0, 0)))
          case first =>
            go_region_law ((refine step_append_own_src rfl (.tmp 66) (.tmp 80) 136 136 rfl W0.heap.size 3 iK _ 1 8 Try.underlying136 hiK iKz iKs iKb rfl (by decide) (.slice pk ds.length kk) _ _ rfl HMD.out.rd _ 1 [.int .i64 ((xc.length : Int) + (xd.length : Int))] rfl (Src.ofSlice _ Try.underlying136 _ 1 1 _ rfl (cells_list (heap_alloc_new w4 _) rfl) (by intro u hu; simp only [List.mem_cons, List.not_mem_nil, or_false] at hu; subst hu; rfl)) (by clear hs1; unfold maxLen; omega) (by clear hs1; omega) HMD.out.below.size ?_; intro v' w5 hown hgr hor; obtain ⟨pk', kk', rfl⟩ := own_form hown; have hbx := (hgr.block bl HMD.out.size (own_ne HMD.out.rd HMD.out.box (by decide))).trans HMD.out.box; obtain ⟨s0, s1, s2, s3, s4, s5, s6, sz⟩ := blk7l hbx; have hM := HMD.out.setd (ys := [((xc.length : Int) + (xd.length : Int))]) hown hgr hor; have hX := (heap_setCell_other w5 ⟨bl, 3, none⟩ b4 (.slice pk' (ds.length + 1) kk') (by clear hs1; simp; omega)).trans ((hgr.block b4 (lt_of_block HXD.out) (own_ne HMD.out.rd HXD.out (by decide))).trans HXD.out); have HM2 := Lib.hid hM; have HX2 := Lib.hid hX; clear hown hgr hor hbx hM hX))
            all_goals go_wp2_with fail
            all_goals go_meet
            all_goals exact ⟨_, HM2.out, HX2.out⟩
          case rest =>
            obtain ⟨vk', hm5, hx5⟩ := hcut
            clear hs1
            clear z0 z1 z2 z3 zz q0 q1 q2 q3 q4 q5 q6 qz hbl4 hb4l HMD HXD
            obtain ⟨z0, z1, z2, z3, zz⟩ := blk4 hx5
            obtain ⟨q0, q1, q2, q3, q4, q5, q6, qz⟩ := blk7l hm5.box
            have HO5 := Lib.hid (((HO.out.below hm5.below).get hlt HV.out HOU.out).2.2.2.2.below (Below.refl _ _).drew)
            rw [HKS.out] at hm5
            have HMD := Lib.hid (hm5.go (Below.refl _ _).drew)
            clear hx5 hm5
            go_wp2_with fail
            go_region_law ((refine step_append_own_src rfl (.tmp 89) (.tmp 91) 32 32 rfl W0.heap.size 21 iD _ 1 4 Try.underlying32 hiD iDz iDs iDb rfl (by decide) (.slice pD xd.length kD) _ _ rfl HMD.out.rD _ v.d _ rfl (src_slice Try.underlying32 HO5.out.data HNV.out) (by unfold maxLen; omega) (by omega) HMD.out.below.size ?_; intro v' w5 hown hgr hor; obtain ⟨pk', kk', rfl⟩ := own_form hown; have hbx := (hgr.block bl HMD.out.size (own_ne HMD.out.rD HMD.out.box (by decide))).trans HMD.out.box; obtain ⟨s0, s1, s2, s3, s4, s5, s6, sz⟩ := blk7l hbx; have hM := HMD.out.setD (ys := o.data) (by rw [HNV.out]; exact hown) hgr hor; have HM2 := Lib.hid hM; clear hown hgr hor hbx hM))
            all_goals go_wp2_with fail
            all_goals
              go_roundg (n - (u + 1))
              case measure => have := HG.out; omega
              case rel => exact ⟨u + 1, _, _, hlt, rfl, by go_num, by rw [← HXD2.out]; exact HM2.out⟩
        · obtain rfl : n = u := by omega
          have hda : (dsAll os).take n = dsAll os := List.take_of_length_le (by rw [dsAll_len, HNL.out]; exact Nat.le_refl _)
          have hm := HM.out
          rw [hda, HXC.out] at hm
          have HM9 := Lib.hid hm
          clear hm hda HM
          go_wp2_with fail
          go_end0
          exact ⟨rfl, _, _, _, _, HM9.out⟩
end

end Go.Proofs.Ythnehhidlaggeaa
