/- scarfjointref18.Link: the walk. -/
import Derived.Test.YthnehhidlaggeaaRCheck
import Derived.Test.YthnehhidlaggeaaLinkImg
import Derived.Test.YthnehhidlaggeaaHome
import Derived.Test.YthnehhidlaggeaaREnc
import Derived.Test.YthnehhidlaggeaaRdec
import Derived.Test.YthnehhidlaggeaaMCheck
import Derived.RegionTactic
import Derived.ChangeAlike
import Derived.BigRegion
import Derived.Deep.RegionLaw
import Derived.Deep.CutBlock
namespace Go.Proofs.Ythnehhidlaggeaa
set_option linter.unusedVariables false
set_option linter.unusedSimpArgs false
open Go.RowKit Ob

/-- what Link tells -/
def LkTells (w : World) (res : Except Trb (List Int × List Int × List Rng)) (mem : Int) (e : Ending) (w' : World) : Prop := match res with
  | .error t => e = .returned (.tuple #[.agg #[.slice none 0 0, .slice none 0 0, .int .i64 0], .slice none 0 0, trV t]) ∧ Below w.heap.size w w'
  | .ok (xc, xd, xr) => ∃ vc vd vr, e = .returned (.tuple #[.agg #[vc, vd, .int .i64 mem], vr, trV noTrb]) ∧ Below w.heap.size w w' ∧
      w'.ownsRow (w.heap.size + 2) 22 1 vc xc.length (u32s xc) ∧ w'.ownsRow (w.heap.size + 2) 21 1 vd xd.length (i32s xd) ∧ w'.ownsRow (w.heap.size + 2) 77 5 vr xr.length (rngs xr)
theorem linkR_check {os : List Ob.Obj} {mem : Int} (h : checkT os ≠ noTrb) : linkR os mem = .error (checkT os) := by unfold linkR; rw [if_neg h]
set_option maxRecDepth 100000 in
set_option maxHeartbeats 4000000 in
theorem rlink_any (c co n kap : Nat) (vs : List OV) (os : List Ob.Obj) (mem : Int) (w : World) (ho : ObjsAt w c co n vs os) (hn1 : 1 ≤ n) (hn : n ≤ 4) (m1 : -9223372036854775808 ≤ mem) (m2 : mem ≤ 9223372036854775807) :
    Calls Try.prog 31 #[.slice (some ⟨c, co, none⟩) n kap, .int .i64 mem] w (LkTells w (linkR os mem) mem) := by
  have HO := Lib.hid ho
  clear ho
  obtain ⟨res, hres⟩ : ∃ res, res = linkR os mem := ⟨_, rfl⟩
  rw [← hres]
  have HRES := Lib.hid hres
  clear hres
  obtain ⟨w0, hw0⟩ : ∃ w0, w0 = (w.alloc (.cells #[.slice none 0 0, .slice none 0 0, .int .i64 0] 34)).alloc (.cells #[.int .i64 0, .int .i64 0, .int .i64 0] 73) := ⟨_, rfl⟩
  have hb0 : Below w.heap.size w w0 := by rw [hw0]; exact ((Below.refl _ _).alloc (Nat.le_refl _) _).alloc (by simp) _
  have hi0 : w0.heap[w.heap.size]? = some (.cells #[.slice none 0 0, .slice none 0 0, .int .i64 0] 34 (0, 0)) := by rw [hw0, Below.heap_alloc _ _ _ (by simp)]; exact heap_alloc_new _ _
  have ht0 : w0.heap[w.heap.size + 1]? = some (.cells #[.int .i64 0, .int .i64 0, .int .i64 0] 73 (0, 0)) := by rw [hw0]; exact heap_alloc_new2 w _ _
  obtain ⟨⟨T1, T2, T3⟩, hT⟩ : ∃ T, T = checkT os := ⟨_, rfl⟩
  have hck := rcheck_any c co n kap vs os w0 (HO.out.below hb0) hn1 hn
  rw [← hT] at hck
  unfold trV at hck
  simp only at hck
  have HCK := Lib.hid hck
  have HT := Lib.hid hT
  have HB0 := Lib.hid hb0
  have HI0 := Lib.hid hi0
  have HT0 := Lib.hid ht0
  clear hck hT hb0 hi0 ht0
  go_enter Try.func31, Try.ntmps31
  go_upto_region 1 with fail
  rw [← hw0]
  clear hw0
  go_wp2_with fail
  refine HCK.out.mono ?_
  rintro e w1 ⟨rfl, hb⟩
  obtain ⟨w2, hw2⟩ : ∃ w2, w2 = w1.alloc (.cells #[.int .i64 T1, .int .i64 T2, .int .i64 T3] 73) := ⟨_, rfl⟩
  have hb2 : Below w0.heap.size w0 w2 := by rw [hw2]; exact hb.alloc hb.size _
  have ht2 : w2.heap[w1.heap.size]? = some (.cells #[.int .i64 T1, .int .i64 T2, .int .i64 T3] 73 (0, 0)) := by rw [hw2]; exact heap_alloc_new _ _
  have HB2 := Lib.hid (HB0.out.trans (hb2.mono HB0.out.size))
  have HI2 := Lib.hid ((hb2.block _ (lt_of_block HI0.out)).trans HI0.out)
  have HT2 := Lib.hid ((hb2.block _ (lt_of_block HT0.out)).trans HT0.out)
  obtain ⟨y0, y1, y2, yz⟩ := blk3 ht2
  have hb7 : w.heap.size + 1 < w1.heap.size := Nat.lt_of_lt_of_le (lt_of_block HT0.out) hb.size
  have hbz : w1.heap.size < w2.heap.size := lt_of_block ht2
  clear hb hb2 ht2 HB0 HI0 HT0 HCK
  go_upto_region 2 with fail
  rw [← hw2]
  clear hw2
  obtain ⟨b7, hb7e⟩ : ∃ b7, b7 = w1.heap.size := ⟨_, rfl⟩
  rw [← hb7e] at hb7 hbz y0 y1 y2 yz ⊢
  clear hb7e
  by_cases h0 : T2 = 0
  · subst h0
    have hok : LinkOk os := link_ok (by rw [← HT.out])
    have HOK := Lib.hid hok
    obtain ⟨mv, mk, ms, hm1, hm2, hm3, hm4⟩ := hok.main_own
    have hmi : homeI os mainName = ((mv : Int), (mk : Int)) := homeI_some hm1
    have hmn : (⟨#[109, 97, 105, 110]⟩ : ByteArray).data.toList = mainName := rfl
    have hhc := home_any c co n kap vs os ⟨#[109, 97, 105, 110]⟩ w2 (HO.out.below HB2.out) hn
    rw [hmn, hmi] at hhc
    have HHC := Lib.hid hhc
    obtain ⟨am, ham⟩ : ∃ am, am = addrMain os := ⟨_, rfl⟩
    have hac := fun w' (hb : Below w.heap.size w w') => addr_any c co n kap vs os mv mk ms w' (HO.out.below hb) hn hm2 (.inl hm3) hok.may
    rw [hm4, ← ham] at hac
    have HAC := Lib.hid hac
    have hab := hok.of_bd (by rw [HO.out.nl]; exact hn) hm2
    rw [hm4, ← ham] at hab
    obtain ⟨am0, am1⟩ := hab
    have HAM := Lib.hid ham
    clear hok hm1 hm2 hm3 hm4 hmi hmn hhc ham hac
    go_wp2_with fail
    refine HHC.out.mono ?_
    rintro e w3 ⟨rfl, hb3⟩
    have HB3 := Lib.hid (HB2.out.trans (hb3.mono HB2.out.size))
    have HI3 := Lib.hid ((hb3.block _ (lt_of_block HI2.out)).trans HI2.out)
    have HT3 := Lib.hid ((hb3.block _ (lt_of_block HT2.out)).trans HT2.out)
    clear hb3 y0 y1 y2 yz HB2 HI2 HT2 HHC
    go_wp2_with fail
    refine (HAC.out _ HB3.out).mono ?_
    rintro e w4 ⟨rfl, hb4⟩
    have HB4 := Lib.hid (HB3.out.trans (hb4.mono HB3.out.size))
    have HI4 := Lib.hid ((hb4.block _ (lt_of_block HI3.out)).trans HI3.out)
    have HT4 := Lib.hid ((hb4.block _ (lt_of_block HT3.out)).trans HT3.out)
    clear hb4 HB3 HI3 HT3 HAC
    go_wp2_with fail
    have henc1 := rencode_any 21 0 0 0 (am % 65536) w4
    rw [mayE_call _ (by omega) (by omega), if_pos rfl] at henc1
    refine henc1.mono ?_
    rintro e w5 ⟨rfl, hb5⟩
    have HB5 := Lib.hid (HB4.out.trans (hb5.mono HB4.out.size))
    have HI5 := Lib.hid ((hb5.block _ (lt_of_block HI4.out)).trans HI4.out)
    have HT5 := Lib.hid ((hb5.block _ (lt_of_block HT4.out)).trans HT4.out)
    clear hb5 HB4 HI4 HT4 henc1
    go_wp2_with fail
    have henc2 := rencode_any 25 0 0 0 0 w5
    rw [mayE_exit, if_pos rfl] at henc2
    refine henc2.mono ?_
    rintro e w6 ⟨rfl, hb6⟩
    have HB6 := Lib.hid (HB5.out.trans (hb6.mono HB5.out.size))
    have HI6 := Lib.hid ((hb6.block _ (lt_of_block HI5.out)).trans HI5.out)
    have HT6 := Lib.hid ((hb6.block _ (lt_of_block HT5.out)).trans HT5.out)
    clear hb6 HB5 HI5 HT5 henc2
    go_wp2_with fail
    obtain ⟨e0, he0⟩ : ∃ e0, e0 = Cp.encN 21 0 0 0 (am % 65536) := ⟨_, rfl⟩
    obtain ⟨e1, he1⟩ : ∃ e1, e1 = Cp.encN 25 0 0 0 0 := ⟨_, rfl⟩
    obtain ⟨bm, hbm⟩ : ∃ bm, bm = w6.heap.size + 1 := ⟨_, rfl⟩
    obtain ⟨vc0, hvc0⟩ : ∃ vc0 : Value, vc0 = .slice (some ⟨w6.heap.size, 0, none⟩) 2 2 := ⟨_, rfl⟩
    obtain ⟨w7, hw7⟩ : ∃ w7, w7 = (w6.alloc (.cells #[.int .u32 e0, .int .u32 e1] 22)).alloc (.cells #[.slice (some ⟨w6.heap.size, 0, none⟩) 2 2, .slice none 0 0, .int .i64 mem] 34) := ⟨_, rfl⟩
    rw [← he0, ← he1, ← hw7, ← hbm, ← hvc0]
    have hm7 : ImAt w w7 w.heap.size bm vc0 (.slice none 0 0) (.slice none 0 0) mem [e0, e1] [] [] := by
      have hz6 := lt_of_block HT6.out
      have hsz := (lt_of_block HI6.out)
      have hlt : w.heap.size + 2 ≤ w6.heap.size := by omega
      refine ⟨rfl, by omega, ?_, ?_, ?_, ?_, World.ownsRow_nil _ _ _ _, World.ownsRow_nil _ _ _ _, ?_⟩
      · rw [hw7, Below.heap_alloc _ _ _ (by simp; omega), Below.heap_alloc _ _ _ (by omega)]; exact HI6.out
      · rw [hw7, Below.heap_alloc _ _ _ (by simp; omega), Below.heap_alloc _ _ _ (by omega)]; exact HT6.out
      · rw [hw7, hbm, hvc0]; exact heap_alloc_new2 w6 _ _
      · rw [hw7, hvc0]
        exact (World.ownsRow_lit w6 #[.int .u32 e0, .int .u32 e1] 2 hlt (by decide) rfl).alloc _
      · rw [hw7]; exact (HB6.out.alloc (by omega) _).alloc (by simp; omega) _
    have HE0 := Lib.hid he0
    have HE1 := Lib.hid he1
    have HM7 := Lib.hid hm7
    have hbm2 : w.heap.size + 1 < bm := hm7.hbm
    clear hw7 he0 he1 hm7 hbm hvc0 HB6 HI6 HT6
    obtain ⟨iC, hiC, iCz, iCs, iCb⟩ := info_parts lk_u32
    obtain ⟨iD, hiD, iDz, iDs, iDb⟩ := info_parts lk_i32
    obtain ⟨iR, hiR, iRz, iRs, iRb⟩ := info_parts lk_rng
    have HF := Lib.hid HOK.out.few
    go_loopg [16, 17] n (fun gk v16 v17 wr => ∃ u : Nat, ∃ vc vd : Value, u ≤ n ∧ gk = n - u ∧ v17 = .int .i64 u ∧ ImAt w wr w.heap.size bm vc vd v16 mem ([e0, e1] ++ codeTo os u) (dataTo os u) (rngTo os u))
    case atStart => exact ⟨0, _, _, Nat.zero_le _, rfl, rfl, HM7.out⟩
    case round =>
      obtain ⟨u, vc, vd, hu, hg, rfl, hm⟩ := hrel
      have HG := Lib.hid hg
      have HM := Lib.hid hm
      clear hg hm HM7
      by_cases hlt : u < n
      · obtain ⟨v, o, hv, ho⟩ := (HO.out.below HM.out.below).some hlt
        obtain ⟨x0, x1, x2, _, hobj⟩ := (HO.out.below HM.out.below).get hlt hv ho
        obtain ⟨y0, y1, y2, yz⟩ := blk3 HM.out.box
        have HOBJ := Lib.hid hobj
        have HV := Lib.hid hv
        have HOU := Lib.hid ho
        clear hv ho hobj
        obtain ⟨oe1, hlu⟩ : os[u]? = some o ∧ u < os.length := ⟨HOU.out, by rw [HO.out.nl]; exact hlt⟩
        have hoe : os[u] = o := (List.getElem?_eq_some_iff.1 oe1).2
        have hfew := HF.out o (hoe ▸ List.getElem_mem hlu)
        obtain ⟨f1, f2, f3, f4⟩ := hfew
        have hcl := codeTo_len os u (by omega)
        have hdl := dataTo_len os u (by omega)
        have hcb := codeB_le os HF.out u (by omega)
        have hdb := dataB_le os HF.out u (by omega)
        have hcs := codeTo_succ os u hlu
        have hds := dataTo_succ os u hlu
        rw [hoe] at hcs hds
        obtain ⟨xc, hxc⟩ : ∃ xc, xc = [e0, e1] ++ codeTo os u := ⟨_, rfl⟩
        obtain ⟨xd, hxd⟩ : ∃ xd, xd = dataTo os u := ⟨_, rfl⟩
        have hxl : xc.length ≤ 30000 := by rw [hxc, List.length_append, hcl]; simp; omega
        have hdl2 : xd.length ≤ 80000 := by rw [hxd, hdl]; omega
        have hxp : 0 < xc.length := by rw [hxc]; simp
        have hnl := HOBJ.out.nl
        have hdl3 := HOBJ.out.dl
        have hvn : v.n ≤ 6000 := by omega
        have hvd : v.d ≤ 16000 := by omega
        have hml := HOBJ.out.ml
        have hvm : v.m ≤ 400 := by omega
        have HM1 : Hid (ImAt w wr w.heap.size bm vc vd u16 mem xc xd (rngTo os u)) := Lib.hid (by rw [hxc, hxd]; exact HM.out)
        have hxc2 : xc ++ o.code = [e0, e1] ++ codeTo os (u + 1) := by rw [hcs, hxc, List.append_assoc]
        have hxd2 : xd ++ o.data = dataTo os (u + 1) := by rw [hds, hxd]
        have HXC := Lib.hid hxc2
        have HXD := Lib.hid hxd2
        have HNL := Lib.hid hnl
        have HDL := Lib.hid hdl3
        have HOE := Lib.hid hoe
        clear HM oe1 hoe f1 f2 f3 f4 hcl hdl hcb hdb hcs hds hxc hxd hnl hdl3 hml hxc2 hxd2
        have HMD := Lib.hid (HM1.out.go (Below.refl _ _).drew)
        have HOD := Lib.hid (HOBJ.out.below (Below.refl _ _).drew)
        go_wp2_with fail
        go_cut [] from 70 to 78 (fun wx => ∃ vc' : Value, ImAt w wx w.heap.size bm vc' vd u16 mem (xc ++ o.code) xd (rngTo os u))
        case first =>
          go_region_law ((refine step_append_own_src rfl (.tmp 71) (.tmp 76) 31 31 rfl (w.heap.size + 2) 22 iC _ 1 4 Try.underlying31 hiC iCz iCs iCb rfl (by decide) vc _ _ rfl HMD.out.rc _ v.n _ rfl (src_slice Try.underlying31 HOD.out.code HNL.out) (by unfold maxLen; omega) (by omega) (by have := HMD.out.size; omega) ?_; intro v' w2 hown hgr hor; obtain ⟨g3, cap3, rfl⟩ := own_slice hown (by omega); have hbx := (hgr.block bm HMD.out.size (own_ne HMD.out.rc HMD.out.box (by decide))).trans HMD.out.box; obtain ⟨z0, z1, z2, zz⟩ := blk3 hbx; have hM := HMD.out.setC (by rw [HNL.out]; exact hown) hgr; have HM2 := Lib.hid hM; clear hown hgr hor hbx hM))
          all_goals go_wp2_with fail
          all_goals go_meet
          all_goals exact ⟨_, HM2.out⟩
        case rest =>
          obtain ⟨vc', hm⟩ := hcut
          obtain ⟨x0, x1, x2, _, hobj⟩ := (HO.out.below hm.below).get hlt HV.out HOU.out
          obtain ⟨y0, y1, y2, yz⟩ := blk3 hm.box
          clear HOBJ HMD HOD HM1
          have HOBJ := Lib.hid hobj
          have HM1 := Lib.hid hm
          have HMD := Lib.hid (HM1.out.go (Below.refl _ _).drew)
          have HOD := Lib.hid (HOBJ.out.below (Below.refl _ _).drew)
          clear hm hobj
          go_wp2_with fail
          go_cut [] from 79 to 87 (fun wx => ∃ vd' : Value, ImAt w wx w.heap.size bm vc' vd' u16 mem (xc ++ o.code) (xd ++ o.data) (rngTo os u))
          case first =>
            go_region_law ((refine step_append_own_src rfl (.tmp 80) (.tmp 85) 32 32 rfl (w.heap.size + 2) 21 iD _ 1 4 Try.underlying32 hiD iDz iDs iDb rfl (by decide) vd _ _ rfl HMD.out.rd _ v.d _ rfl (src_slice Try.underlying32 HOD.out.data HDL.out) (by unfold maxLen; omega) (by omega) (by have := HMD.out.size; omega) ?_; intro v' w2 hown hgr hor; obtain ⟨g3, cap3, rfl⟩ := own_form hown; have hbx := (hgr.block bm HMD.out.size (own_ne HMD.out.rd HMD.out.box (by decide))).trans HMD.out.box; obtain ⟨z0, z1, z2, zz⟩ := blk3 hbx; have hM := HMD.out.setD (by rw [HDL.out]; exact hown) hgr; have HM2 := Lib.hid hM; clear hown hgr hor hbx hM))
            all_goals go_wp2_with fail
            all_goals go_meet
            all_goals exact ⟨_, HM2.out⟩
          case rest =>
            obtain ⟨vd', hm⟩ := hcut
            rw [HXC.out, HXD.out] at hm
            clear HOBJ HMD HOD HM1 x0 x1 x2 y0 y1 y2 yz HXC HXD HNL HDL hxp hvn hvd hxl hdl2
            have HM := Lib.hid hm
            clear hm
            go_wp2_with fail
            obtain ⟨ou, hou⟩ : ∃ ou, ou = o.syms.length := ⟨_, rfl⟩
            go_loopg [16, 18] v.m (fun gk v16 v18 wi => ∃ i : Nat, i ≤ v.m ∧ gk = v.m - i ∧ v18 = .int .i64 i ∧ ImAt w wi w.heap.size bm vc' vd' v16 mem ([e0, e1] ++ codeTo os (u + 1)) (dataTo os (u + 1)) (rngTo os u ++ rngIn os u (o.syms.take i)))
            case atStart => exact ⟨0, Nat.zero_le _, rfl, rfl, by simpa [rngIn] using HM.out⟩
            case round =>
              obtain ⟨i, hi, hgi, rfl, hmi⟩ := hrel
              have HGI := Lib.hid hgi
              have HMI := Lib.hid hmi
              clear hgi hmi
              obtain ⟨_, _, x2, _, hobj⟩ := (HO.out.below HMI.out.below).get hlt HV.out HOU.out
              have HOBJ := Lib.hid hobj
              clear hobj
              by_cases hlt2 : i < v.m
              · obtain ⟨c0, c1, hps, hc0, hi', hrange⟩ := HOBJ.out.sym hlt2
                obtain ⟨s, hs⟩ : ∃ s, o.syms[i] = s := ⟨_, rfl⟩
                rw [hs] at hrange
                have HS : Hid (symAt os u i = some s) := Lib.hid (by
                  have := HOE.out
                  subst this
                  rw [← hs]
                  exact sym_of hlu hi')
                have HTK := Lib.hid (rngIn_succ os u o.syms i hi')
                rw [hs] at HTK
                have HRG := Lib.hid hrange
                rw [hps] at x2
                have HPS := Lib.hid hps
                clear hs hrange hps
                have hst := sym_store s
                obtain ⟨ad, had⟩ : ∃ ad, ad = addrOf os u s := ⟨_, rfl⟩
                have hown0 : s.kind = 1 → ad = addrOwn os u s := fun e => by
                  rw [had]; unfold addrOf
                  rw [if_pos (by unfold ownK; rw [e]; rfl)]
                have hob := HOK.out.own_bd (by rw [HO.out.nl]; exact hn) HS.out
                have hnb := HOK.out.of_bd (by rw [HO.out.nl]; exact hn) HS.out
                rw [← had] at hnb
                obtain ⟨_, _, hz0, hz1, hf0, hf1⟩ := hob
                obtain ⟨ad0, ad1⟩ := hnb
                have hac := fun w' (hb : Below wr.heap.size wr w') => addr_any c co n kap vs os u i s w' (HO.out.below (HMI.out.below.trans (hb.mono HMI.out.below.size))) hn HS.out (HOK.out.homed HS.out) HOK.out.may
                rw [← had] at hac
                have HAC := Lib.hid hac
                have HOWN := Lib.hid hown0
                clear had hac hown0
                cases hk : s.kind == 1
                · have HR0 : Hid (symRng os u s = []) := Lib.hid (by unfold symRng; rw [if_neg (beq_eq_false_iff_ne.1 hk)])
                  go_wp2_with (refine wpList_load_mid (by rfl) 106 (.tmp 104) (by rfl) c0 (c1 + i * 7) (by rfl) [.string s.name, .int .i64 s.kind, .bool s.static, .int .i64 s.pos, .int .i64 s.size, .string s.sign, .int .i64 s.frame] _ HRG.out Try.underlying106 (by rfl) (by kernel_rfl) ?_)
                  go_roundg (v.m - (i + 1))
                  case measure => have := HGI.out; omega
                  case rel => exact ⟨i + 1, hlt2, rfl, by go_num, by
                    rw [HTK.out, HR0.out, List.append_nil]
                    exact HMI.out.go ((Below.refl _ _).alloc (Nat.le_refl _) _)⟩
                · go_wp2_with (refine wpList_load_mid (by rfl) 106 (.tmp 104) (by rfl) c0 (c1 + i * 7) (by rfl) [.string s.name, .int .i64 s.kind, .bool s.static, .int .i64 s.pos, .int .i64 s.size, .string s.sign, .int .i64 s.frame] _ HRG.out Try.underlying106 (by rfl) (by kernel_rfl) ?_)
                  have hrl : (rngTo os u ++ rngIn os u (o.syms.take i)).length ≤ 2000 := by
                    have h1 := rngTo_len os HF.out u (by omega)
                    have h2 := rngIn_len os u (o.syms.take i)
                    have h3 : (o.syms.take i).length ≤ i := List.length_take_le _ _
                    rw [List.length_append]
                    omega
                  obtain ⟨xr, hxr⟩ : ∃ xr, xr = rngTo os u ++ rngIn os u (o.syms.take i) := ⟨_, rfl⟩
                  rw [← hxr] at hrl
                  have HR1 : Hid (xr ++ [⟨s.name, u, ad, ad + s.size, s.frame⟩] = rngTo os u ++ rngIn os u (o.syms.take (i + 1))) := Lib.hid (by
                    have hk1 : s.kind = 1 := beq_iff_eq.1 hk
                    rw [HTK.out, hxr, ← List.append_assoc]
                    unfold symRng
                    rw [if_pos hk1, HOWN.out hk1])
                  have HMX : Hid (ImAt w wr w.heap.size bm vc' vd' u16 mem ([e0, e1] ++ codeTo os (u + 1)) (dataTo os (u + 1)) xr) := Lib.hid (by rw [hxr]; exact HMI.out)
                  clear hxr
                  refine (HAC.out _ ((Below.refl _ _).alloc (Nat.le_refl _) _)).mono ?_
                  rintro e w8 ⟨rfl, hb8⟩
                  have hbx := (hb8.block wr.heap.size (by simp)).trans (heap_alloc_new wr (.cells #[.string s.name, .int .i64 s.kind, .bool s.static, .int .i64 s.pos, .int .i64 s.size, .string s.sign, .int .i64 s.frame] 106))
                  obtain ⟨y0, y1, y2, y3, y4, y5, y6, yz⟩ := blk7 hbx
                  have hlx := lt_of_block hbx
                  have HM8 := Lib.hid (HMX.out.go (((Below.refl _ _).alloc (Nat.le_refl _) _).trans (hb8.mono (by simp))))
                  have HM9 := Lib.hid (HM8.out.go ((Below.refl _ _).alloc (Nat.le_refl _) (.cells #[.string s.name, .int .i64 u, .int .i64 ad, .int .i64 (ad + s.size), .int .i64 s.frame] 77)))
                  have hz9 := HM9.out.size
                  have hz8 := HM8.out.size
                  clear hb8 hbx HAC HMX
                  go_wp2_with (at_builtin; go_loud (refine wpList_append_own_src rfl (.tmp 113) (.tmp 125) 71 71 rfl (w.heap.size + 2) 77 iR _ 5 48 Try.underlying71 hiR iRz iRs iRb rfl (by decide) u16 _ _ rfl HM9.out.rr _ 1 (rngCells ⟨s.name, u, ad, ad + s.size, s.frame⟩) rfl (Src.ofSlice _ Try.underlying71 _ 1 1 _ rfl (cells_list (heap_alloc_new w8 _) rfl) ?h1) ?h63 ?hby ?hba ?hh))
                  case h1 => intro u hu; simp only [rngCells, List.mem_cons, List.not_mem_nil, or_false] at hu; rcases hu with rfl | rfl | rfl | rfl | rfl <;> rfl
                  case h63 => unfold maxLen; omega
                  case hby => omega
                  case hba => omega
                  case hh =>
                    intro v' w9 hown hgr hor
                    have HMN := Lib.hid (HM9.out.addR hown hgr)
                    clear hown hgr hor
                    go_wp2_with fail
                    go_roundg (v.m - (i + 1))
                    case measure => have := HGI.out; omega
                    case rel => exact ⟨i + 1, hlt2, rfl, by go_num, by rw [← HR1.out]; exact HMN.out⟩
              · obtain rfl : i = v.m := by omega
                have HRR : Hid (rngTo os u ++ rngIn os u (o.syms.take v.m) = rngTo os (u + 1)) := Lib.hid (by
                  rw [rngTo, List.getElem?_eq_getElem hlu, HOE.out, List.take_of_length_le (by rw [HOBJ.out.ml]; exact Nat.le_refl _)]
                  rfl)
                go_wp2_with fail
                go_roundg (n - (u + 1))
                case measure => have := HG.out; omega
                case rel => exact ⟨u + 1, _, _, hlt, rfl, by go_num, by rw [← HRR.out]; exact HMI.out⟩
      · obtain rfl : n = u := by omega
        have hnl := HO.out.nl
        have hc0 : [e0, e1] ++ codeTo os n = code0 os := by
          unfold code0
          rw [hnl, ← HAM.out, ← HE0.out, ← HE1.out]
        have hN : (code0 os).length = 2 + codeB os os.length := code0_len os
        have hD : (dataTo os n).length = dataB os os.length := by rw [dataTo_len os n (by omega), hnl]
        have hcb := codeB_le os HF.out os.length (Nat.le_refl _)
        have hdb := dataB_le os HF.out os.length (Nat.le_refl _)
        rw [hc0] at HM
        obtain ⟨N, hNe⟩ : ∃ N, N = (code0 os).length := ⟨_, rfl⟩
        obtain ⟨D, hDe⟩ : ∃ D, D = (dataTo os n).length := ⟨_, rfl⟩
        obtain ⟨pd, kd, hvd⟩ := own_form HM.out.rd
        obtain ⟨g, kc, hvc⟩ := own_slice HM.out.rc (by rw [hN]; omega)
        rw [← hDe] at hvd
        rw [← hNe] at hvc
        rw [hvd, hvc] at HM
        have hN2 : N ≤ 30000 := by omega
        have hN3 : 2 ≤ N := by omega
        have hD2 : D ≤ 80000 := by omega
        have hmE : mayImg (2 + codeB os os.length) (dataB os os.length) mem = decide (mayImage N D mem) := by
          rw [hNe, hDe, hN, hD]; rfl
        have HMAY := Lib.hid hmE
        have HNE := Lib.hid hNe
        have HDE := Lib.hid hDe
        have HNL := Lib.hid hnl
        obtain ⟨y0, y1, y2, yz⟩ := blk3 HM.out.box
        clear hvd hvc hNe hDe hmE hnl hc0 hN hD hcb hdb HE0 HE1 HAM
        clear vc vd
        obtain ⟨hbm3, hbm4⟩ : bm < wr.heap.size ∧ w.heap.size + 1 < wr.heap.size := ⟨HM.out.size, by have := HM.out.size; omega⟩
        go_wp2_with fail
        refine (rmay_any (some ⟨g, 0, none⟩) pd N kc D kd mem _ (by omega) (by omega) m1 m2).mono ?_
        rintro e w9 ⟨⟨t, rfl, ht⟩, rfl⟩
        have HM9 := Lib.hid (HM.out.go ((Below.refl _ _).alloc (Nat.le_refl _) (.cells #[.slice (some ⟨g, 0, none⟩) N kc, .slice pd D kd, .int .i64 mem] 34)))
        obtain ⟨w10, hw10⟩ : ∃ w10, w10 = wr.alloc (.cells #[.slice (some ⟨g, 0, none⟩) N kc, .slice pd D kd, .int .i64 mem] 34) := ⟨_, rfl⟩
        rw [← hw10] at HM9 ⊢
        clear hw10 y0 y1 y2 yz hbm3 hbm4 HM
        have HTT := Lib.hid ht
        clear ht
        obtain ⟨i0, i1, i2, iz⟩ := blk3 HM9.out.img
        obtain ⟨r0, r1, r2, rz⟩ := blk3 HM9.out.trb
        obtain ⟨hbm3, hbm4⟩ : bm < w10.heap.size ∧ w.heap.size + 1 < w10.heap.size := ⟨HM9.out.size, by have := HM9.out.size; omega⟩
        cases t
        · obtain rfl : res = .error (0, 1, 1) := by
            rw [HRES.out]
            unfold linkR
            rw [if_pos HOK.out.eq, HMAY.out, if_neg (by rw [decide_eq_true_eq]; intro h; cases HTT.out.1 h)]
          go_wp2_with fail
          refine bodyPost_ret (v := .tuple #[.agg #[.slice none 0 0, .slice none 0 0, .int .i64 0], .slice none 0 0, .agg #[.int .i64 0, .int .i64 1, .int .i64 1]]) (by simp [results, Try.results31, go_sem, i0, i1, i2, r0, r1, r2]) rfl (show LkTells _ _ _ _ _ from ⟨rfl, ?_⟩)
          clear i0 i1 i2 iz r0 r1 r2 rz
          have hB := HM9.out.below
          exact (((((hB.setCell (by simp) _).setCell (by simp) _).setCell (by simp) _).setCell (by simp) _).setCell (by simp) _).setCell (by simp) _
        · have hmi : mayImage N D mem := HTT.out.2 rfl
          have HRS : Hid ((∀ L, relU os (code0 os) os.length = .ok L → res = .ok (L, dataTo os os.length, rngTo os os.length)) ∧ (∀ t, relU os (code0 os) os.length = .error t → res = .error t)) := Lib.hid (by
            constructor <;> (intro x hx; rw [HRES.out]; unfold linkR; rw [if_pos HOK.out.eq, HMAY.out, if_pos (by rw [decide_eq_true_eq]; exact hmi), hx]))
          clear hmi HTT HMAY i0 i1 i2 iz r0 r1 r2 rz
          go_wp2_with fail
          go_loopg [21] n (fun gk v21 wr => ∃ u : Nat, ∃ L : List Int, u ≤ n ∧ gk = n - u ∧ v21 = .int .i64 u ∧ relU os (code0 os) u = .ok L ∧ L.length = N ∧ ImAt w wr w.heap.size bm (.slice (some ⟨g, 0, none⟩) N kc) (.slice pd D kd) u16 mem L (dataTo os n) (rngTo os n))
          case atStart => exact ⟨0, _, Nat.zero_le _, rfl, rfl, rfl, HNE.out.symm, HM9.out⟩
          case round =>
            obtain ⟨u, L, hu, hg, rfl, hre, hll, hm⟩ := hrel
            have HG := Lib.hid hg
            have HM := Lib.hid hm
            have HRE := Lib.hid hre
            have HLL := Lib.hid hll
            clear hg hm hre hll HM9 hbm3 hbm4
            obtain ⟨hbm3, hbm4⟩ : bm < wr.heap.size ∧ w.heap.size + 1 < wr.heap.size := ⟨HM.out.size, by have := HM.out.size; omega⟩
            by_cases hlt : u < n
            · obtain ⟨v, o, hv, ho⟩ := (HO.out.below HM.out.below).some hlt
              have hbf := before_any c co n kap vs os u wr (HO.out.below HM.out.below) hn (by omega) HF.out
              have HBF := Lib.hid hbf
              have HV := Lib.hid hv
              have HOU := Lib.hid ho
              clear hv ho hbf
              go_wp2_with fail
              refine HBF.out.mono ?_
              rintro e w11 ⟨rfl, hb11⟩
              have HM11 := Lib.hid (HM.out.go hb11)
              clear hb11 HBF HM hbm3 hbm4
              obtain ⟨hbm3, hbm4⟩ : bm < w11.heap.size ∧ w.heap.size + 1 < w11.heap.size := ⟨HM11.out.size, by have := HM11.out.size; omega⟩
              go_wp2_with fail
              have hlu : u < os.length := by rw [HO.out.nl]; exact hlt
              have hoe : os[u] = o := (List.getElem?_eq_some_iff.1 HOU.out).2
              have hmay : mayB o = true := HOK.out.may o (hoe ▸ List.getElem_mem hlu)
              have hfew := HF.out o (hoe ▸ List.getElem_mem hlu)
              have hcbl := codeB_le os HF.out u (by omega)
              have hcbs := codeB_succ os u hlu
              have hcbm := codeB_mono os (u + 1) os.length (by omega) (Nat.le_refl _)
              have hobj := ((HO.out.below HM11.out.below).get hlt HV.out HOU.out).2.2.2.2
              rw [hoe] at hcbs
              have hvr : v.r ≤ 6000 := by rw [← hobj.rl]; exact hfew.2.2.2
              have hvn : v.n ≤ 6000 := by rw [← hobj.nl]; exact hfew.1
              obtain ⟨cb, hcb⟩ : ∃ cb, cb = codeB os u := ⟨_, rfl⟩
              have hNc : 2 + cb + v.n ≤ N := by rw [hcb, ← hobj.nl]; have := HNE.out; rw [code0_len] at this; omega
              rw [← hcb] at hcbl ⊢
              have hrl : relsOf os u = o.rels := by unfold relsOf; rw [HOU.out]; rfl
              have hcl : codeOf os u = o.code := by unfold codeOf; rw [HOU.out]; rfl
              have HOE := Lib.hid hoe
              have HMAY2 := Lib.hid hmay
              have HCB := Lib.hid hcb
              have HRL := Lib.hid hrl
              have HCL := Lib.hid hcl
              have HRL2 := Lib.hid hobj.rl
              clear hoe hmay hfew hcbs hcbm hobj hcb hrl hcl
              go_loopg [24] v.r (fun gk v24 wr => ∃ k : Nat, ∃ L2 : List Int, k ≤ v.r ∧ gk = v.r - k ∧ v24 = .int .i64 k ∧ relK os u L k = .ok L2 ∧ L2.length = N ∧ ImAt w wr w.heap.size bm (.slice (some ⟨g, 0, none⟩) N kc) (.slice pd D kd) u16 mem L2 (dataTo os n) (rngTo os n))
              case atStart => exact ⟨0, _, Nat.zero_le _, rfl, rfl, rfl, HLL.out, HM11.out⟩
              case round =>
                obtain ⟨k, L2, hk, hgk, rfl, hrk, hll2, hm⟩ := hrel
                have HGK := Lib.hid hgk
                have HM := Lib.hid hm
                have HRK := Lib.hid hrk
                have HLL2 := Lib.hid hll2
                clear hgk hm hrk hll2 HM11 hbm3 hbm4
                obtain ⟨hbm3, hbm4⟩ : bm < wr.heap.size ∧ w.heap.size + 1 < wr.heap.size := ⟨HM.out.size, by have := HM.out.size; omega⟩
                obtain ⟨x0, _, _, x3, hobj⟩ := (HO.out.below HM.out.below).get hlt HV.out HOU.out
                have HOBJ := Lib.hid hobj
                clear hobj
                by_cases hlt2 : k < v.r
                · obtain ⟨c0, c1, hpr, hc0, hk', hrange⟩ := HOBJ.out.rel hlt2
                  have hrel := rel_has HMAY2.out hk'
                  obtain ⟨⟨rp, rs, ra⟩, hr⟩ : ∃ r, o.rels[k] = r := ⟨_, rfl⟩
                  rw [hr] at hrange hrel
                  obtain ⟨⟨hp0, hp1⟩, ⟨hs0, hs1⟩, ⟨ha0, ha1⟩, hdec⟩ := hrel
                  simp only at hp0 hp1 hs0 hs1 ha0 ha1 hdec
                  obtain ⟨pi, rfl⟩ := Int.eq_ofNat_of_zero_le hp0
                  obtain ⟨si, rfl⟩ := Int.eq_ofNat_of_zero_le hs0
                  rw [Int.toNat_natCast] at hdec
                  have hpn : pi < v.n := by rw [← HOBJ.out.nl]; omega
                  have hsn : si < o.syms.length := by omega
                  obtain ⟨op, da, db, dc, hdec⟩ := hdec
                  obtain ⟨wv, hwv⟩ : ∃ wv, wv = o.code.getD pi 0 := ⟨_, rfl⟩
                  obtain ⟨cc, cco, hpc, hccl, hcw⟩ := HOBJ.out.word hpn
                  have hwb := HOBJ.out.u32 pi
                  rw [← hwv] at hwb hcw hdec
                  rw [hpc] at x0
                  rw [hpr] at x3
                  obtain ⟨s, hs⟩ : ∃ s, symAt os u si = some s := ⟨_, sym_of hlu (by rw [HOE.out]; exact hsn)⟩
                  obtain ⟨ad, had⟩ : ∃ ad, ad = addrOf os u s := ⟨_, rfl⟩
                  have hnb := HOK.out.of_bd (by rw [HO.out.nl]; exact hn) hs
                  rw [← had] at hnb
                  obtain ⟨ad0, ad1⟩ := hnb
                  have hac := fun w' (hb : Below wr.heap.size wr w') => addr_any c co n kap vs os u si s w' (HO.out.below (HM.out.below.trans (hb.mono HM.out.below.size))) hn hs (HOK.out.homed hs) HOK.out.may
                  rw [← had] at hac
                  have HAC := Lib.hid hac
                  have hdc : ∀ w' : World, Calls Try.prog 12 #[.int .u32 wv] w' fun e w'' => e = .returned (.tuple #[.agg #[.int .i64 op, .int .i64 da, .int .i64 db, .int .i64 dc, .int .i64 0], .bool true]) ∧ Below w'.heap.size w' w'' := fun w' => by
                    have := rdecode_any wv w' hwb.1 hwb.2
                    rw [hdec] at this
                    exact this
                  have HDC := Lib.hid hdc
                  have hrw : relWord os u ⟨pi, si, ra⟩ wv = if Cp.mayE op da db dc (ad + ra) = 0 then some (Cp.encN op da db dc (ad + ra)) else none := by
                    unfold relWord
                    rw [hdec]
                    simp only [Int.toNat_natCast, hs, had]
                  have hrs : (relWord os u ⟨pi, si, ra⟩ wv = none → relStep os u k ((relsOf os u).getD k default) L2 = .error (u, 6, k)) ∧ ∀ x, relWord os u ⟨pi, si, ra⟩ wv = some x → relStep os u k ((relsOf os u).getD k default) L2 = .ok (L2.set (2 + cb + pi) x) := by
                    rw [HRL.out, List.getD_eq_getElem?_getD, List.getElem?_eq_getElem hk', hr]
                    unfold relStep
                    rw [HCL.out]
                    simp only [Option.getD_some, Int.toNat_natCast]
                    rw [← hwv, HCB.out]
                    exact ⟨fun e => by rw [e], fun x e => by rw [e]⟩
                  have HRW := Lib.hid hrw
                  have HRST := Lib.hid hrs
                  have HRG := Lib.hid hrange
                  have HWV := Lib.hid hwv
                  clear hrange hr hdec hwv hpc hpr hs had hac hdc hrw hrs hk' hs1
                  have r0 : wr.cell? ⟨c0, c1 + k * 3, none⟩ = some (.int .i64 pi) := HRG.out 0 _ rfl
                  have r1 : wr.cell? ⟨c0, c1 + k * 3 + 1, none⟩ = some (.int .i64 si) := HRG.out 1 _ rfl
                  have r2 : wr.cell? ⟨c0, c1 + k * 3 + 2, none⟩ = some (.int .i64 ra) := HRG.out 2 _ rfl
                  go_wp2_with fail
                  refine (HAC.out _ ((Below.refl _ _).alloc (Nat.le_refl _) _)).mono ?_
                  rintro e w12 ⟨rfl, hb12⟩
                  have hbx := (hb12.block wr.heap.size (by simp)).trans (heap_alloc_new wr (.cells #[.int .i64 pi, .int .i64 si, .int .i64 ra] 110))
                  have hbw : Below wr.heap.size wr w12 := ((Below.refl _ _).alloc (Nat.le_refl _) _).trans (hb12.mono (by simp))
                  have hbc := (HO.out.below HM.out.below).lt
                  have x0' := (hbw.cell (p := ⟨c, co + u * 4, none⟩) hbc).trans x0
                  have cw' := (hbw.cell (p := ⟨cc, cco + pi, none⟩) hccl).trans hcw
                  obtain ⟨t0, t1, t2, tz⟩ := blk3 hbx
                  have hz12 := lt_of_block hbx
                  have HB12 := Lib.hid hbw
                  have HX12 := Lib.hid hbx
                  have kpn : (pi : Int) < v.n := by omega
                  have hc12 : c < w12.heap.size := Nat.lt_of_lt_of_le hbc HB12.out.size
                  have hcc12 : cc < w12.heap.size := Nat.lt_of_lt_of_le hccl HB12.out.size
                  have hnc : w12.heap.size ≠ c := by omega
                  have hncc : w12.heap.size ≠ cc := by omega
                  have hnr : w12.heap.size ≠ wr.heap.size := by omega
                  have HS := Lib.hid (And.intro x0' (And.intro t0 cw'))
                  clear hb12 hbx hbw HAC x0 x3 r0 r1 r2 hcw
                  go_upto_region 33 with fail
                  go_cut [27, 28] from 167 to 179 (fun v27 v28 wx => ∃ b27 : Nat, v27 = .pointer (some ⟨b27, 0, none⟩) ∧ w12.heap.size ≤ b27 ∧ Below w12.heap.size w12 wx ∧ wx.heap[b27]? = some (.cells #[.int .i64 op, .int .i64 da, .int .i64 db, .int .i64 dc, .int .i64 0] 24 (0, 0)))
                  case first =>
                    go_region_held3 (fun w' => w'.cell? ⟨c, co + u * 4, none⟩ = some (.slice (some ⟨cc, cco, none⟩) v.n v.kn) ∧ w'.cell? ⟨wr.heap.size, 0, none⟩ = some (.int .i64 pi) ∧ w'.cell? ⟨cc, cco + pi, none⟩ = some (.int .u32 wv)) (go_keep) (first | (go_at_call 12; (with_reducible refine (HDC.out _).mono ?_); rintro e w' ⟨rfl, hb⟩; have hb2 : Below w12.heap.size w12 w' := Below.trans (by repeat (first | exact Below.refl _ _ | refine Below.drew ?_ | refine Below.alloc ?_ (by simp) _)) (hb.mono (by simp)); have x5 := (hb2.cell (p := ⟨c, co + u * 4, none⟩) hc12).trans HS.out.1; have x6 := (hb2.cell (p := ⟨wr.heap.size, 0, none⟩) hz12).trans HS.out.2.1; have x7 := (hb2.cell (p := ⟨cc, cco + pi, none⟩) hcc12).trans HS.out.2.2; (try (have hzz := (hb.block w12.heap.size (by simp; done)).trans (heap_alloc_new w12 _); obtain ⟨z0, z1, z2, z3, z4, zz⟩ := blk5 hzz; have hlz := lt_of_block hzz; have HZZ := Lib.hid hzz; clear hzz)); have HB2 := Lib.hid hb2; clear hb hb2))
                    all_goals go_wp2_with fail
                    all_goals go_meet
                    all_goals first
                      | exact ⟨_, rfl, HB2.out.size, HB2.out.alloc HB2.out.size _, heap_alloc_new _ _⟩
                      | exact ⟨_, rfl, Nat.le_refl _, ((((HB2.out.setCell (Nat.le_refl _) _).setCell (Nat.le_refl _) _).setCell (Nat.le_refl _) _).setCell (Nat.le_refl _) _).setCell (Nat.le_refl _) _, by have h5 := set5 (.int .i64 op) (.int .i64 da) (.int .i64 db) (.int .i64 dc) (.int .i64 0) HZZ.out; exact h5⟩
                  case rest =>
                    obtain ⟨b27, rfl, hb0, hbe, hblk⟩ := hcut
                    have hb1 : wr.heap.size < b27 := by omega
                    clear t0 t1 t2 tz x0' cw' HS hnc hncc hnr hc12 hcc12
                    have hxc := (hbe.block _ hz12).trans HX12.out
                    obtain ⟨t0, t1, t2, tz⟩ := blk3 hxc
                    have HXC := Lib.hid ((heap_setCell_other wc ⟨b27, 4, none⟩ wr.heap.size (.int .i64 (ad + ra)) (by simp; omega)).trans hxc)
                    clear hxc
                    obtain ⟨z0, z1, z2, z3, z4, zz⟩ := blk5 hblk
                    have hbz := lt_of_block hblk
                    have HBE : Hid (Below wr.heap.size wr (wc.setCell ⟨b27, 4, none⟩ (.int .i64 (ad + ra)))) := Lib.hid (HB12.out.trans ((hbe.setCell hb0 _).mono (by omega)))
                    have HBK := Lib.hid (set_last5 (.int .i64 (ad + ra)) hblk)
                    clear hbe hblk HB12 HX12
                    rcases Decidable.em (Cp.mayE op da db dc (ad + ra) = 0) with hme | hme
                    · obtain ⟨x, hx⟩ : ∃ x, x = Cp.encN op da db dc (ad + ra) := ⟨_, rfl⟩
                      have henc : ∀ w' : World, Calls Try.prog 64 #[.agg #[.int .i64 op, .int .i64 da, .int .i64 db, .int .i64 dc, .int .i64 (ad + ra)]] w' fun e w'' => e = .returned (.tuple #[.int .u32 x, .int .i64 0]) ∧ Below w'.heap.size w' w'' := fun w' => by
                        have := rencode_any op da db dc (ad + ra) w'
                        rw [hme, if_pos rfl, ← hx] at this
                        exact this
                      have hru : relK os u L (k + 1) = .ok (L2.set (2 + cb + pi) x) := by
                        rw [relK, HRK.out]
                        exact HRST.out.2 x (by rw [HRW.out, if_pos hme, hx])
                      have HENC := Lib.hid henc
                      have HRU := Lib.hid hru
                      clear henc hme hx hru
                      go_wp2_with fail
                      refine (HENC.out _).mono ?_
                      rintro e w13 ⟨rfl, hb13⟩
                      have hm13 := HM.out.go (HBE.out.trans (hb13.mono HBE.out.size))
                      have hx13 := (hb13.block wr.heap.size (lt_of_block HXC.out)).trans HXC.out
                      have HM13 := Lib.hid hm13
                      clear t0 t1 t2 tz z0 z1 z2 z3 z4 zz hb13 HBE HBK HXC HENC hm13
                      obtain ⟨t0, t1, t2, tz⟩ := blk3 hx13
                      obtain ⟨y0, y1, y2, yz⟩ := blk3 HM13.out.box
                      clear hx13
                      have hq : 2 + cb + pi < N := by omega
                      have hqc := HM13.out.rc
                      rw [HLL2.out] at hqc
                      have hw := hqc.cellAt (2 + cb + pi) (by omega)
                      have hwf := hqc.frozenAt (2 + cb + pi)
                      obtain ⟨wo, hwo⟩ : ∃ wo, wo = L2.getD (2 + cb + pi) 0 := ⟨_, rfl⟩
                      have hw2 : w13.cell? ⟨g, 2 + cb + pi, none⟩ = some (.int .u32 wo) := by
                        rw [hw, hwo]
                        unfold u32s
                        rw [List.getElem?_map, List.getD_eq_getElem?_getD, List.getElem?_eq_getElem (by rw [HLL2.out]; exact hq)]
                        rfl
                      have hqn : (2 + (cb : Int) + (pi : Int)).toNat = 2 + cb + pi := by omega
                      have hq1 : (2 + (cb : Int) + (pi : Int)) < N := by omega
                      have hq2 : 0 ≤ (2 + (cb : Int) + (pi : Int)) := by omega
                      clear hw hqc hwo
                      go_wp2_with fail
                      go_roundg (v.r - (k + 1))
                      case measure => have := HGK.out; omega
                      case rel => exact ⟨k + 1, _, hlt2, rfl, by go_num, HRU.out, by rw [List.length_set]; exact HLL2.out, HM13.out.word_at HLL2.out _ _⟩
                    · obtain ⟨er, her⟩ : ∃ er, er = Cp.mayE op da db dc (ad + ra) := ⟨_, rfl⟩
                      have henc : ∀ w' : World, Calls Try.prog 64 #[.agg #[.int .i64 op, .int .i64 da, .int .i64 db, .int .i64 dc, .int .i64 (ad + ra)]] w' fun e w'' => e = .returned (.tuple #[.int .u32 0, .int .i64 er]) ∧ Below w'.heap.size w' w'' := fun w' => by
                        have := rencode_any op da db dc (ad + ra) w'
                        rw [if_neg hme, ← her] at this
                        exact this
                      obtain rfl : res = .error (u, 6, k) := HRS.out.2 _ (rel_error HRE.out HRK.out (by rw [HRL.out, HRL2.out]; exact hlt2) (HRST.out.1 (by rw [HRW.out, if_neg hme])) hlu)
                      have hne : (er == 0) = false := beq_eq_false_iff_ne.2 (by rw [her]; exact hme)
                      have hne2 : (er != 0) = true := by unfold bne; rw [hne]; rfl
                      have HENC := Lib.hid henc
                      clear henc hme her
                      go_wp2_with fail
                      refine (HENC.out _).mono ?_
                      rintro e w13 ⟨rfl, hb13⟩
                      have hm13 := HM.out.go (HBE.out.trans (hb13.mono HBE.out.size))
                      have HM13 := Lib.hid hm13
                      clear t0 t1 t2 tz z0 z1 z2 z3 z4 zz hb13 HBE HBK HXC HENC hm13 hbm3 hbm4
                      obtain ⟨i0, i1, i2, iz⟩ := blk3 HM13.out.img
                      obtain ⟨q0, q1, q2, qz⟩ := blk3 HM13.out.trb
                      obtain ⟨hbm3, hbm4⟩ : bm < w13.heap.size ∧ w.heap.size + 1 < w13.heap.size := ⟨HM13.out.size, by have := HM13.out.size; omega⟩
                      go_wp2_with fail
                      refine bodyPost_ret (v := .tuple #[.agg #[.slice none 0 0, .slice none 0 0, .int .i64 0], .slice none 0 0, .agg #[.int .i64 u, .int .i64 6, .int .i64 k]]) (by simp [results, Try.results31, go_sem, i0, i1, i2, q0, q1, q2]) rfl (show LkTells _ _ _ _ _ from ⟨rfl, ?_⟩)
                      clear i0 i1 i2 iz q0 q1 q2 qz
                      have hB := HM13.out.below
                      exact (((((hB.setCell (by simp) _).setCell (by simp) _).setCell (by simp) _).setCell (by simp) _).setCell (by simp) _).setCell (by simp) _
                · obtain rfl : k = v.r := by omega
                  have HRU : Hid (relU os (code0 os) (u + 1) = .ok L2) := Lib.hid (by
                    rw [relU, HRE.out]
                    simp only
                    rw [HRL.out, HRL2.out]
                    exact HRK.out)
                  go_wp2_with fail
                  go_roundg (n - (u + 1))
                  case measure => have := HG.out; omega
                  case rel => exact ⟨u + 1, _, hlt, rfl, by go_num, HRU.out, HLL2.out, HM.out⟩
            · obtain rfl : n = u := by omega
              obtain rfl : res = .ok (L, dataTo os n, rngTo os n) := by
                rw [HRS.out.1 L (by rw [HNL.out]; exact HRE.out), HNL.out]
              obtain ⟨y0, y1, y2, yz⟩ := blk3 HM.out.box
              obtain ⟨i0, i1, i2, iz⟩ := blk3 HM.out.img
              obtain ⟨r0, r1, r2, rz⟩ := blk3 HM.out.trb
              go_wp2_with fail
              refine bodyPost_ret (v := .tuple #[.agg #[.slice (some ⟨g, 0, none⟩) N kc, .slice pd D kd, .int .i64 mem], u16, .agg #[.int .i64 0, .int .i64 0, .int .i64 0]]) (by simp [results, Try.results31, go_sem, i0, i1, i2, r0, r1, r2]) rfl (show LkTells _ _ _ _ _ from ⟨_, _, _, rfl, ?_, ?_, ?_, ?_⟩)
              · have hB := HM.out.below
                repeat (first | (with_reducible exact hB) | (with_reducible refine Below.setCell ?_ (by simp) _) | (with_reducible refine Below.drew ?_))
              · have hB := HM.out.rc
                repeat (first | (with_reducible exact hB) | (with_reducible refine ownsRow_setCell_below ?_ (by simp) _) | (with_reducible refine World.ownsRow.drew ?_))
              · have hB := HM.out.rd
                repeat (first | (with_reducible exact hB) | (with_reducible refine ownsRow_setCell_below ?_ (by simp) _) | (with_reducible refine World.ownsRow.drew ?_))
              · have hB := HM.out.rr
                repeat (first | (with_reducible exact hB) | (with_reducible refine ownsRow_setCell_below ?_ (by simp) _) | (with_reducible refine World.ownsRow.drew ?_))
  · have hne : (T2 == 0) = false := beq_eq_false_iff_ne.2 h0
    have hne2 : (T2 != 0) = true := by unfold bne; rw [hne]; rfl
    obtain rfl : res = .error (T1, T2, T3) := by
      rw [HRES.out, linkR_check (fun e => by rw [← HT.out] at e; exact h0 (by injection e with _ e; injection e)), HT.out]
    clear h0
    obtain ⟨i0, i1, i2, iz⟩ := blk3 HI2.out
    obtain ⟨r0, r1, r2, rz⟩ := blk3 HT2.out
    go_wp2_with fail
    go_region
    all_goals go_wp2_with fail
    all_goals
      refine bodyPost_ret (v := .tuple #[.agg #[.slice none 0 0, .slice none 0 0, .int .i64 0], .slice none 0 0, .agg #[.int .i64 T1, .int .i64 T2, .int .i64 T3]]) (by simp [results, Try.results31, go_sem, i0, i1, i2, r0, r1, r2]) rfl (show LkTells _ _ _ _ _ from ⟨rfl, ?_⟩)
      clear i0 i1 i2 iz r0 r1 r2 rz y0 y1 y2 yz
      have hB := HB2.out
      exact ((((((hB.setCell (by simp) _).setCell (by simp) _).setCell (by simp) _).setCell (by simp) _).setCell (by simp) _).setCell (by simp) _).drew

end Go.Proofs.Ythnehhidlaggeaa
