/- scarfjointref18.Home: the walk. -/
import Derived.Test.YthnehhidlaggeaaLinkMem
import Derived.Test.YthnehhidlaggeaaObjBytes
namespace Go.Proofs.Ythnehhidlaggeaa
set_option linter.unusedVariables false
set_option linter.unusedSimpArgs false
open Go.RowKit Ob

def homeI (os : List Ob.Obj) (nm : List UInt8) : Int × Int := match home os nm with
  | some (u, i) => (u, i)
  | none => (-1, 0)
theorem homeI_some {os : List Ob.Obj} {nm : List UInt8} {u i : Nat} (h : home os nm = some (u, i)) : homeI os nm = ((u : Int), (i : Int)) := by unfold homeI; rw [h]
theorem homeI_none {os : List Ob.Obj} {nm : List UInt8} (h : home os nm = none) : homeI os nm = (-1, 0) := by unfold homeI; rw [h]

set_option maxRecDepth 100000 in
set_option maxHeartbeats 2000000 in
theorem home_any (c co n kap : Nat) (vs : List OV) (os : List Ob.Obj) (nm : ByteArray) (w : World) (ho : ObjsAt w c co n vs os) (hn : n ≤ 4) :
    Calls Try.prog 62 #[.slice (some ⟨c, co, none⟩) n kap, .string nm] w fun e w' => e = .returned (.tuple #[.int .i64 (homeI os nm.data.toList).1, .int .i64 (homeI os nm.data.toList).2]) ∧ Below w.heap.size w w' := by
  obtain ⟨L, hL⟩ : ∃ L, L = nm.data.toList := ⟨_, rfl⟩
  rw [← hL]
  have HL := Lib.hid hL
  have HO := Lib.hid ho
  obtain ⟨A, hA⟩ : ∃ A, A = (homeI os L).1 := ⟨_, rfl⟩
  obtain ⟨B, hB⟩ : ∃ B, B = (homeI os L).2 := ⟨_, rfl⟩
  rw [← hA, ← hB]
  have HA := Lib.hid hA
  have HBB := Lib.hid hB
  clear hL ho hA hB
  go_enter Try.func62, Try.ntmps62
  go_wp2_with fail
  go_loopg [6] n (fun gk v6 wr => ∃ u : Nat, u ≤ n ∧ gk = n - u ∧ v6 = .int .i64 u ∧ Below w.heap.size w wr ∧ (∀ j (hj : j < os.length), j < u → firstFrom (homeF L j) 0 os[j].syms = none))
  case atStart => exact ⟨0, by omega, rfl, rfl, Below.refl _ _, fun j hj h => by omega⟩
  case round =>
    obtain ⟨u, hu, hg, rfl, hb, hno⟩ := hrel
    have HG := Lib.hid hg
    have HB := Lib.hid hb
    have HNO := Lib.hid hno
    clear hg hb hno
    by_cases hlt : u < n
    · have hdu : decide ((u : Int) < n) = true := decide_eq_true (by omega)
      have hul : u < os.length := by rw [HO.out.nl]; exact hlt
      obtain ⟨v, o, hv, hou⟩ := HO.out.some hlt
      have hoe : os[u] = o := (List.getElem?_eq_some_iff.1 hou).2
      have HV := Lib.hid hv
      have HOU := Lib.hid hou
      have HOE := Lib.hid hoe
      obtain ⟨_, _, x2, _, hobj⟩ := (HO.out.below HB.out).get hlt hv hou
      have hml := hobj.ml
      have hvm : v.m ≤ 9223372036854775807 := hobj.mb
      have HML := Lib.hid hml
      clear hv hou hoe hobj hml
      go_wp2_with fail
      obtain ⟨wo, hwo⟩ : ∃ wo : World, wo = wr := ⟨_, rfl⟩
      rw [← hwo] at HB x2 ⊢
      clear hwo
      go_loopg [7] v.m (fun gk v7 wi => ∃ i : Nat, i ≤ v.m ∧ gk = v.m - i ∧ v7 = .int .i64 i ∧ Below wo.heap.size wo wi ∧ (∀ k (hk : k < os[u].syms.length), k < i → homeF L u k os[u].syms[k] = none))
      case atStart => exact ⟨0, by omega, rfl, rfl, Below.refl _ _, fun j hj h => by omega⟩
      case round =>
        clear x2
        obtain ⟨i, hi, hgi, rfl, hbi, hnoi⟩ := hrel
        have HGI := Lib.hid hgi
        have HBI := Lib.hid hbi
        have HNOI := Lib.hid hnoi
        obtain ⟨_, _, x2, _, hobj⟩ := (HO.out.below (HB.out.trans (hbi.mono HB.out.size))).get hlt HV.out HOU.out
        have HOBJ := Lib.hid hobj
        clear hgi hbi hnoi hobj
        by_cases hlt2 : i < v.m
        · obtain ⟨c0, c1, hps, hc0, hi', hrange⟩ := HOBJ.out.sym hlt2
          obtain ⟨s, hs⟩ : ∃ s, o.syms[i] = s := ⟨_, rfl⟩
          rw [hs] at hrange
          have hiu : i < os[u].syms.length := by rw [HOE.out]; exact hi'
          have HS : Hid (os[u].syms[i] = s) := Lib.hid (by
            have := HOE.out
            subst this
            exact hs)
          have HRG := Lib.hid hrange
          rw [hps] at x2
          have HPS := Lib.hid hps
          clear hs hrange hps
          have hst := sym_store s
          go_wp2_with (refine wpList_load_mid (by rfl) 106 (.tmp 31) (by rfl) c0 (c1 + i * 7) (by rfl) [.string s.name, .int .i64 s.kind, .bool s.static, .int .i64 s.pos, .int .i64 s.size, .string s.sign, .int .i64 s.frame] _ HRG.out Try.underlying106 (by rfl) (by kernel_rfl) ?_)
          obtain ⟨t1, ht1⟩ : ∃ t1, t1 = ownK s := ⟨_, rfl⟩
          have hown := fun w => own_any s w
          rw [← ht1] at hown
          unfold symV at hown
          have HOWN := Lib.hid hown
          have HT1 := Lib.hid ht1
          clear hown ht1 hst x2
          refine (HOWN.out _).mono ?_
          rintro e w3 ⟨rfl, hb3⟩
          have hbx := (hb3.block wr.heap.size (by simp)).trans (heap_alloc_new wr (.cells #[.string s.name, .int .i64 s.kind, .bool s.static, .int .i64 s.pos, .int .i64 s.size, .string s.sign, .int .i64 s.frame] 106))
          obtain ⟨y0, y1, y2, y3, y4, y5, y6, yz⟩ := blk7 hbx
          have hlx := lt_of_block hbx
          have HBI3 : Hid (Below wo.heap.size wo w3) := Lib.hid ((HBI.out.alloc HBI.out.size _).trans (hb3.mono (by have := HBI.out.size; simp; omega)))
          clear hb3 hbx
          cases t1
          · have hs0 : True := trivial
            have HNX : Hid (homeF L u i os[u].syms[i] = none) := Lib.hid (by
              rw [HS.out]
              unfold homeF
              rw [← HT1.out]; rfl)
            go_wp2_with fail
            go_roundg (v.m - (i + 1))
            case measure => have := HGI.out; omega
            case rel => exact ⟨i + 1, hlt2, rfl, by go_num, HBI3.out, fun k hk hki => by
              by_cases e : k < i
              · exact HNOI.out k hk e
              · obtain rfl : k = i := by omega
                exact HNX.out⟩
          · cases hst2 : s.static
            · obtain ⟨t2, ht2⟩ : ∃ t2 : Bool, (s.name.toList == nm.toList) = t2 := ⟨_, rfl⟩
              rw [hst2] at y2
              cases t2
              · have HST2 := Lib.hid hst2
                have HT2 := Lib.hid ht2
                clear hst2
                have HNX : Hid (homeF L u i os[u].syms[i] = none) := Lib.hid (by
                  rw [HS.out]
                  unfold homeF
                  have h9 : (nameOf s == L) = false := by
                    rw [HL.out]
                    unfold nameOf
                    have h8 := HT2.out
                    rw [ByteArray.toList_eq, ByteArray.toList_eq] at h8
                    exact h8
                  rw [h9, Bool.and_false]
                  rfl)
                go_wp2_with fail
                go_roundg (v.m - (i + 1))
                case measure => have := HGI.out; omega
                case rel => exact ⟨i + 1, hlt2, rfl, by go_num, HBI3.out, fun k hk hki => by
                  by_cases e : k < i
                  · exact HNOI.out k hk e
                  · obtain rfl : k = i := by omega
                    exact HNX.out⟩
              · have hhome : home os L = some (u, i) := by
                  refine firstFrom_some _ _ 0 u hul (u, i) (fun j hj hju => by simpa using HNO.out j hj hju) ?_
                  simp only [Nat.zero_add]
                  refine firstFrom_some _ _ 0 i hiu (u, i) (fun k hk hki => by simpa using HNOI.out k hk hki) ?_
                  simp only [Nat.zero_add]
                  rw [HS.out]
                  unfold homeF
                  have h9 : (nameOf s == L) = true := by
                    rw [HL.out]
                    unfold nameOf
                    rw [ByteArray.toList_eq, ByteArray.toList_eq] at ht2
                    exact ht2
                  rw [← HT1.out, hst2, h9]
                  rfl
                have hA := HA.out
                have hB := HBB.out
                rw [homeI_some hhome] at hA hB
                simp only at hA hB
                subst hA hB
                clear hst2 hhome
                go_wp2_with fail
                go_ret2
                exact ⟨rfl, HB.out.trans (HBI3.out.mono HB.out.size)⟩
            · have HST2 := Lib.hid hst2
              rw [hst2] at y2
              clear hst2
              have HNX : Hid (homeF L u i os[u].syms[i] = none) := Lib.hid (by
                rw [HS.out]
                unfold homeF
                rw [HST2.out]; simp)
              go_wp2_with fail
              go_roundg (v.m - (i + 1))
              case measure => have := HGI.out; omega
              case rel => exact ⟨i + 1, hlt2, rfl, by go_num, HBI3.out, fun k hk hki => by
                by_cases e : k < i
                · exact HNOI.out k hk e
                · obtain rfl : k = i := by omega
                  exact HNX.out⟩
        · obtain rfl : i = v.m := by omega
          have HNX : Hid (firstFrom (homeF L u) 0 os[u].syms = none) := Lib.hid (firstFrom_none _ _ 0 (fun j hj => by
            rw [Nat.zero_add]
            exact HNOI.out j hj (by have := HML.out; have := HOE.out; subst this; omega)))
          go_wp2_with fail
          go_roundg (n - (u + 1))
          case measure => have := HG.out; omega
          case rel => exact ⟨u + 1, hlt, rfl, by go_num, HB.out.trans (HBI.out.mono HB.out.size), fun j hj hju => by
            by_cases e : j < u
            · exact HNO.out j hj e
            · obtain rfl : j = u := by omega
              exact HNX.out⟩
    · have hhome : home os L = none := firstFrom_none _ _ 0 (fun j hj => by
        rw [Nat.zero_add]
        exact HNO.out j hj (by rw [HO.out.nl] at hj; omega))
      have hA := HA.out
      have hB := HBB.out
      rw [homeI_none hhome] at hA hB
      simp only at hA hB
      subst hA hB
      clear hhome
      go_wp2_with fail
      go_ret2
      exact ⟨rfl, HB.out⟩

end Go.Proofs.Ythnehhidlaggeaa

/-! scarfjointref18.Before, Address: the walks. -/
namespace Go.Proofs.Ythnehhidlaggeaa
set_option linter.unusedVariables false
set_option linter.unusedSimpArgs false
open Go.RowKit Ob

set_option maxRecDepth 100000 in
set_option maxHeartbeats 1000000 in
theorem before_any (c co n kap : Nat) (vs : List OV) (os : List Ob.Obj) (u : Nat) (w : World) (ho : ObjsAt w c co n vs os) (hn : n ≤ 4) (hu : u ≤ n) (hf : ∀ o ∈ os, few o) :
    Calls Try.prog 65 #[.slice (some ⟨c, co, none⟩) n kap, .int .i64 u] w fun e w' => e = .returned (.tuple #[.int .i64 (codeB os u : Nat), .int .i64 (dataB os u : Nat)]) ∧ Below w.heap.size w w' := by
  have HO := Lib.hid ho
  have HF := Lib.hid hf
  clear ho hf
  go_enter Try.func65, Try.ntmps65
  go_wp2_with fail
  go_loopg [6, 7, 8] u (fun gk v6 v7 v8 wr => ∃ j x y : Nat, j ≤ u ∧ gk = u - j ∧ x = codeB os j ∧ y = dataB os j ∧ v6 = .int .i64 x ∧ v7 = .int .i64 y ∧ v8 = .int .i64 j ∧ Below w.heap.size w wr)
  case atStart => exact ⟨0, 0, 0, by omega, rfl, by simp [codeB], by simp [dataB], rfl, rfl, rfl, Below.refl _ _⟩
  case round =>
    obtain ⟨j, x, y, hj, hg, hx, hy, rfl, rfl, rfl, hb⟩ := hrel
    have HG := Lib.hid hg
    have HX := Lib.hid hx
    have HY := Lib.hid hy
    have HB := Lib.hid hb
    have hx4 : x ≤ 24000 := by have := codeB_le os HF.out j (by rw [HO.out.nl]; omega); omega
    have hy4 : y ≤ 64000 := by have := dataB_le os HF.out j (by rw [HO.out.nl]; omega); omega
    clear hg hx hy hb
    by_cases hlt : j < u
    · obtain ⟨v, o, hv, hou⟩ := HO.out.some (show j < n by omega)
      obtain ⟨x0, x1, _, _, hobj⟩ := (HO.out.below HB.out).get (show j < n by omega) hv hou
      have hjl : j < os.length := by rw [HO.out.nl]; omega
      have hoe : os[j] = o := (List.getElem?_eq_some_iff.1 hou).2
      have hfe := HF.out o (List.mem_of_getElem? hou)
      unfold few at hfe
      have hnl := hobj.nl
      have hdl := hobj.dl
      have hn6 : v.n ≤ 6000 := by omega
      have hd6 : v.d ≤ 16000 := by omega
      have HXN : Hid (x + v.n = codeB os (j + 1)) := Lib.hid (by rw [codeB_succ os j hjl, hoe, hnl, HX.out])
      have HYN : Hid (y + v.d = dataB os (j + 1)) := Lib.hid (by rw [dataB_succ os j hjl, hoe, hdl, HY.out])
      have hjn : j < n := by omega
      clear hv hou hobj hoe hfe hnl hdl
      go_wp2_with fail
      go_roundg (u - (j + 1))
      case measure => have := HG.out; omega
      case rel => exact ⟨j + 1, x + v.n, y + v.d, hlt, rfl, HXN.out, HYN.out, by go_num, by go_num, by go_num, HB.out⟩
    · obtain rfl : j = u := by omega
      have hx := HX.out
      have hy := HY.out
      subst hx hy
      go_wp2_with fail
      go_ret2
      exact ⟨rfl, HB.out⟩

theorem fine_of {os : List Ob.Obj} (hm : ∀ o ∈ os, mayB o = true) : (∀ o ∈ os, few o) ∧ ∀ o ∈ os, ∀ s ∈ o.syms, SymFine s := ⟨fun o h => (mayB_fine (hm o h)).few, fun o h => (mayB_fine (hm o h)).syms⟩

set_option maxRecDepth 100000 in
set_option maxHeartbeats 1000000 in
theorem addr_own (c co n kap : Nat) (vs : List OV) (os : List Ob.Obj) (u i : Nat) (s : Ob.Sym) (w : World) (ho : ObjsAt w c co n vs os) (hn : n ≤ 4) (hs : symAt os u i = some s) (hown : ownK s = true) (hm : ∀ o ∈ os, mayB o = true) :
    Calls Try.prog 63 #[.slice (some ⟨c, co, none⟩) n kap, .int .i64 u, .int .i64 i] w fun e w' => e = .returned (.int .i64 (addrOwn os u s)) ∧ Below w.heap.size w w' := by
  have hnl := ho.nl
  obtain ⟨o, hou, hoi⟩ := Option.bind_eq_some_iff.1 hs
  obtain ⟨hul, hoe⟩ := List.getElem?_eq_some_iff.1 hou
  obtain ⟨hil, hse⟩ := List.getElem?_eq_some_iff.1 hoi
  have hun : u < n := by omega
  obtain ⟨v, o2, hv, ho2⟩ := ho.some hun
  obtain rfl : o = o2 := Option.some.inj (hou.symm.trans ho2)
  obtain ⟨_, _, x2, _, hobj⟩ := ho.get hun hv hou
  have hvm : v.m ≤ 9223372036854775807 := hobj.mb
  have him : i < v.m := by rw [← hobj.ml]; exact hil
  obtain ⟨c0, c1, hps, hc0, hi', hrange⟩ := hobj.sym him
  rw [hse] at hrange
  rw [hps] at x2
  have hfi := (fine_of hm).2 o (List.mem_of_getElem? hou) s (List.mem_of_getElem? hoi)
  have hp := hfi.pos
  have hcb := codeB_le os (fine_of hm).1 u (by omega)
  have hca := codeB_le os (fine_of hm).1 os.length (Nat.le_refl _)
  have hda := dataB_le os (fine_of hm).1 u (by omega)
  have hb1 := fun w' (hb : Below w.heap.size w w') => before_any c co n kap vs os u w' (ho.below hb) hn (by omega) (fine_of hm).1
  have hb2 := fun w' (hb : Below w.heap.size w w') => before_any c co n kap vs os n w' (ho.below hb) hn (Nat.le_refl _) (fine_of hm).1
  obtain ⟨X, hX⟩ : ∃ X, X = addrOwn os u s := ⟨_, rfl⟩
  rw [← hX]
  obtain ⟨cb, hcbe⟩ : ∃ x : Nat, x = codeB os u := ⟨_, rfl⟩
  obtain ⟨ca, hcae⟩ : ∃ x : Nat, x = codeB os n := ⟨_, rfl⟩
  obtain ⟨da, hdae⟩ : ∃ x : Nat, x = dataB os u := ⟨_, rfl⟩
  unfold addrOwn at hX
  rw [hnl] at hca hX
  rw [← hcbe] at hcb hX hb1
  rw [← hcae] at hca hX hb2
  rw [← hdae] at hda hX hb1
  have hcb' : cb ≤ 24000 := by omega
  have hca' : ca ≤ 24000 := by omega
  have hda' : da ≤ 64000 := by omega
  have hoo := fun w => own_any s w
  rw [hown] at hoo
  unfold symV at hoo
  have HOO := Lib.hid hoo
  have HB1 := Lib.hid hb1
  have HB2 := Lib.hid hb2
  have HX := Lib.hid hX
  have HRG := Lib.hid hrange
  have hst := sym_store s
  clear ho hs hown hm hnl hou hoi hoe hse hv ho2 hobj hps hi' hfi hcb hca hda hb1 hb2 hX hcbe hcae hdae hoo hrange hul hil
  go_enter Try.func63, Try.ntmps63
  go_wp2_with (refine wpList_load_mid (by rfl) 106 (.tmp 20) (by rfl) c0 (c1 + i * 7) (by rfl) [.string s.name, .int .i64 s.kind, .bool s.static, .int .i64 s.pos, .int .i64 s.size, .string s.sign, .int .i64 s.frame] _ HRG.out Try.underlying106 (by rfl) (by kernel_rfl) ?_)
  clear hst x2
  refine (HOO.out _).mono ?_
  rintro e w1 ⟨rfl, hb⟩
  have hbx := (hb.block w.heap.size (by simp)).trans (heap_alloc_new w (.cells #[.string s.name, .int .i64 s.kind, .bool s.static, .int .i64 s.pos, .int .i64 s.size, .string s.sign, .int .i64 s.frame] 106))
  have HB := Lib.hid (((Below.refl w.heap.size w).alloc (Nat.le_refl _) (.cells #[.string s.name, .int .i64 s.kind, .bool s.static, .int .i64 s.pos, .int .i64 s.size, .string s.sign, .int .i64 s.frame] 106)).trans (hb.mono (by simp)))
  have HBX := Lib.hid hbx
  clear hb hbx
  go_wp2_with fail
  refine (HB1.out _ HB.out).mono ?_
  rintro e w2 ⟨rfl, hb⟩
  have hbx := (hb.block _ (lt_of_block HBX.out)).trans HBX.out
  have HC := Lib.hid (HB.out.trans (hb.mono HB.out.size))
  obtain ⟨y0, y1, y2, y3, y4, y5, y6, yz⟩ := blk7 hbx
  have HBX2 := Lib.hid hbx
  clear hb hbx HB HBX
  by_cases hk1 : s.kind = 1
  · have hX := HX.out
    rw [if_pos hk1] at hX
    subst hX
    have hkb : (s.kind == 1) = true := by simp [hk1]
    clear HX
    go_wp2_with fail
    go_ret
    exact ⟨rfl, HC.out⟩
  · have hX := HX.out
    rw [if_neg hk1] at hX
    subst hX
    have hkb : (s.kind == 1) = false := by simp [hk1]
    clear HX hk1
    go_wp2_with fail
    refine (HB2.out _ HC.out).mono ?_
    rintro e w3 ⟨rfl, hb⟩
    have hbx := (hb.block _ (lt_of_block HBX2.out)).trans HBX2.out
    have HD := Lib.hid (HC.out.trans (hb.mono HC.out.size))
    clear y0 y1 y2 y3 y4 y5 y6 yz
    obtain ⟨y0, y1, y2, y3, y4, y5, y6, yz⟩ := blk7 hbx
    clear hb hbx HC HBX2
    go_wp2_with fail
    go_ret
    exact ⟨rfl, HD.out⟩

set_option maxRecDepth 100000 in
set_option maxHeartbeats 1000000 in
theorem addr_out (c co n kap : Nat) (vs : List OV) (os : List Ob.Obj) (u i v k : Nat) (s h : Ob.Sym) (w : World) (ho : ObjsAt w c co n vs os) (hn : n ≤ 4) (hs : symAt os u i = some s) (hown : ownK s = false) (hh : home os (nameOf s) = some (v, k)) (hsh : symAt os v k = some h) (hownh : ownK h = true) (hm : ∀ o ∈ os, mayB o = true) :
    Calls Try.prog 63 #[.slice (some ⟨c, co, none⟩) n kap, .int .i64 u, .int .i64 i] w fun e w' => e = .returned (.int .i64 (addrOwn os v h)) ∧ Below w.heap.size w w' := by
  have hnl := ho.nl
  obtain ⟨o, hou, hoi⟩ := Option.bind_eq_some_iff.1 hs
  obtain ⟨hul, hoe⟩ := List.getElem?_eq_some_iff.1 hou
  obtain ⟨hil, hse⟩ := List.getElem?_eq_some_iff.1 hoi
  have hun : u < n := by omega
  obtain ⟨vv, o2, hv, ho2⟩ := ho.some hun
  obtain rfl : o = o2 := Option.some.inj (hou.symm.trans ho2)
  obtain ⟨_, _, x2, _, hobj⟩ := ho.get hun hv hou
  have hvm : vv.m ≤ 9223372036854775807 := hobj.mb
  have him : i < vv.m := by rw [← hobj.ml]; exact hil
  obtain ⟨c0, c1, hps, hc0, hi', hrange⟩ := hobj.sym him
  rw [hse] at hrange
  rw [hps] at x2
  have hhc := fun w' (hb : Below w.heap.size w w') => home_any c co n kap vs os s.name w' (ho.below hb) hn
  have hhi : homeI os s.name.data.toList = ((v : Int), (k : Int)) := homeI_some hh
  rw [hhi] at hhc
  have hac := fun w' (hb : Below w.heap.size w w') => addr_own c co n kap vs os v k h w' (ho.below hb) hn hsh hownh hm
  have hoo := fun w => own_any s w
  rw [hown] at hoo
  unfold symV at hoo
  have HOO := Lib.hid hoo
  have HHC := Lib.hid hhc
  have HAC := Lib.hid hac
  have HRG := Lib.hid hrange
  have hst := sym_store s
  clear ho hs hown hm hnl hou hoi hoe hse hv ho2 hobj hps hi' hoo hrange hul hil hh hsh hownh hhc hhi hac
  go_enter Try.func63, Try.ntmps63
  go_wp2_with (refine wpList_load_mid (by rfl) 106 (.tmp 20) (by rfl) c0 (c1 + i * 7) (by rfl) [.string s.name, .int .i64 s.kind, .bool s.static, .int .i64 s.pos, .int .i64 s.size, .string s.sign, .int .i64 s.frame] _ HRG.out Try.underlying106 (by rfl) (by kernel_rfl) ?_)
  clear hst x2
  refine (HOO.out _).mono ?_
  rintro e w1 ⟨rfl, hb⟩
  have hbx := (hb.block w.heap.size (by simp)).trans (heap_alloc_new w (.cells #[.string s.name, .int .i64 s.kind, .bool s.static, .int .i64 s.pos, .int .i64 s.size, .string s.sign, .int .i64 s.frame] 106))
  have HB := Lib.hid (((Below.refl w.heap.size w).alloc (Nat.le_refl _) (.cells #[.string s.name, .int .i64 s.kind, .bool s.static, .int .i64 s.pos, .int .i64 s.size, .string s.sign, .int .i64 s.frame] 106)).trans (hb.mono (by simp)))
  obtain ⟨y0, y1, y2, y3, y4, y5, y6, yz⟩ := blk7 hbx
  clear hb hbx
  go_wp2_with fail
  refine (HHC.out _ HB.out).mono ?_
  rintro e w2 ⟨rfl, hb⟩
  have HC := Lib.hid (HB.out.trans (hb.mono HB.out.size))
  clear hb HB y0 y1 y2 y3 y4 y5 y6 yz
  go_wp2_with fail
  refine (HAC.out _ HC.out).mono ?_
  rintro e w3 ⟨rfl, hb⟩
  have HD := Lib.hid (HC.out.trans (hb.mono HC.out.size))
  clear hb HC
  go_wp2_with fail
  go_ret
  exact ⟨rfl, HD.out⟩

theorem addr_any (c co n kap : Nat) (vs : List OV) (os : List Ob.Obj) (u i : Nat) (s : Ob.Sym) (w : World) (ho : ObjsAt w c co n vs os) (hn : n ≤ 4) (hs : symAt os u i = some s) (hh : ownK s = true ∨ ∃ x, home os (nameOf s) = some x) (hm : ∀ o ∈ os, mayB o = true) :
    Calls Try.prog 63 #[.slice (some ⟨c, co, none⟩) n kap, .int .i64 u, .int .i64 i] w fun e w' => e = .returned (.int .i64 (addrOf os u s)) ∧ Below w.heap.size w w' := by
  unfold addrOf
  cases hown : ownK s
  · rcases hh with h | ⟨⟨v, k⟩, hx⟩
    · rw [hown] at h; cases h
    · obtain ⟨o, hv, rfl, hk, h1, _, _⟩ := home_sym hx
      have hsh : symAt os v k = some os[v].syms[k] := by unfold symAt; rw [List.getElem?_eq_getElem hv, Option.bind_some, List.getElem?_eq_getElem hk]
      rw [hx, if_neg (by simp)]
      simp only [hsh]
      exact addr_out c co n kap vs os u i v k s _ w ho hn hs hown hx hsh h1 hm
  · rw [if_pos rfl]
    exact addr_own c co n kap vs os u i s w ho hn hs hown hm

end Go.Proofs.Ythnehhidlaggeaa
