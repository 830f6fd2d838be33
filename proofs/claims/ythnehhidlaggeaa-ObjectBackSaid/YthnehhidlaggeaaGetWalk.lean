/- object.reader.read: the walk. -/
import Derived.Test.YthnehhidlaggeaaGetMid
import Derived.Outline
import Derived.IntWalk
namespace Go.Proofs.Ythnehhidlaggeaa
set_option linter.unusedVariables false
set_option linter.unusedSimpArgs false
open Go.RowKit Ob

theorem Try.infoU32 : (Try.prog.info? 22).map (fun i => (i.zero, i.size, i.bytes)) = some (some (.int .u32 0), 1, 4) := by kernel_rfl
theorem Try.infoI32 : (Try.prog.info? 21).map (fun i => (i.zero, i.size, i.bytes)) = some (some (.int .i32 0), 1, 4) := by kernel_rfl
theorem Try.infoSym : (Try.prog.info? 106).map (fun i => (i.zero, i.size, i.bytes)) = some (some (.agg #[.string ⟨#[]⟩, .int .i64 0, .bool false, .int .i64 0, .int .i64 0, .string ⟨#[]⟩, .int .i64 0]), 7, 72) := by kernel_rfl
theorem Try.infoRel : (Try.prog.info? 110).map (fun i => (i.zero, i.size, i.bytes)) = some (some (.agg #[.int .i64 0, .int .i64 0, .int .i64 0]), 3, 24) := by kernel_rfl
/-- what read tells of bytes -/
def ReadPost (l : List UInt8) (w : World) (B pr : Nat) (e : Ending) (w' : World) : Prop :=
  (parse l = none ∧ e = shorts ∧ w.grownBy w' (some pr)) ∨
  ∃ o r, parse l = some (o, r) ∧ RdAt w' B pr r ∧ w.grownBy w' (some pr) ∧
    ∃ (pc pd ps pr' : Option Addr) (n kn d kd m km q kq : Nat), e = .returned (objV pc pd ps pr' n kn d kd m km q kq) ∧ ObjAt w' pc pd ps pr' n d m q o ∧ High (w.heap.size + 2) [pc, pd, ps, pr']

set_option maxRecDepth 100000 in
set_option maxHeartbeats 8000000 in
theorem read_any (B pr : Nat) (l : List UInt8) (w : World) (h : RdAt w B pr l) :
    Calls Try.prog 55 #[.pointer (some ⟨pr, 0, none⟩)] w (ReadPost l w B pr) := by
  have hlt : pr < w.heap.size := by
    obtain ⟨_, hp⟩ := h.box
    exact lt_of_block hp
  have hm0 : GMid w ((w.alloc (.cells #[.pointer (some ⟨pr, 0, none⟩)] 123)).alloc (.cells #[.slice none 0 0, .slice none 0 0, .slice none 0 0, .slice none 0 0] 60)) B pr l (.slice none 0 0) (.slice none 0 0) (.slice none 0 0) (.slice none 0 0) [] [] [] [] := by
    have h1 : (w.alloc (.cells #[.pointer (some ⟨pr, 0, none⟩)] 123)).heap.size = w.heap.size + 1 := by simp
    have hg : w.grownBy ((w.alloc (.cells #[.pointer (some ⟨pr, 0, none⟩)] 123)).alloc (.cells #[.slice none 0 0, .slice none 0 0, .slice none 0 0, .slice none 0 0] 60)) none := (World.grownBy_alloc w _ none).trans (World.grownBy_alloc _ _ none)
    refine ⟨⟨hg.os, hg.tape, hg.output, hg.size, fun k hk _ => hg.block k hk (by simp)⟩, h.grown hg (by simp) (by simp), hlt, (Below.heap_alloc _ _ _ (by rw [h1]; omega)).trans (heap_alloc_new w _), ?_, World.ownsRow_nil _ _ _ _, World.ownsRow_nil _ _ _ _, World.ownsRow_nil _ _ _ _, World.ownsRow_nil _ _ _ _⟩
    rw [← h1]
    exact heap_alloc_new _ _
  obtain ⟨iC, hiC, iCz, iCs, iCb⟩ := info_parts Try.infoU32
  obtain ⟨iD, hiD, iDz, iDs, iDb⟩ := info_parts Try.infoI32
  obtain ⟨iS, hiS, iSz, iSs, iSb⟩ := info_parts Try.infoSym
  obtain ⟨iR, hiR, iRz, iRs, iRb⟩ := info_parts Try.infoRel
  have HM := Lib.hid hm0
  clear h hm0
  go_enter Try.func55, Try.ntmps55
  go_wp2_with fail
  rcases e1 : cnt 4 l with _ | ⟨n, l1⟩
  · have HE := Lib.hid e1
    clear e1
    refine (count_none B pr 4 _ _ HM.out.rd (by omega) (by omega) HE.out).mono ?_
    rintro e w1 ⟨rfl, hg⟩
    exact ⟨rfl, .inl ⟨by unfold parse; rw [HE.out], rfl, HM.out.grown.trans hg⟩⟩
  have E1 := Lib.hid e1
  have b1 : n ≤ 4294967295 := by
    obtain ⟨x, hx, rfl, _⟩ := cnt_num e1
    have := num_bd hx
    omega
  clear e1
  refine (count_some B pr 4 n _ l1 _ HM.out.rd (by omega) (by omega) E1.out).mono ?_
  rintro e w1 ⟨rfl, hr, hg⟩
  have hm := HM.out.read hg hr
  clear hr hg HM
  obtain ⟨k0, k1, k2, k3, k4, kz⟩ := hm.cells
  have HM := Lib.hid hm
  clear hm
  go_wp2_with fail
  go_loopg [8] n (fun gk i wr => ∃ (k : Nat) (rest : List UInt8) (vc : Value) (xc : List Int), k ≤ n ∧ xc.length = k ∧ gk = n - k ∧ i = .int .i64 k ∧ many num k l1 = some (xc, rest) ∧ GMid w wr B pr rest vc (.slice none 0 0) (.slice none 0 0) (.slice none 0 0) xc [] [] [])
  case atStart => exact ⟨0, _, _, _, by omega, rfl, rfl, rfl, rfl, HM.out⟩
  case round =>
    obtain ⟨k, rest, vc, xc, hk, hxl, hgk, rfl, hp, hm⟩ := hrel
    have HG := Lib.hid hgk
    clear k0 k1 k2 k3 k4 kz HM
    obtain ⟨k0, k1, k2, k3, k4, kz⟩ := hm.cells
    have HM := Lib.hid hm
    have HP := Lib.hid hp
    have HXL := Lib.hid hxl
    have hxlb : xc.length ≤ 4294967295 := by omega
    clear hgk hm hp hxl
    by_cases hlt : k < n
    · have hki : (k : Int) < n := by omega
      rcases en : num rest with _ | ⟨x, r⟩
      · have HN := Lib.hid en
        have HNO : Hid (parse l = none) := by
          have hn : many num n l1 = none := many_none (k := k + 1) (by omega) (by rw [many, HP.out]; simp only; rw [HN.out])
          show parse l = none
          unfold parse
          rw [E1.out]
          simp only
          rw [hn]
        clear en
        go_upto_region 3 with fail
        refine wp_region_late (fun w' => w'.cell? ⟨w.heap.size, 0, none⟩ = some (.pointer (some ⟨pr, 0, none⟩)) ∧ w'.cell? ⟨w.heap.size + 1, 0, none⟩ = some vc) [7] mixed ?hS0 (fun hHeld => ?_)
        case hS0 => (try dsimp only); simp [*, go_sem]
        have HM := Lib.hid HM.out.drew
        refine' wpLate_take (i := 0) (v := ?v1) rfl (by kernel_rfl) (by kernel_rfl) (by kernel_rfl) (by kernel_rfl) (by kernel_rfl) (fun _ _ _ h => h) (Or.inl ⟨by rfl, ?hy1⟩) (by assumption) ?rest1
        case hy1 => (intro w hSw; (try dsimp only at hSw); go_simp; try with_reducible rfl)
        try simp only [Act.put, List.setIfInBounds_toArray, List.set_cons_zero, List.set_cons_succ, List.getElem_toArray, List.getElem_cons_zero, List.getElem_cons_succ]
        refine' wpLate_take (i := 1) (v := ?v2) rfl (by kernel_rfl) (by kernel_rfl) (by kernel_rfl) (by kernel_rfl) (by kernel_rfl) (fun _ _ _ h => h) (Or.inl ⟨by rfl, ?hy2⟩) (by assumption) ?rest2
        case hy2 => (intro w hSw; (try dsimp only at hSw); go_simp; try with_reducible rfl)
        try simp only [Act.put, List.setIfInBounds_toArray, List.set_cons_zero, List.set_cons_succ, List.getElem_toArray, List.getElem_cons_zero, List.getElem_cons_succ]
        refine' wpLate_take (i := 2) (v := ?v3) rfl (by kernel_rfl) (by kernel_rfl) (by kernel_rfl) (by kernel_rfl) (by kernel_rfl) (fun _ _ _ h => h) (Or.inl ⟨by rfl, ?hy3⟩) (by assumption) ?rest3
        case hy3 => (intro w hSw; (try dsimp only at hSw); go_simp; try with_reducible rfl)
        try simp only [Act.put, List.setIfInBounds_toArray, List.set_cons_zero, List.set_cons_succ, List.getElem_toArray, List.getElem_cons_zero, List.getElem_cons_succ]
        refine wpLate_ready (rs := [3]) (by kernel_rfl) (by simp) ?_
        refine ReadyL.cons rfl (fun K4 hK4 => ?_) ReadyL.nil
        go_simp
        refine (number_none B pr _ _ HM.out.rd HN.out).mono ?_
        rintro e w1 ⟨rfl, rfl⟩
        exact ⟨rfl, .inl ⟨HNO.out, rfl, HM.out.grown⟩⟩

      have HN := Lib.hid en
      have hxb := num_bd en
      have ew : IntKind.i32.wrap x = wrap32 x := wrap_i32 x
      clear en
      go_upto_region 3 with fail
      refine wp_region_late (fun w' => w'.cell? ⟨w.heap.size, 0, none⟩ = some (.pointer (some ⟨pr, 0, none⟩)) ∧ w'.cell? ⟨w.heap.size + 1, 0, none⟩ = some vc) [7] mixed ?hS0 (fun hHeld => ?_)
      case hS0 => (try dsimp only); simp [*, go_sem]
      have HM := Lib.hid HM.out.drew
      refine' wpLate_take (i := 0) (v := ?v5) rfl (by kernel_rfl) (by kernel_rfl) (by kernel_rfl) (by kernel_rfl) (by kernel_rfl) (fun _ _ _ h => h) (Or.inl ⟨by rfl, ?hy5⟩) (by assumption) ?rest5
      case hy5 => (intro w hSw; (try dsimp only at hSw); go_simp; try with_reducible rfl)
      try simp only [Act.put, List.setIfInBounds_toArray, List.set_cons_zero, List.set_cons_succ, List.getElem_toArray, List.getElem_cons_zero, List.getElem_cons_succ]
      refine' wpLate_take (i := 1) (v := ?v6) rfl (by kernel_rfl) (by kernel_rfl) (by kernel_rfl) (by kernel_rfl) (by kernel_rfl) (fun _ _ _ h => h) (Or.inl ⟨by rfl, ?hy6⟩) (by assumption) ?rest6
      case hy6 => (intro w hSw; (try dsimp only at hSw); go_simp; try with_reducible rfl)
      try simp only [Act.put, List.setIfInBounds_toArray, List.set_cons_zero, List.set_cons_succ, List.getElem_toArray, List.getElem_cons_zero, List.getElem_cons_succ]
      refine' wpLate_take (i := 2) (v := ?v7) rfl (by kernel_rfl) (by kernel_rfl) (by kernel_rfl) (by kernel_rfl) (by kernel_rfl) (fun _ _ _ h => h) (Or.inl ⟨by rfl, ?hy7⟩) (by assumption) ?rest7
      case hy7 => (intro w hSw; (try dsimp only at hSw); go_simp; try with_reducible rfl)
      try simp only [Act.put, List.setIfInBounds_toArray, List.set_cons_zero, List.set_cons_succ, List.getElem_toArray, List.getElem_cons_zero, List.getElem_cons_succ]
      refine wpLate_ready (rs := [3]) (by kernel_rfl) (by simp) ?_
      refine ReadyL.cons rfl (fun K8 hK8 => ?_) ReadyL.nil
      go_simp
      refine (number_some B pr _ r x _ HM.out.rd HN.out).mono ?_
      rintro e w1 ⟨rfl, hr, hg⟩
      have hm := HM.out.read hg hr
      clear hr hg
      clear k0 k1 k2 k3 k4 kz HM
      obtain ⟨k0, k1, k2, k3, k4, kz⟩ := hm.cells
      have HM := Lib.hid hm
      clear hm
      refine hK8.out _ _ ?hS8 (fun hHeld8 => ?_)
      case hS8 => (intro _; (try dsimp only); simp [*, go_sem])
      clear hK8 K8 hHeld
      have hHeld := hHeld8 (by simp)
      clear hHeld8
      refine wpLate_ready (rs := [4]) (by kernel_rfl) (by simp) ?_
      refine ReadyL.cons rfl (fun K9 hK9 => ?_) ReadyL.nil
      go_simp
      have hm := HM.out.alloc (.cells #[.int .u32 x] 22)
      clear k0 k1 k2 k3 k4 kz HM
      obtain ⟨k0, k1, k2, k3, k4, kz⟩ := hm.cells
      have HM := Lib.hid hm
      clear hm
      refine hK9.out _ _ ?hS9 (fun hHeld9 => ?_)
      case hS9 => (intro _; (try dsimp only); simp [*, go_sem])
      clear hK9 K9 hHeld
      have hHeld := hHeld9 (by simp)
      clear hHeld9
      refine wpLate_ready (rs := [5]) (by kernel_rfl) (by simp) ?_
      refine ReadyL.cons rfl (fun K10 hK10 => ?_) ReadyL.nil
      refine step_append_own_src rfl (.tmp 11) (.tmp 14) 31 31 rfl (w.heap.size + 2) 22 iC _ 1 4 Try.underlying31 hiC iCz iCs iCb rfl (by decide) vc _ _ rfl HM.out.rc _ 1 [.int .u32 x] rfl (Src.ofSlice _ Try.underlying31 _ 1 1 _ rfl (cells_list (heap_alloc_new w1 _) rfl) (by intro u hu; simp only [List.mem_cons, List.not_mem_nil, or_false] at hu; subst hu; rfl)) (by unfold maxLen; omega) (by omega) (by have := HM.out.size; omega) ?_
      intro v' w3 hown hgr hor
      obtain ⟨g3, cap3, rfl⟩ := own_slice hown (by omega)
      have hob3 := (hgr.block _ HM.out.size (own_ne HM.out.rc HM.out.ob (by decide))).trans HM.out.ob
      have hbb3 := (hgr.block _ (by have := HM.out.size; omega) (own_ne HM.out.rc HM.out.bb (by decide))).trans HM.out.bb
      have hms := HM.out.set_c  hown hgr
      clear k0 k1 k2 k3 k4 kz HM hown hgr hor
      obtain ⟨k1, k2, k3, k4, kz⟩ := blk4 hob3
      have k0 := cell_of_row w3 w.heap.size 0 _ _ _ hbb3
      simp only [List.getElem?_toArray, List.getElem?_cons_zero] at k0
      have HM := Lib.hid hms
      clear hms hob3 hbb3
      refine hK10.out _ _ ?hS10 (fun hHeld10 => ?_)
      case hS10 => (intro _; (try dsimp only); simp [*, go_sem])
      clear hK10 K10 hHeld
      have hHeld := hHeld10 (by simp)
      clear hHeld10
      refine' wpLate_take (i := 6) (v := ?v11) rfl (by kernel_rfl) (by kernel_rfl) (by kernel_rfl) (by kernel_rfl) (by kernel_rfl) (fun _ _ _ h => h) (Or.inl ⟨by rfl, ?hy11⟩) (by assumption) ?rest11
      case hy11 => (intro w hSw; (try dsimp only at hSw); go_simp; try with_reducible rfl)
      try simp only [Act.put, List.setIfInBounds_toArray, List.set_cons_zero, List.set_cons_succ, List.getElem_toArray, List.getElem_cons_zero, List.getElem_cons_succ]
      refine wpLate_ready (rs := [7]) (by kernel_rfl) (by simp) ?_
      refine ReadyL.cons rfl (fun K12 hK12 => ?_) ReadyL.nil
      go_simp
      refine hK12.out _ _ ?hS12 (fun hHeld12 => ?_)
      case hS12 => exact fun h => absurd (by simp) h
      clear hK12 K12
      refine wpLate_done (by kernel_rfl) ?_ _
      go_wp2_with fail
      go_roundg (n - (k + 1))
      case measure => have := HG.out; omega
      case rel => exact ⟨k + 1, r, _, xc ++ [x], by omega, by simp [HXL.out], rfl, by go_num, (by rw [many, HP.out]; simp only; rw [HN.out]), HM.out⟩
    · obtain rfl : n = k := by omega
      have HX2 := Lib.hid HXL.out
      have E2 := Lib.hid HP.out
      clear hlt hk HP HG HXL
      go_wp2_with fail
      rcases e3 : cnt 4 rest with _ | ⟨d, l3⟩
      · have HE := Lib.hid e3
        clear e3
        refine (count_none B pr 4 _ _ HM.out.rd (by omega) (by omega) HE.out).mono ?_
        rintro e w1 ⟨rfl, hg⟩
        exact ⟨rfl, .inl ⟨(by unfold parse; rw [E1.out]; simp only; rw [E2.out]; simp only; rw [HE.out]), rfl, HM.out.grown.trans hg⟩⟩
      have E3 := Lib.hid e3
      have b3 : d ≤ 4294967295 := by
        obtain ⟨x, hx, rfl, _⟩ := cnt_num e3
        have := num_bd hx
        omega
      clear e3
      refine (count_some B pr 4 d _ l3 _ HM.out.rd (by omega) (by omega) E3.out).mono ?_
      rintro e w1 ⟨rfl, hr, hg⟩
      have hm := HM.out.read hg hr
      clear hr hg HM
      obtain ⟨k0, k1, k2, k3, k4, kz⟩ := hm.cells
      have HM := Lib.hid hm
      clear hm
      go_wp2_with fail
      go_loopg [20] d (fun gk i wr => ∃ (k : Nat) (rest : List UInt8) (vd : Value) (xd : List Int), k ≤ d ∧ xd.length = k ∧ gk = d - k ∧ i = .int .i64 k ∧ many num k l3 = some (xd, rest) ∧ GMid w wr B pr rest vc vd (.slice none 0 0) (.slice none 0 0) xc xd [] [])
      case atStart => exact ⟨0, _, _, _, by omega, rfl, rfl, rfl, rfl, HM.out⟩
      case round =>
        obtain ⟨k, rest, vd, xd, hk, hxl, hgk, rfl, hp, hm⟩ := hrel
        have HG := Lib.hid hgk
        clear k0 k1 k2 k3 k4 kz HM
        obtain ⟨k0, k1, k2, k3, k4, kz⟩ := hm.cells
        have HM := Lib.hid hm
        have HP := Lib.hid hp
        have HXL := Lib.hid hxl
        have hxlb : xd.length ≤ 4294967295 := by omega
        clear hgk hm hp hxl
        by_cases hlt : k < d
        · have hki : (k : Int) < d := by omega
          rcases en : num rest with _ | ⟨x, r⟩
          · have HN := Lib.hid en
            have HNO : Hid (parse l = none) := by
              have hn : many num d l3 = none := many_none (k := k + 1) (by omega) (by rw [many, HP.out]; simp only; rw [HN.out])
              show parse l = none
              unfold parse
              rw [E1.out]
              simp only
              rw [E2.out]
              simp only
              rw [E3.out]
              simp only
              rw [hn]
            clear en
            go_upto_region 7 with fail
            refine wp_region_late (fun w' => w'.cell? ⟨w.heap.size, 0, none⟩ = some (.pointer (some ⟨pr, 0, none⟩)) ∧ w'.cell? ⟨w.heap.size + 1, 1, none⟩ = some vd) [8] mixed ?hS0 (fun hHeld => ?_)
            case hS0 => (try dsimp only); simp [*, go_sem]
            have HM := Lib.hid HM.out.drew
            refine' wpLate_take (i := 0) (v := ?v13) rfl (by kernel_rfl) (by kernel_rfl) (by kernel_rfl) (by kernel_rfl) (by kernel_rfl) (fun _ _ _ h => h) (Or.inl ⟨by rfl, ?hy13⟩) (by assumption) ?rest13
            case hy13 => (intro w hSw; (try dsimp only at hSw); go_simp; try with_reducible rfl)
            try simp only [Act.put, List.setIfInBounds_toArray, List.set_cons_zero, List.set_cons_succ, List.getElem_toArray, List.getElem_cons_zero, List.getElem_cons_succ]
            refine' wpLate_take (i := 1) (v := ?v14) rfl (by kernel_rfl) (by kernel_rfl) (by kernel_rfl) (by kernel_rfl) (by kernel_rfl) (fun _ _ _ h => h) (Or.inl ⟨by rfl, ?hy14⟩) (by assumption) ?rest14
            case hy14 => (intro w hSw; (try dsimp only at hSw); go_simp; try with_reducible rfl)
            try simp only [Act.put, List.setIfInBounds_toArray, List.set_cons_zero, List.set_cons_succ, List.getElem_toArray, List.getElem_cons_zero, List.getElem_cons_succ]
            refine' wpLate_take (i := 2) (v := ?v15) rfl (by kernel_rfl) (by kernel_rfl) (by kernel_rfl) (by kernel_rfl) (by kernel_rfl) (fun _ _ _ h => h) (Or.inl ⟨by rfl, ?hy15⟩) (by assumption) ?rest15
            case hy15 => (intro w hSw; (try dsimp only at hSw); go_simp; try with_reducible rfl)
            try simp only [Act.put, List.setIfInBounds_toArray, List.set_cons_zero, List.set_cons_succ, List.getElem_toArray, List.getElem_cons_zero, List.getElem_cons_succ]
            refine wpLate_ready (rs := [3]) (by kernel_rfl) (by simp) ?_
            refine ReadyL.cons rfl (fun K16 hK16 => ?_) ReadyL.nil
            go_simp
            refine (number_none B pr _ _ HM.out.rd HN.out).mono ?_
            rintro e w1 ⟨rfl, rfl⟩
            exact ⟨rfl, .inl ⟨HNO.out, rfl, HM.out.grown⟩⟩

          have HN := Lib.hid en
          have hxb := num_bd en
          have ew : IntKind.i32.wrap x = wrap32 x := wrap_i32 x
          clear en
          go_upto_region 7 with fail
          refine wp_region_late (fun w' => w'.cell? ⟨w.heap.size, 0, none⟩ = some (.pointer (some ⟨pr, 0, none⟩)) ∧ w'.cell? ⟨w.heap.size + 1, 1, none⟩ = some vd) [8] mixed ?hS0 (fun hHeld => ?_)
          case hS0 => (try dsimp only); simp [*, go_sem]
          have HM := Lib.hid HM.out.drew
          refine' wpLate_take (i := 0) (v := ?v17) rfl (by kernel_rfl) (by kernel_rfl) (by kernel_rfl) (by kernel_rfl) (by kernel_rfl) (fun _ _ _ h => h) (Or.inl ⟨by rfl, ?hy17⟩) (by assumption) ?rest17
          case hy17 => (intro w hSw; (try dsimp only at hSw); go_simp; try with_reducible rfl)
          try simp only [Act.put, List.setIfInBounds_toArray, List.set_cons_zero, List.set_cons_succ, List.getElem_toArray, List.getElem_cons_zero, List.getElem_cons_succ]
          refine' wpLate_take (i := 1) (v := ?v18) rfl (by kernel_rfl) (by kernel_rfl) (by kernel_rfl) (by kernel_rfl) (by kernel_rfl) (fun _ _ _ h => h) (Or.inl ⟨by rfl, ?hy18⟩) (by assumption) ?rest18
          case hy18 => (intro w hSw; (try dsimp only at hSw); go_simp; try with_reducible rfl)
          try simp only [Act.put, List.setIfInBounds_toArray, List.set_cons_zero, List.set_cons_succ, List.getElem_toArray, List.getElem_cons_zero, List.getElem_cons_succ]
          refine' wpLate_take (i := 2) (v := ?v19) rfl (by kernel_rfl) (by kernel_rfl) (by kernel_rfl) (by kernel_rfl) (by kernel_rfl) (fun _ _ _ h => h) (Or.inl ⟨by rfl, ?hy19⟩) (by assumption) ?rest19
          case hy19 => (intro w hSw; (try dsimp only at hSw); go_simp; try with_reducible rfl)
          try simp only [Act.put, List.setIfInBounds_toArray, List.set_cons_zero, List.set_cons_succ, List.getElem_toArray, List.getElem_cons_zero, List.getElem_cons_succ]
          refine wpLate_ready (rs := [3]) (by kernel_rfl) (by simp) ?_
          refine ReadyL.cons rfl (fun K20 hK20 => ?_) ReadyL.nil
          go_simp
          refine (number_some B pr _ r x _ HM.out.rd HN.out).mono ?_
          rintro e w1 ⟨rfl, hr, hg⟩
          have hm := HM.out.read hg hr
          clear hr hg
          clear k0 k1 k2 k3 k4 kz HM
          obtain ⟨k0, k1, k2, k3, k4, kz⟩ := hm.cells
          have HM := Lib.hid hm
          clear hm
          refine hK20.out _ _ ?hS20 (fun hHeld20 => ?_)
          case hS20 => (intro _; (try dsimp only); simp [*, go_sem])
          clear hK20 K20 hHeld
          have hHeld := hHeld20 (by simp)
          clear hHeld20
          refine' wpLate_take (i := 4) (v := ?v21) rfl (by kernel_rfl) (by kernel_rfl) (by kernel_rfl) (by kernel_rfl) (by kernel_rfl) (fun _ _ _ h => h) (Or.inl ⟨by rfl, ?hy21⟩) (by assumption) ?rest21
          case hy21 => (intro w hSw; (try dsimp only at hSw); go_simp; try with_reducible rfl)
          try simp only [Act.put, List.setIfInBounds_toArray, List.set_cons_zero, List.set_cons_succ, List.getElem_toArray, List.getElem_cons_zero, List.getElem_cons_succ]
          refine wpLate_ready (rs := [5]) (by kernel_rfl) (by simp) ?_
          refine ReadyL.cons rfl (fun K22 hK22 => ?_) ReadyL.nil
          go_simp
          have hm := HM.out.alloc (.cells #[.int .i32 (wrap32 x)] 21)
          clear k0 k1 k2 k3 k4 kz HM
          obtain ⟨k0, k1, k2, k3, k4, kz⟩ := hm.cells
          have HM := Lib.hid hm
          clear hm
          refine hK22.out _ _ ?hS22 (fun hHeld22 => ?_)
          case hS22 => (intro _; (try dsimp only); simp [*, go_sem])
          clear hK22 K22 hHeld
          have hHeld := hHeld22 (by simp)
          clear hHeld22
          refine wpLate_ready (rs := [6]) (by kernel_rfl) (by simp) ?_
          refine ReadyL.cons rfl (fun K23 hK23 => ?_) ReadyL.nil
          refine step_append_own_src rfl (.tmp 23) (.tmp 27) 32 32 rfl (w.heap.size + 2) 21 iD _ 1 4 Try.underlying32 hiD iDz iDs iDb rfl (by decide) vd _ _ rfl HM.out.rd_ _ 1 [.int .i32 (wrap32 x)] rfl (Src.ofSlice _ Try.underlying32 _ 1 1 _ rfl (cells_list (heap_alloc_new w1 _) rfl) (by intro u hu; simp only [List.mem_cons, List.not_mem_nil, or_false] at hu; subst hu; rfl)) (by unfold maxLen; omega) (by omega) (by have := HM.out.size; omega) ?_
          intro v' w3 hown hgr hor
          obtain ⟨g3, cap3, rfl⟩ := own_slice hown (by omega)
          have hob3 := (hgr.block _ HM.out.size (own_ne HM.out.rd_ HM.out.ob (by decide))).trans HM.out.ob
          have hbb3 := (hgr.block _ (by have := HM.out.size; omega) (own_ne HM.out.rd_ HM.out.bb (by decide))).trans HM.out.bb
          have hms := HM.out.set_d  hown hgr
          clear k0 k1 k2 k3 k4 kz HM hown hgr hor
          obtain ⟨k1, k2, k3, k4, kz⟩ := blk4 hob3
          have k0 := cell_of_row w3 w.heap.size 0 _ _ _ hbb3
          simp only [List.getElem?_toArray, List.getElem?_cons_zero] at k0
          have HM := Lib.hid hms
          clear hms hob3 hbb3
          refine hK23.out _ _ ?hS23 (fun hHeld23 => ?_)
          case hS23 => (intro _; (try dsimp only); simp [*, go_sem])
          clear hK23 K23 hHeld
          have hHeld := hHeld23 (by simp)
          clear hHeld23
          refine' wpLate_take (i := 7) (v := ?v24) rfl (by kernel_rfl) (by kernel_rfl) (by kernel_rfl) (by kernel_rfl) (by kernel_rfl) (fun _ _ _ h => h) (Or.inl ⟨by rfl, ?hy24⟩) (by assumption) ?rest24
          case hy24 => (intro w hSw; (try dsimp only at hSw); go_simp; try with_reducible rfl)
          try simp only [Act.put, List.setIfInBounds_toArray, List.set_cons_zero, List.set_cons_succ, List.getElem_toArray, List.getElem_cons_zero, List.getElem_cons_succ]
          refine wpLate_ready (rs := [8]) (by kernel_rfl) (by simp) ?_
          refine ReadyL.cons rfl (fun K25 hK25 => ?_) ReadyL.nil
          go_simp
          refine hK25.out _ _ ?hS25 (fun hHeld25 => ?_)
          case hS25 => exact fun h => absurd (by simp) h
          clear hK25 K25
          refine wpLate_done (by kernel_rfl) ?_ _
          go_wp2_with fail
          go_roundg (d - (k + 1))
          case measure => have := HG.out; omega
          case rel => exact ⟨k + 1, r, _, xd ++ [x], by omega, by simp [HXL.out], rfl, by go_num, (by rw [many, HP.out]; simp only; rw [HN.out]), HM.out⟩
        · obtain rfl : d = k := by omega
          have HX4 := Lib.hid HXL.out
          have E4 := Lib.hid HP.out
          clear hlt hk HP HG HXL
          go_wp2_with fail
          rcases e5 : cnt 28 rest with _ | ⟨m, l5⟩
          · have HE := Lib.hid e5
            clear e5
            refine (count_none B pr 28 _ _ HM.out.rd (by omega) (by omega) HE.out).mono ?_
            rintro e w1 ⟨rfl, hg⟩
            exact ⟨rfl, .inl ⟨(by unfold parse; rw [E1.out]; simp only; rw [E2.out]; simp only; rw [E3.out]; simp only; rw [E4.out]; simp only; rw [HE.out]), rfl, HM.out.grown.trans hg⟩⟩
          have E5 := Lib.hid e5
          have b5 : m ≤ 4294967295 := by
            obtain ⟨x, hx, rfl, _⟩ := cnt_num e5
            have := num_bd hx
            omega
          clear e5
          refine (count_some B pr 28 m _ l5 _ HM.out.rd (by omega) (by omega) E5.out).mono ?_
          rintro e w1 ⟨rfl, hr, hg⟩
          have hm := HM.out.read hg hr
          clear hr hg HM
          obtain ⟨k0, k1, k2, k3, k4, kz⟩ := hm.cells
          have HM := Lib.hid hm
          clear hm
          go_wp2_with fail
          go_loopg [34] m (fun gk i wr => ∃ (k : Nat) (rest : List UInt8) (vs : Value) (xs : List Raw), k ≤ m ∧ xs.length = k ∧ gk = m - k ∧ i = .int .i64 k ∧ many raw1 k l5 = some (xs, rest) ∧ GMid w wr B pr rest vc vd vs (.slice none 0 0) xc xd xs [])
          case atStart => exact ⟨0, _, _, _, by omega, rfl, rfl, rfl, rfl, HM.out⟩
          case round =>
            obtain ⟨k, rest, vs, xs, hk, hxl, hgk, rfl, hp, hm⟩ := hrel
            have HG := Lib.hid hgk
            clear k0 k1 k2 k3 k4 kz HM
            obtain ⟨k0, k1, k2, k3, k4, kz⟩ := hm.cells
            have HM := Lib.hid hm
            have HP := Lib.hid hp
            have HXL := Lib.hid hxl
            have hxlb : xs.length ≤ 4294967295 := by omega
            clear hgk hm hp hxl
            by_cases hlt : k < m
            · have hki : (k : Int) < m := by omega
              rcases t1 : txt rest with _ | ⟨a, r1⟩
              · have T1 := Lib.hid t1
                have HN : Hid (raw1 rest = none) := by
                  show raw1 rest = none
                  unfold raw1 raw
                  rw [T1.out]
                have HNO : Hid (parse l = none) := by
                    have hn : many raw1 m l5 = none := many_none (k := k + 1) (by omega) (by rw [many, HP.out]; simp only; rw [HN.out])
                    show parse l = none
                    unfold parse
                    rw [E1.out]
                    simp only
                    rw [E2.out]
                    simp only
                    rw [E3.out]
                    simp only
                    rw [E4.out]
                    simp only
                    rw [E5.out]
                    simp only
                    rw [hn]
                clear t1 HN
                go_upto_region 12 with fail
                refine wp_region_late (fun w' => w'.cell? ⟨w.heap.size, 0, none⟩ = some (.pointer (some ⟨pr, 0, none⟩))) [] mixed ?hS0 (fun hHeld => ?_)
                case hS0 => (try dsimp only); simp [*, go_sem]
                have HM := Lib.hid HM.out.drew
                refine' wpLate_take (i := 0) (v := ?v26) rfl (by kernel_rfl) (by kernel_rfl) (by kernel_rfl) (by kernel_rfl) (by kernel_rfl) (fun _ _ _ h => h) (Or.inl ⟨by rfl, ?hy26⟩) (by assumption) ?rest26
                case hy26 => (intro w hSw; (try dsimp only at hSw); go_simp; try with_reducible rfl)
                try simp only [Act.put, List.setIfInBounds_toArray, List.set_cons_zero, List.set_cons_succ, List.getElem_toArray, List.getElem_cons_zero, List.getElem_cons_succ]
                refine' wpLate_take (i := 2) (v := ?v27) rfl (by kernel_rfl) (by kernel_rfl) (by kernel_rfl) (by kernel_rfl) (by kernel_rfl) (fun _ _ _ h => h) (Or.inl ⟨by rfl, ?hy27⟩) (by assumption) ?rest27
                case hy27 => (intro w hSw; (try dsimp only at hSw); go_simp; try with_reducible rfl)
                try simp only [Act.put, List.setIfInBounds_toArray, List.set_cons_zero, List.set_cons_succ, List.getElem_toArray, List.getElem_cons_zero, List.getElem_cons_succ]
                refine wpLate_ready (rs := [1, 6]) (by kernel_rfl) (by simp) ?_
                refine ReadyL.cons rfl (fun K28 hK28 => ?_) ?_
                · go_simp
                  refine (txt_none B pr w.heap.size _ _ HM.out.rd HM.out.bb T1.out).mono ?_
                  rintro e w1 ⟨rfl, hg⟩
                  exact ⟨rfl, .inl ⟨HNO.out, rfl, HM.out.grown.trans hg⟩⟩
                refine ReadyL.cons rfl (fun K28 hK28 => ?_) ReadyL.nil
                go_simp
                have hbm := HM.out.newbox #[.string ⟨#[]⟩, .int .i64 0, .bool false, .int .i64 0, .int .i64 0, .string ⟨#[]⟩, .int .i64 0]
                rw [show wr.drew.heap.size = wr.heap.size from rfl] at hbm
                have hm := hbm.g
                clear k0 k1 k2 k3 k4 kz HM
                obtain ⟨k0, k1, k2, k3, k4, kz⟩ := hm.cells
                have HM := Lib.hid hm
                have HB := Lib.hid hbm
                clear hm hbm
                refine hK28.out _ _ ?hS28x1 (fun hHeld28 => ?_)
                case hS28x1 => (intro _; exact k0)
                clear hK28 K28 hHeld
                have hHeld := hHeld28 (by simp)
                clear hHeld28
                refine wpLate_ready (rs := [1]) (by kernel_rfl) (by simp) ?_
                refine ReadyL.cons rfl (fun K29 hK29 => ?_) ReadyL.nil
                go_simp
                refine (txt_none B pr w.heap.size _ _ HM.out.rd HM.out.bb T1.out).mono ?_
                rintro e w1 ⟨rfl, hg⟩
                exact ⟨rfl, .inl ⟨HNO.out, rfl, HM.out.grown.trans hg⟩⟩
              have T1 := Lib.hid t1
              clear t1
              rcases t2 : num r1 with _ | ⟨b, r2⟩
              · have T2 := Lib.hid t2
                have HN : Hid (raw1 rest = none) := by
                  show raw1 rest = none
                  unfold raw1 raw
                  rw [T1.out]
                  simp only
                  rw [T2.out]
                have HNO : Hid (parse l = none) := by
                    have hn : many raw1 m l5 = none := many_none (k := k + 1) (by omega) (by rw [many, HP.out]; simp only; rw [HN.out])
                    show parse l = none
                    unfold parse
                    rw [E1.out]
                    simp only
                    rw [E2.out]
                    simp only
                    rw [E3.out]
                    simp only
                    rw [E4.out]
                    simp only
                    rw [E5.out]
                    simp only
                    rw [hn]
                clear t2 HN
                go_upto_region 12 with fail
                refine wp_region_late (fun w' => w'.cell? ⟨w.heap.size, 0, none⟩ = some (.pointer (some ⟨pr, 0, none⟩))) [] mixed ?hS0 (fun hHeld => ?_)
                case hS0 => (try dsimp only); simp [*, go_sem]
                have HM := Lib.hid HM.out.drew
                refine' wpLate_take (i := 0) (v := ?v30) rfl (by kernel_rfl) (by kernel_rfl) (by kernel_rfl) (by kernel_rfl) (by kernel_rfl) (fun _ _ _ h => h) (Or.inl ⟨by rfl, ?hy30⟩) (by assumption) ?rest30
                case hy30 => (intro w hSw; (try dsimp only at hSw); go_simp; try with_reducible rfl)
                try simp only [Act.put, List.setIfInBounds_toArray, List.set_cons_zero, List.set_cons_succ, List.getElem_toArray, List.getElem_cons_zero, List.getElem_cons_succ]
                refine' wpLate_take (i := 2) (v := ?v31) rfl (by kernel_rfl) (by kernel_rfl) (by kernel_rfl) (by kernel_rfl) (by kernel_rfl) (fun _ _ _ h => h) (Or.inl ⟨by rfl, ?hy31⟩) (by assumption) ?rest31
                case hy31 => (intro w hSw; (try dsimp only at hSw); go_simp; try with_reducible rfl)
                try simp only [Act.put, List.setIfInBounds_toArray, List.set_cons_zero, List.set_cons_succ, List.getElem_toArray, List.getElem_cons_zero, List.getElem_cons_succ]
                refine wpLate_ready (rs := [1, 6]) (by kernel_rfl) (by simp) ?_
                refine ReadyL.cons rfl (fun K32 hK32 => ?_) ?_
                · go_simp
                  refine (txt_some B pr w.heap.size _ _ HM.out.rd HM.out.bb a r1 T1.out).mono ?_
                  rintro e wa ⟨rfl, hr, hg⟩
                  have hm := HM.out.read hg hr
                  clear hr hg k0 k1 k2 k3 k4 kz HM
                  obtain ⟨k0, k1, k2, k3, k4, kz⟩ := hm.cells
                  have HM := Lib.hid hm
                  clear hm
                  refine hK32.out _ _ ?hS32x0 (fun hHeld32 => ?_)
                  case hS32x0 => (intro _; exact k0)
                  clear hK32 K32 hHeld
                  have hHeld := hHeld32 (by simp)
                  clear hHeld32
                  refine wpLate_ready (rs := [3, 6]) (by kernel_rfl) (by simp) ?_
                  refine ReadyL.cons rfl (fun K33 hK33 => ?_) ?_
                  · go_simp
                    refine (number_none B pr _ _ HM.out.rd T2.out).mono ?_
                    rintro e w1 ⟨rfl, rfl⟩
                    exact ⟨rfl, .inl ⟨HNO.out, rfl, HM.out.grown⟩⟩
                  refine ReadyL.cons rfl (fun K33 hK33 => ?_) ReadyL.nil
                  go_simp
                  have hbm := HM.out.newbox #[.string ⟨#[]⟩, .int .i64 0, .bool false, .int .i64 0, .int .i64 0, .string ⟨#[]⟩, .int .i64 0]
                  have hm := hbm.g
                  clear k0 k1 k2 k3 k4 kz HM
                  obtain ⟨k0, k1, k2, k3, k4, kz⟩ := hm.cells
                  have HM := Lib.hid hm
                  have HB := Lib.hid hbm
                  clear hm hbm
                  refine hK33.out _ _ ?hS33x1 (fun hHeld33 => ?_)
                  case hS33x1 => (intro _; exact k0)
                  clear hK33 K33 hHeld
                  have hHeld := hHeld33 (by simp)
                  clear hHeld33
                  refine wpLate_ready (rs := [3]) (by kernel_rfl) (by simp) ?_
                  refine ReadyL.cons rfl (fun K34 hK34 => ?_) ReadyL.nil
                  go_simp
                  refine (number_none B pr _ _ HM.out.rd T2.out).mono ?_
                  rintro e w1 ⟨rfl, rfl⟩
                  exact ⟨rfl, .inl ⟨HNO.out, rfl, HM.out.grown⟩⟩
                refine ReadyL.cons rfl (fun K32 hK32 => ?_) ReadyL.nil
                go_simp
                have hbm := HM.out.newbox #[.string ⟨#[]⟩, .int .i64 0, .bool false, .int .i64 0, .int .i64 0, .string ⟨#[]⟩, .int .i64 0]
                rw [show wr.drew.heap.size = wr.heap.size from rfl] at hbm
                have hm := hbm.g
                clear k0 k1 k2 k3 k4 kz HM
                obtain ⟨k0, k1, k2, k3, k4, kz⟩ := hm.cells
                have HM := Lib.hid hm
                have HB := Lib.hid hbm
                clear hm hbm
                refine hK32.out _ _ ?hS32x1 (fun hHeld32 => ?_)
                case hS32x1 => (intro _; exact k0)
                clear hK32 K32 hHeld
                have hHeld := hHeld32 (by simp)
                clear hHeld32
                refine wpLate_ready (rs := [1]) (by kernel_rfl) (by simp) ?_
                refine ReadyL.cons rfl (fun K35 hK35 => ?_) ReadyL.nil
                go_simp
                refine (txt_some B pr w.heap.size _ _ HM.out.rd HM.out.bb a r1 T1.out).mono ?_
                rintro e wa ⟨rfl, hr, hg⟩
                have hm := HM.out.read hg hr
                have hbm := HB.out.read hg hr
                clear HB
                have HB := Lib.hid hbm
                clear hbm
                clear hr hg k0 k1 k2 k3 k4 kz HM
                obtain ⟨k0, k1, k2, k3, k4, kz⟩ := hm.cells
                have HM := Lib.hid hm
                clear hm
                refine hK35.out _ _ ?hS35x0 (fun hHeld35 => ?_)
                case hS35x0 => (intro _; exact k0)
                clear hK35 K35 hHeld
                have hHeld := hHeld35 (by simp)
                clear hHeld35
                refine wpLate_ready (rs := [3]) (by kernel_rfl) (by simp) ?_
                refine ReadyL.cons rfl (fun K36 hK36 => ?_) ReadyL.nil
                go_simp
                refine (number_none B pr _ _ HM.out.rd T2.out).mono ?_
                rintro e w1 ⟨rfl, rfl⟩
                exact ⟨rfl, .inl ⟨HNO.out, rfl, HM.out.grown⟩⟩
              have T2 := Lib.hid t2
              have n2 := num_bd t2
              have n2a := n2.1
              have n2b := n2.2
              clear n2
              have v2 : IntKind.i64.wrap b = b := IntWalk.i64_in _ (by omega)
              clear t2
              go_upto_region 12 with fail
              go_cut [4] from 36 to 41 (fun v4 wx => ∃ b4, v4 = .pointer (some ⟨b4, 0, none⟩) ∧ BMid w wx B pr r2 vc vd vs (.slice none 0 0) xc xd xs [] b4 #[.string (str a), .int .i64 b, .bool false, .int .i64 0, .int .i64 0, .string ⟨#[]⟩, .int .i64 0])
              case first =>
                refine wp_region_late (fun w' => w'.cell? ⟨w.heap.size, 0, none⟩ = some (.pointer (some ⟨pr, 0, none⟩))) [] mixed ?hS0 (fun hHeld => ?_)
                case hS0 => (try dsimp only); simp [*, go_sem]
                have HM := Lib.hid HM.out.drew
                refine' wpLate_take (i := 0) (v := ?v37) rfl (by kernel_rfl) (by kernel_rfl) (by kernel_rfl) (by kernel_rfl) (by kernel_rfl) (fun _ _ _ h => h) (Or.inl ⟨by rfl, ?hy37⟩) (by assumption) ?rest37
                case hy37 => (intro w hSw; (try dsimp only at hSw); go_simp; try with_reducible rfl)
                try simp only [Act.put, List.setIfInBounds_toArray, List.set_cons_zero, List.set_cons_succ, List.getElem_toArray, List.getElem_cons_zero, List.getElem_cons_succ]
                refine' wpLate_take (i := 2) (v := ?v38) rfl (by kernel_rfl) (by kernel_rfl) (by kernel_rfl) (by kernel_rfl) (by kernel_rfl) (fun _ _ _ h => h) (Or.inl ⟨by rfl, ?hy38⟩) (by assumption) ?rest38
                case hy38 => (intro w hSw; (try dsimp only at hSw); go_simp; try with_reducible rfl)
                try simp only [Act.put, List.setIfInBounds_toArray, List.set_cons_zero, List.set_cons_succ, List.getElem_toArray, List.getElem_cons_zero, List.getElem_cons_succ]
                refine wpLate_ready (rs := [1, 6]) (by kernel_rfl) (by simp) ?_
                refine ReadyL.cons rfl (fun K39 hK39 => ?_) ?_
                · go_simp
                  refine (txt_some B pr w.heap.size _ _ HM.out.rd HM.out.bb a r1 T1.out).mono ?_
                  rintro e wa ⟨rfl, hr, hg⟩
                  have hm := HM.out.read hg hr
                  clear hr hg k0 k1 k2 k3 k4 kz HM
                  obtain ⟨k0, k1, k2, k3, k4, kz⟩ := hm.cells
                  have HM := Lib.hid hm
                  clear hm
                  refine hK39.out _ _ ?hS39x0 (fun hHeld39 => ?_)
                  case hS39x0 => (intro _; exact k0)
                  clear hK39 K39 hHeld
                  have hHeld := hHeld39 (by simp)
                  clear hHeld39
                  refine wpLate_ready (rs := [3, 6]) (by kernel_rfl) (by simp) ?_
                  refine ReadyL.cons rfl (fun K40 hK40 => ?_) ?_
                  · go_simp
                    refine (number_some B pr _ r2 b _ HM.out.rd T2.out).mono ?_
                    rintro e wb ⟨rfl, hr, hg⟩
                    have hm := HM.out.read hg hr
                    clear hr hg k0 k1 k2 k3 k4 kz HM
                    obtain ⟨k0, k1, k2, k3, k4, kz⟩ := hm.cells
                    have HM := Lib.hid hm
                    clear hm
                    refine hK40.out _ _ ?hS40x0 (fun hHeld40 => ?_)
                    case hS40x0 => (intro _; exact k0)
                    clear hK40 K40 hHeld
                    have hHeld := hHeld40 (by simp)
                    clear hHeld40
                    refine' wpLate_take (i := 4) (v := ?v41) rfl (by kernel_rfl) (by kernel_rfl) (by kernel_rfl) (by kernel_rfl) (by kernel_rfl) (fun _ _ _ h => h) (Or.inl ⟨by rfl, ?hy41⟩) (by assumption) ?rest41
                    case hy41 => (intro w hSw; (try dsimp only at hSw); go_simp; try with_reducible rfl)
                    try simp only [Act.put, List.setIfInBounds_toArray, List.set_cons_zero, List.set_cons_succ, List.getElem_toArray, List.getElem_cons_zero, List.getElem_cons_succ]
                    refine' wpLate_take (i := 5) (v := ?v42) rfl (by kernel_rfl) (by kernel_rfl) (by kernel_rfl) (by kernel_rfl) (by kernel_rfl) (fun _ _ _ h => h) (Or.inl ⟨by rfl, ?hy42⟩) (by assumption) ?rest42
                    case hy42 => (intro w hSw; (try dsimp only at hSw); go_simp; try with_reducible rfl)
                    try simp only [Act.put, List.setIfInBounds_toArray, List.set_cons_zero, List.set_cons_succ, List.getElem_toArray, List.getElem_cons_zero, List.getElem_cons_succ]
                    refine wpLate_ready (rs := [6]) (by kernel_rfl) (by simp) ?_
                    refine ReadyL.cons rfl (fun K43 hK43 => ?_) ReadyL.nil
                    go_simp
                    have HM0 := HM
                    have hbm := HM.out.newbox #[.string ⟨#[]⟩, .int .i64 0, .bool false, .int .i64 0, .int .i64 0, .string ⟨#[]⟩, .int .i64 0]
                    have hm := hbm.g
                    clear k0 k1 k2 k3 k4 kz HM
                    obtain ⟨k0, k1, k2, k3, k4, kz⟩ := hm.cells
                    have HM := Lib.hid hm
                    have HB := Lib.hid hbm
                    clear hm hbm
                    refine hK43.out _ _ ?hS43x0 (fun hHeld43 => ?_)
                    case hS43x0 => (intro _; exact k0)
                    clear hK43 K43 hHeld
                    have hHeld := hHeld43 (by simp)
                    clear hHeld43
                    refine wpLate_ready (rs := [7]) (by kernel_rfl) (by simp) ?_
                    refine ReadyL.cons rfl (fun K44 hK44 => ?_) ReadyL.nil
                    have hst := run_storeCells_new (P := Try.prog) wb 106 #[.string ⟨#[]⟩, .int .i64 0, .bool false, .int .i64 0, .int .i64 0, .string ⟨#[]⟩, .int .i64 0] #[.string (str a), .int .i64 b, .bool false, .int .i64 0, .int .i64 0, .string ⟨#[]⟩, .int .i64 0] (by kernel_rfl) rfl (by kernel_rfl)
                    go_simp
                    clear hst
                    have hbm := HM0.out.newbox #[.string (str a), .int .i64 b, .bool false, .int .i64 0, .int .i64 0, .string ⟨#[]⟩, .int .i64 0]
                    have hm := hbm.g
                    clear k0 k1 k2 k3 k4 kz HM HB HM0
                    obtain ⟨k0, k1, k2, k3, k4, kz⟩ := hm.cells
                    have HM := Lib.hid hm
                    have HB := Lib.hid hbm
                    clear hm hbm
                    refine hK44.out _ _ ?hS44x0 (fun hHeld44 => ?_)
                    case hS44x0 => (intro _; exact k0)
                    clear hK44 K44 hHeld
                    have hHeld := hHeld44 (by simp)
                    clear hHeld44
                    refine wpLate_done (by kernel_rfl) ?_ _
                    go_wp2_with fail
                    go_meet
                    exact ⟨wb.heap.size, rfl, HB.out⟩
                  refine ReadyL.cons rfl (fun K40 hK40 => ?_) ReadyL.nil
                  go_simp
                  have hbm := HM.out.newbox #[.string ⟨#[]⟩, .int .i64 0, .bool false, .int .i64 0, .int .i64 0, .string ⟨#[]⟩, .int .i64 0]
                  have hm := hbm.g
                  clear k0 k1 k2 k3 k4 kz HM
                  obtain ⟨k0, k1, k2, k3, k4, kz⟩ := hm.cells
                  have HM := Lib.hid hm
                  have HB := Lib.hid hbm
                  clear hm hbm
                  refine hK40.out _ _ ?hS40x1 (fun hHeld40 => ?_)
                  case hS40x1 => (intro _; exact k0)
                  clear hK40 K40 hHeld
                  have hHeld := hHeld40 (by simp)
                  clear hHeld40
                  refine wpLate_ready (rs := [3]) (by kernel_rfl) (by simp) ?_
                  refine ReadyL.cons rfl (fun K45 hK45 => ?_) ReadyL.nil
                  go_simp
                  refine (number_some B pr _ r2 b _ HM.out.rd T2.out).mono ?_
                  rintro e wb ⟨rfl, hr, hg⟩
                  have hm := HM.out.read hg hr
                  have hbm := HB.out.read hg hr
                  clear HB
                  have HB := Lib.hid hbm
                  clear hbm
                  clear hr hg k0 k1 k2 k3 k4 kz HM
                  obtain ⟨k0, k1, k2, k3, k4, kz⟩ := hm.cells
                  have HM := Lib.hid hm
                  clear hm
                  refine hK45.out _ _ ?hS45x0 (fun hHeld45 => ?_)
                  case hS45x0 => (intro _; exact k0)
                  clear hK45 K45 hHeld
                  have hHeld := hHeld45 (by simp)
                  clear hHeld45
                  refine' wpLate_take (i := 4) (v := ?v46) rfl (by kernel_rfl) (by kernel_rfl) (by kernel_rfl) (by kernel_rfl) (by kernel_rfl) (fun _ _ _ h => h) (Or.inl ⟨by rfl, ?hy46⟩) (by assumption) ?rest46
                  case hy46 => (intro w hSw; (try dsimp only at hSw); go_simp; try with_reducible rfl)
                  try simp only [Act.put, List.setIfInBounds_toArray, List.set_cons_zero, List.set_cons_succ, List.getElem_toArray, List.getElem_cons_zero, List.getElem_cons_succ]
                  refine' wpLate_take (i := 5) (v := ?v47) rfl (by kernel_rfl) (by kernel_rfl) (by kernel_rfl) (by kernel_rfl) (by kernel_rfl) (fun _ _ _ h => h) (Or.inl ⟨by rfl, ?hy47⟩) (by assumption) ?rest47
                  case hy47 => (intro w hSw; (try dsimp only at hSw); go_simp; try with_reducible rfl)
                  try simp only [Act.put, List.setIfInBounds_toArray, List.set_cons_zero, List.set_cons_succ, List.getElem_toArray, List.getElem_cons_zero, List.getElem_cons_succ]
                  refine wpLate_ready (rs := [7]) (by kernel_rfl) (by simp) ?_
                  refine ReadyL.cons rfl (fun K48 hK48 => ?_) ReadyL.nil
                  have c0 := cell_of_row _ _ 0 _ _ _ HB.out.box; have c1 := cell_of_row _ _ 1 _ _ _ HB.out.box; have c2 := cell_of_row _ _ 2 _ _ _ HB.out.box; have c3 := cell_of_row _ _ 3 _ _ _ HB.out.box; have c4 := cell_of_row _ _ 4 _ _ _ HB.out.box; have c5 := cell_of_row _ _ 5 _ _ _ HB.out.box; have c6 := cell_of_row _ _ 6 _ _ _ HB.out.box; have cz := unfroz HB.out.box; simp only [List.getElem?_toArray, List.getElem?_cons_zero, List.getElem?_cons_succ] at c0 c1 c2 c3 c4 c5 c6
                  go_simp
                  have hbm := (((((((HB.out.store 0 (.string (str a))).store 1 (.int .i64 b)).store 2 (.bool false)).store 3 (.int .i64 0)).store 4 (.int .i64 0)).store 5 (.string ⟨#[]⟩)).store 6 (.int .i64 0))
                  simp only [List.setIfInBounds_toArray, List.set_cons_zero, List.set_cons_succ] at hbm
                  have hm := hbm.g
                  clear k0 k1 k2 k3 k4 kz c0 c1 c2 c3 c4 c5 c6 cz HM HB
                  obtain ⟨k0, k1, k2, k3, k4, kz⟩ := hm.cells
                  have HM := Lib.hid hm
                  have HB := Lib.hid hbm
                  clear hm hbm
                  refine hK48.out _ _ ?hS48x0 (fun hHeld48 => ?_)
                  case hS48x0 => (intro _; exact k0)
                  clear hK48 K48 hHeld
                  have hHeld := hHeld48 (by simp)
                  clear hHeld48
                  refine wpLate_done (by kernel_rfl) ?_ _
                  go_wp2_with fail
                  go_meet
                  exact ⟨wa.heap.size, rfl, HB.out⟩
                refine ReadyL.cons rfl (fun K39 hK39 => ?_) ReadyL.nil
                go_simp
                have hbm := HM.out.newbox #[.string ⟨#[]⟩, .int .i64 0, .bool false, .int .i64 0, .int .i64 0, .string ⟨#[]⟩, .int .i64 0]
                rw [show wr.drew.heap.size = wr.heap.size from rfl] at hbm
                have hm := hbm.g
                clear k0 k1 k2 k3 k4 kz HM
                obtain ⟨k0, k1, k2, k3, k4, kz⟩ := hm.cells
                have HM := Lib.hid hm
                have HB := Lib.hid hbm
                clear hm hbm
                refine hK39.out _ _ ?hS39x1 (fun hHeld39 => ?_)
                case hS39x1 => (intro _; exact k0)
                clear hK39 K39 hHeld
                have hHeld := hHeld39 (by simp)
                clear hHeld39
                refine wpLate_ready (rs := [1]) (by kernel_rfl) (by simp) ?_
                refine ReadyL.cons rfl (fun K49 hK49 => ?_) ReadyL.nil
                go_simp
                refine (txt_some B pr w.heap.size _ _ HM.out.rd HM.out.bb a r1 T1.out).mono ?_
                rintro e wa ⟨rfl, hr, hg⟩
                have hm := HM.out.read hg hr
                have hbm := HB.out.read hg hr
                clear HB
                have HB := Lib.hid hbm
                clear hbm
                clear hr hg k0 k1 k2 k3 k4 kz HM
                obtain ⟨k0, k1, k2, k3, k4, kz⟩ := hm.cells
                have HM := Lib.hid hm
                clear hm
                refine hK49.out _ _ ?hS49x0 (fun hHeld49 => ?_)
                case hS49x0 => (intro _; exact k0)
                clear hK49 K49 hHeld
                have hHeld := hHeld49 (by simp)
                clear hHeld49
                refine wpLate_ready (rs := [3]) (by kernel_rfl) (by simp) ?_
                refine ReadyL.cons rfl (fun K50 hK50 => ?_) ReadyL.nil
                go_simp
                refine (number_some B pr _ r2 b _ HM.out.rd T2.out).mono ?_
                rintro e wb ⟨rfl, hr, hg⟩
                have hm := HM.out.read hg hr
                have hbm := HB.out.read hg hr
                clear HB
                have HB := Lib.hid hbm
                clear hbm
                clear hr hg k0 k1 k2 k3 k4 kz HM
                obtain ⟨k0, k1, k2, k3, k4, kz⟩ := hm.cells
                have HM := Lib.hid hm
                clear hm
                refine hK50.out _ _ ?hS50x0 (fun hHeld50 => ?_)
                case hS50x0 => (intro _; exact k0)
                clear hK50 K50 hHeld
                have hHeld := hHeld50 (by simp)
                clear hHeld50
                refine' wpLate_take (i := 4) (v := ?v51) rfl (by kernel_rfl) (by kernel_rfl) (by kernel_rfl) (by kernel_rfl) (by kernel_rfl) (fun _ _ _ h => h) (Or.inl ⟨by rfl, ?hy51⟩) (by assumption) ?rest51
                case hy51 => (intro w hSw; (try dsimp only at hSw); go_simp; try with_reducible rfl)
                try simp only [Act.put, List.setIfInBounds_toArray, List.set_cons_zero, List.set_cons_succ, List.getElem_toArray, List.getElem_cons_zero, List.getElem_cons_succ]
                refine' wpLate_take (i := 5) (v := ?v52) rfl (by kernel_rfl) (by kernel_rfl) (by kernel_rfl) (by kernel_rfl) (by kernel_rfl) (fun _ _ _ h => h) (Or.inl ⟨by rfl, ?hy52⟩) (by assumption) ?rest52
                case hy52 => (intro w hSw; (try dsimp only at hSw); go_simp; try with_reducible rfl)
                try simp only [Act.put, List.setIfInBounds_toArray, List.set_cons_zero, List.set_cons_succ, List.getElem_toArray, List.getElem_cons_zero, List.getElem_cons_succ]
                refine wpLate_ready (rs := [7]) (by kernel_rfl) (by simp) ?_
                refine ReadyL.cons rfl (fun K53 hK53 => ?_) ReadyL.nil
                have c0 := cell_of_row _ _ 0 _ _ _ HB.out.box; have c1 := cell_of_row _ _ 1 _ _ _ HB.out.box; have c2 := cell_of_row _ _ 2 _ _ _ HB.out.box; have c3 := cell_of_row _ _ 3 _ _ _ HB.out.box; have c4 := cell_of_row _ _ 4 _ _ _ HB.out.box; have c5 := cell_of_row _ _ 5 _ _ _ HB.out.box; have c6 := cell_of_row _ _ 6 _ _ _ HB.out.box; have cz := unfroz HB.out.box; simp only [List.getElem?_toArray, List.getElem?_cons_zero, List.getElem?_cons_succ] at c0 c1 c2 c3 c4 c5 c6
                go_simp
                have hbm := (((((((HB.out.store 0 (.string (str a))).store 1 (.int .i64 b)).store 2 (.bool false)).store 3 (.int .i64 0)).store 4 (.int .i64 0)).store 5 (.string ⟨#[]⟩)).store 6 (.int .i64 0))
                simp only [List.setIfInBounds_toArray, List.set_cons_zero, List.set_cons_succ] at hbm
                have hm := hbm.g
                clear k0 k1 k2 k3 k4 kz c0 c1 c2 c3 c4 c5 c6 cz HM HB
                obtain ⟨k0, k1, k2, k3, k4, kz⟩ := hm.cells
                have HM := Lib.hid hm
                have HB := Lib.hid hbm
                clear hm hbm
                refine hK53.out _ _ ?hS53x0 (fun hHeld53 => ?_)
                case hS53x0 => (intro _; exact k0)
                clear hK53 K53 hHeld
                have hHeld := hHeld53 (by simp)
                clear hHeld53
                refine wpLate_done (by kernel_rfl) ?_ _
                go_wp2_with fail
                go_meet
                exact ⟨wr.heap.size, rfl, HB.out⟩
              case rest =>
                obtain ⟨b4, rfl, hbm⟩ := hcut
                clear k0 k1 k2 k3 k4 kz HM
                obtain ⟨k0, k1, k2, k3, k4, kz⟩ := hbm.g.cells
                have c0 := cell_of_row _ _ 0 _ _ _ hbm.box; have c1 := cell_of_row _ _ 1 _ _ _ hbm.box; have c2 := cell_of_row _ _ 2 _ _ _ hbm.box; have c3 := cell_of_row _ _ 3 _ _ _ hbm.box; have c4 := cell_of_row _ _ 4 _ _ _ hbm.box; have c5 := cell_of_row _ _ 5 _ _ _ hbm.box; have c6 := cell_of_row _ _ 6 _ _ _ hbm.box; have cz := unfroz hbm.box; simp only [List.getElem?_toArray, List.getElem?_cons_zero, List.getElem?_cons_succ] at c0 c1 c2 c3 c4 c5 c6
                have HM := Lib.hid hbm.g
                have HB := Lib.hid hbm
                clear hbm
                go_wp2_with fail
                rcases t3 : num r2 with _ | ⟨c, r3⟩
                · have T3 := Lib.hid t3
                  have HN : Hid (raw1 rest = none) := by
                    show raw1 rest = none
                    unfold raw1 raw
                    rw [T1.out]
                    simp only
                    rw [T2.out]
                    simp only
                    rw [T3.out]
                  have HNO : Hid (parse l = none) := by
                      have hn : many raw1 m l5 = none := many_none (k := k + 1) (by omega) (by rw [many, HP.out]; simp only; rw [HN.out])
                      show parse l = none
                      unfold parse
                      rw [E1.out]
                      simp only
                      rw [E2.out]
                      simp only
                      rw [E3.out]
                      simp only
                      rw [E4.out]
                      simp only
                      rw [E5.out]
                      simp only
                      rw [hn]
                  clear t3 HN
                  refine (number_none B pr _ _ HM.out.rd T3.out).mono ?_
                  rintro e w1 ⟨rfl, rfl⟩
                  exact ⟨rfl, .inl ⟨HNO.out, rfl, HM.out.grown⟩⟩
                have T3 := Lib.hid t3
                have n3 := num_bd t3
                have n3a := n3.1
                have n3b := n3.2
                clear n3
                have v3 : IntKind.i64.wrap c = c := IntWalk.i64_in _ (by omega)
                clear t3
                refine (number_some B pr _ r3 c _ HM.out.rd T3.out).mono ?_
                rintro e w1 ⟨rfl, hr, hg⟩
                have hbm := HB.out.read hg hr
                clear hr hg
                clear k0 k1 k2 k3 k4 kz c0 c1 c2 c3 c4 c5 c6 cz HM HB
                obtain ⟨k0, k1, k2, k3, k4, kz⟩ := hbm.g.cells
                have c0 := cell_of_row _ _ 0 _ _ _ hbm.box; have c1 := cell_of_row _ _ 1 _ _ _ hbm.box; have c2 := cell_of_row _ _ 2 _ _ _ hbm.box; have c3 := cell_of_row _ _ 3 _ _ _ hbm.box; have c4 := cell_of_row _ _ 4 _ _ _ hbm.box; have c5 := cell_of_row _ _ 5 _ _ _ hbm.box; have c6 := cell_of_row _ _ 6 _ _ _ hbm.box; have cz := unfroz hbm.box; simp only [List.getElem?_toArray, List.getElem?_cons_zero, List.getElem?_cons_succ] at c0 c1 c2 c3 c4 c5 c6
                have HM := Lib.hid hbm.g
                have HB := Lib.hid hbm
                clear hbm
                go_upto_region 14 with fail
                rcases t4 : num r3 with _ | ⟨d, r4⟩
                · have T4 := Lib.hid t4
                  have HN : Hid (raw1 rest = none) := by
                    show raw1 rest = none
                    unfold raw1 raw
                    rw [T1.out]
                    simp only
                    rw [T2.out]
                    simp only
                    rw [T3.out]
                    simp only
                    rw [T4.out]
                  have HNO : Hid (parse l = none) := by
                      have hn : many raw1 m l5 = none := many_none (k := k + 1) (by omega) (by rw [many, HP.out]; simp only; rw [HN.out])
                      show parse l = none
                      unfold parse
                      rw [E1.out]
                      simp only
                      rw [E2.out]
                      simp only
                      rw [E3.out]
                      simp only
                      rw [E4.out]
                      simp only
                      rw [E5.out]
                      simp only
                      rw [hn]
                  clear t4 HN
                  refine wp_region_late (fun w' => w'.cell? ⟨w.heap.size, 0, none⟩ = some (.pointer (some ⟨pr, 0, none⟩))) [] mixed ?hS0 (fun hHeld => ?_)
                  case hS0 => (try dsimp only); simp [*, go_sem]
                  have hbm := HB.out.drew
                  clear k0 k1 k2 k3 k4 kz c0 c1 c2 c3 c4 c5 c6 cz HM HB
                  obtain ⟨k0, k1, k2, k3, k4, kz⟩ := hbm.g.cells
                  have c0 := cell_of_row _ _ 0 _ _ _ hbm.box; have c1 := cell_of_row _ _ 1 _ _ _ hbm.box; have c2 := cell_of_row _ _ 2 _ _ _ hbm.box; have c3 := cell_of_row _ _ 3 _ _ _ hbm.box; have c4 := cell_of_row _ _ 4 _ _ _ hbm.box; have c5 := cell_of_row _ _ 5 _ _ _ hbm.box; have c6 := cell_of_row _ _ 6 _ _ _ hbm.box; have cz := unfroz hbm.box; simp only [List.getElem?_toArray, List.getElem?_cons_zero, List.getElem?_cons_succ] at c0 c1 c2 c3 c4 c5 c6
                  have HM := Lib.hid hbm.g
                  have HB := Lib.hid hbm
                  clear hbm
                  refine' wpLate_take (i := 0) (v := ?v54) rfl (by kernel_rfl) (by kernel_rfl) (by kernel_rfl) (by kernel_rfl) (by kernel_rfl) (fun _ _ _ h => h) (Or.inl ⟨by rfl, ?hy54⟩) (by assumption) ?rest54
                  case hy54 => (intro w hSw; (try dsimp only at hSw); go_simp; try with_reducible rfl)
                  try simp only [Act.put, List.setIfInBounds_toArray, List.set_cons_zero, List.set_cons_succ, List.getElem_toArray, List.getElem_cons_zero, List.getElem_cons_succ]
                  refine' wpLate_take (i := 1) (v := ?v55) rfl (by kernel_rfl) (by kernel_rfl) (by kernel_rfl) (by kernel_rfl) (by kernel_rfl) (fun _ _ _ h => h) (Or.inl ⟨by rfl, ?hy55⟩) (by assumption) ?rest55
                  case hy55 => (intro w hSw; (try dsimp only at hSw); go_simp; try with_reducible rfl)
                  try simp only [Act.put, List.setIfInBounds_toArray, List.set_cons_zero, List.set_cons_succ, List.getElem_toArray, List.getElem_cons_zero, List.getElem_cons_succ]
                  refine' wpLate_take (i := 2) (v := ?v56) rfl (by kernel_rfl) (by kernel_rfl) (by kernel_rfl) (by kernel_rfl) (by kernel_rfl) (fun _ _ _ h => h) (Or.inl ⟨by rfl, ?hy56⟩) (by assumption) ?rest56
                  case hy56 => (intro w hSw; (try dsimp only at hSw); go_simp; try with_reducible rfl)
                  try simp only [Act.put, List.setIfInBounds_toArray, List.set_cons_zero, List.set_cons_succ, List.getElem_toArray, List.getElem_cons_zero, List.getElem_cons_succ]
                  refine' wpLate_take (i := 5) (v := ?v57) rfl (by kernel_rfl) (by kernel_rfl) (by kernel_rfl) (by kernel_rfl) (by kernel_rfl) (fun _ _ _ h => h) (Or.inl ⟨by rfl, ?hy57⟩) (by assumption) ?rest57
                  case hy57 => (intro w hSw; (try dsimp only at hSw); go_simp; try with_reducible rfl)
                  try simp only [Act.put, List.setIfInBounds_toArray, List.set_cons_zero, List.set_cons_succ, List.getElem_toArray, List.getElem_cons_zero, List.getElem_cons_succ]
                  refine' wpLate_take (i := 8) (v := ?v58) rfl (by kernel_rfl) (by kernel_rfl) (by kernel_rfl) (by kernel_rfl) (by kernel_rfl) (fun _ _ _ h => h) (Or.inl ⟨by rfl, ?hy58⟩) (by assumption) ?rest58
                  case hy58 => (intro w hSw; (try dsimp only at hSw); go_simp; try with_reducible rfl)
                  try simp only [Act.put, List.setIfInBounds_toArray, List.set_cons_zero, List.set_cons_succ, List.getElem_toArray, List.getElem_cons_zero, List.getElem_cons_succ]
                  refine wpLate_ready (rs := [3]) (by kernel_rfl) (by simp) ?_
                  refine ReadyL.cons rfl (fun K59 hK59 => ?_) ReadyL.nil
                  go_simp
                  refine (number_none B pr _ _ HM.out.rd T4.out).mono ?_
                  rintro e w1 ⟨rfl, rfl⟩
                  exact ⟨rfl, .inl ⟨HNO.out, rfl, HM.out.grown⟩⟩
                have T4 := Lib.hid t4
                have n4 := num_bd t4
                have n4a := n4.1
                have n4b := n4.2
                clear n4
                have v4 : IntKind.i64.wrap d = d := IntWalk.i64_in _ (by omega)
                clear t4
                rcases t5 : num r4 with _ | ⟨e, r5⟩
                · have T5 := Lib.hid t5
                  have HN : Hid (raw1 rest = none) := by
                    show raw1 rest = none
                    unfold raw1 raw
                    rw [T1.out]
                    simp only
                    rw [T2.out]
                    simp only
                    rw [T3.out]
                    simp only
                    rw [T4.out]
                    simp only
                    rw [T5.out]
                  have HNO : Hid (parse l = none) := by
                      have hn : many raw1 m l5 = none := many_none (k := k + 1) (by omega) (by rw [many, HP.out]; simp only; rw [HN.out])
                      show parse l = none
                      unfold parse
                      rw [E1.out]
                      simp only
                      rw [E2.out]
                      simp only
                      rw [E3.out]
                      simp only
                      rw [E4.out]
                      simp only
                      rw [E5.out]
                      simp only
                      rw [hn]
                  clear t5 HN
                  refine wp_region_late (fun w' => w'.cell? ⟨w.heap.size, 0, none⟩ = some (.pointer (some ⟨pr, 0, none⟩))) [] mixed ?hS0 (fun hHeld => ?_)
                  case hS0 => (try dsimp only); simp [*, go_sem]
                  have hbm := HB.out.drew
                  clear k0 k1 k2 k3 k4 kz c0 c1 c2 c3 c4 c5 c6 cz HM HB
                  obtain ⟨k0, k1, k2, k3, k4, kz⟩ := hbm.g.cells
                  have c0 := cell_of_row _ _ 0 _ _ _ hbm.box; have c1 := cell_of_row _ _ 1 _ _ _ hbm.box; have c2 := cell_of_row _ _ 2 _ _ _ hbm.box; have c3 := cell_of_row _ _ 3 _ _ _ hbm.box; have c4 := cell_of_row _ _ 4 _ _ _ hbm.box; have c5 := cell_of_row _ _ 5 _ _ _ hbm.box; have c6 := cell_of_row _ _ 6 _ _ _ hbm.box; have cz := unfroz hbm.box; simp only [List.getElem?_toArray, List.getElem?_cons_zero, List.getElem?_cons_succ] at c0 c1 c2 c3 c4 c5 c6
                  have HM := Lib.hid hbm.g
                  have HB := Lib.hid hbm
                  clear hbm
                  refine' wpLate_take (i := 0) (v := ?v60) rfl (by kernel_rfl) (by kernel_rfl) (by kernel_rfl) (by kernel_rfl) (by kernel_rfl) (fun _ _ _ h => h) (Or.inl ⟨by rfl, ?hy60⟩) (by assumption) ?rest60
                  case hy60 => (intro w hSw; (try dsimp only at hSw); go_simp; try with_reducible rfl)
                  try simp only [Act.put, List.setIfInBounds_toArray, List.set_cons_zero, List.set_cons_succ, List.getElem_toArray, List.getElem_cons_zero, List.getElem_cons_succ]
                  refine' wpLate_take (i := 1) (v := ?v61) rfl (by kernel_rfl) (by kernel_rfl) (by kernel_rfl) (by kernel_rfl) (by kernel_rfl) (fun _ _ _ h => h) (Or.inl ⟨by rfl, ?hy61⟩) (by assumption) ?rest61
                  case hy61 => (intro w hSw; (try dsimp only at hSw); go_simp; try with_reducible rfl)
                  try simp only [Act.put, List.setIfInBounds_toArray, List.set_cons_zero, List.set_cons_succ, List.getElem_toArray, List.getElem_cons_zero, List.getElem_cons_succ]
                  refine' wpLate_take (i := 2) (v := ?v62) rfl (by kernel_rfl) (by kernel_rfl) (by kernel_rfl) (by kernel_rfl) (by kernel_rfl) (fun _ _ _ h => h) (Or.inl ⟨by rfl, ?hy62⟩) (by assumption) ?rest62
                  case hy62 => (intro w hSw; (try dsimp only at hSw); go_simp; try with_reducible rfl)
                  try simp only [Act.put, List.setIfInBounds_toArray, List.set_cons_zero, List.set_cons_succ, List.getElem_toArray, List.getElem_cons_zero, List.getElem_cons_succ]
                  refine' wpLate_take (i := 5) (v := ?v63) rfl (by kernel_rfl) (by kernel_rfl) (by kernel_rfl) (by kernel_rfl) (by kernel_rfl) (fun _ _ _ h => h) (Or.inl ⟨by rfl, ?hy63⟩) (by assumption) ?rest63
                  case hy63 => (intro w hSw; (try dsimp only at hSw); go_simp; try with_reducible rfl)
                  try simp only [Act.put, List.setIfInBounds_toArray, List.set_cons_zero, List.set_cons_succ, List.getElem_toArray, List.getElem_cons_zero, List.getElem_cons_succ]
                  refine' wpLate_take (i := 8) (v := ?v64) rfl (by kernel_rfl) (by kernel_rfl) (by kernel_rfl) (by kernel_rfl) (by kernel_rfl) (fun _ _ _ h => h) (Or.inl ⟨by rfl, ?hy64⟩) (by assumption) ?rest64
                  case hy64 => (intro w hSw; (try dsimp only at hSw); go_simp; try with_reducible rfl)
                  try simp only [Act.put, List.setIfInBounds_toArray, List.set_cons_zero, List.set_cons_succ, List.getElem_toArray, List.getElem_cons_zero, List.getElem_cons_succ]
                  refine wpLate_ready (rs := [3]) (by kernel_rfl) (by simp) ?_
                  refine ReadyL.cons rfl (fun K65 hK65 => ?_) ReadyL.nil
                  go_simp
                  refine (number_some B pr _ r4 d _ HM.out.rd T4.out).mono ?_
                  rintro e wa ⟨rfl, hr, hg⟩
                  have hbm := HB.out.read hg hr
                  clear hr hg
                  clear k0 k1 k2 k3 k4 kz c0 c1 c2 c3 c4 c5 c6 cz HM HB
                  obtain ⟨k0, k1, k2, k3, k4, kz⟩ := hbm.g.cells
                  have c0 := cell_of_row _ _ 0 _ _ _ hbm.box; have c1 := cell_of_row _ _ 1 _ _ _ hbm.box; have c2 := cell_of_row _ _ 2 _ _ _ hbm.box; have c3 := cell_of_row _ _ 3 _ _ _ hbm.box; have c4 := cell_of_row _ _ 4 _ _ _ hbm.box; have c5 := cell_of_row _ _ 5 _ _ _ hbm.box; have c6 := cell_of_row _ _ 6 _ _ _ hbm.box; have cz := unfroz hbm.box; simp only [List.getElem?_toArray, List.getElem?_cons_zero, List.getElem?_cons_succ] at c0 c1 c2 c3 c4 c5 c6
                  have HM := Lib.hid hbm.g
                  have HB := Lib.hid hbm
                  clear hbm
                  refine hK65.out _ _ ?hS65x0 (fun hHeld65 => ?_)
                  case hS65x0 => (intro _; exact k0)
                  clear hK65 K65 hHeld
                  have hHeld := hHeld65 (by simp)
                  clear hHeld65
                  refine' wpLate_take (i := 4) (v := ?v66) rfl (by kernel_rfl) (by kernel_rfl) (by kernel_rfl) (by kernel_rfl) (by kernel_rfl) (fun _ _ _ h => h) (Or.inl ⟨by rfl, ?hy66⟩) (by assumption) ?rest66
                  case hy66 => (intro w hSw; (try dsimp only at hSw); go_simp; try with_reducible rfl)
                  try simp only [Act.put, List.setIfInBounds_toArray, List.set_cons_zero, List.set_cons_succ, List.getElem_toArray, List.getElem_cons_zero, List.getElem_cons_succ]
                  refine wpLate_ready (rs := [6]) (by kernel_rfl) (by simp) ?_
                  refine ReadyL.cons rfl (fun K67 hK67 => ?_) ReadyL.nil
                  go_simp
                  refine (number_none B pr _ _ HM.out.rd T5.out).mono ?_
                  rintro e w1 ⟨rfl, rfl⟩
                  exact ⟨rfl, .inl ⟨HNO.out, rfl, HM.out.grown⟩⟩
                have T5 := Lib.hid t5
                have n5 := num_bd t5
                have n5a := n5.1
                have n5b := n5.2
                clear n5
                have v5 : IntKind.i64.wrap e = e := IntWalk.i64_in _ (by omega)
                clear t5
                refine wp_region_late (fun w' => w'.cell? ⟨w.heap.size, 0, none⟩ = some (.pointer (some ⟨pr, 0, none⟩))) [] mixed ?hS0 (fun hHeld => ?_)
                case hS0 => (try dsimp only); simp [*, go_sem]
                have hbm := HB.out.drew
                clear k0 k1 k2 k3 k4 kz c0 c1 c2 c3 c4 c5 c6 cz HM HB
                obtain ⟨k0, k1, k2, k3, k4, kz⟩ := hbm.g.cells
                have c0 := cell_of_row _ _ 0 _ _ _ hbm.box; have c1 := cell_of_row _ _ 1 _ _ _ hbm.box; have c2 := cell_of_row _ _ 2 _ _ _ hbm.box; have c3 := cell_of_row _ _ 3 _ _ _ hbm.box; have c4 := cell_of_row _ _ 4 _ _ _ hbm.box; have c5 := cell_of_row _ _ 5 _ _ _ hbm.box; have c6 := cell_of_row _ _ 6 _ _ _ hbm.box; have cz := unfroz hbm.box; simp only [List.getElem?_toArray, List.getElem?_cons_zero, List.getElem?_cons_succ] at c0 c1 c2 c3 c4 c5 c6
                have HM := Lib.hid hbm.g
                have HB := Lib.hid hbm
                clear hbm
                refine' wpLate_take (i := 0) (v := ?v68) rfl (by kernel_rfl) (by kernel_rfl) (by kernel_rfl) (by kernel_rfl) (by kernel_rfl) (fun _ _ _ h => h) (Or.inl ⟨by rfl, ?hy68⟩) (by assumption) ?rest68
                case hy68 => (intro w hSw; (try dsimp only at hSw); go_simp; try with_reducible rfl)
                try simp only [Act.put, List.setIfInBounds_toArray, List.set_cons_zero, List.set_cons_succ, List.getElem_toArray, List.getElem_cons_zero, List.getElem_cons_succ]
                refine' wpLate_take (i := 1) (v := ?v69) rfl (by kernel_rfl) (by kernel_rfl) (by kernel_rfl) (by kernel_rfl) (by kernel_rfl) (fun _ _ _ h => h) (Or.inl ⟨by rfl, ?hy69⟩) (by assumption) ?rest69
                case hy69 => (intro w hSw; (try dsimp only at hSw); go_simp; try with_reducible rfl)
                try simp only [Act.put, List.setIfInBounds_toArray, List.set_cons_zero, List.set_cons_succ, List.getElem_toArray, List.getElem_cons_zero, List.getElem_cons_succ]
                refine' wpLate_take (i := 2) (v := ?v70) rfl (by kernel_rfl) (by kernel_rfl) (by kernel_rfl) (by kernel_rfl) (by kernel_rfl) (fun _ _ _ h => h) (Or.inl ⟨by rfl, ?hy70⟩) (by assumption) ?rest70
                case hy70 => (intro w hSw; (try dsimp only at hSw); go_simp; try with_reducible rfl)
                try simp only [Act.put, List.setIfInBounds_toArray, List.set_cons_zero, List.set_cons_succ, List.getElem_toArray, List.getElem_cons_zero, List.getElem_cons_succ]
                refine' wpLate_take (i := 5) (v := ?v71) rfl (by kernel_rfl) (by kernel_rfl) (by kernel_rfl) (by kernel_rfl) (by kernel_rfl) (fun _ _ _ h => h) (Or.inl ⟨by rfl, ?hy71⟩) (by assumption) ?rest71
                case hy71 => (intro w hSw; (try dsimp only at hSw); go_simp; try with_reducible rfl)
                try simp only [Act.put, List.setIfInBounds_toArray, List.set_cons_zero, List.set_cons_succ, List.getElem_toArray, List.getElem_cons_zero, List.getElem_cons_succ]
                refine' wpLate_take (i := 8) (v := ?v72) rfl (by kernel_rfl) (by kernel_rfl) (by kernel_rfl) (by kernel_rfl) (by kernel_rfl) (fun _ _ _ h => h) (Or.inl ⟨by rfl, ?hy72⟩) (by assumption) ?rest72
                case hy72 => (intro w hSw; (try dsimp only at hSw); go_simp; try with_reducible rfl)
                try simp only [Act.put, List.setIfInBounds_toArray, List.set_cons_zero, List.set_cons_succ, List.getElem_toArray, List.getElem_cons_zero, List.getElem_cons_succ]
                refine wpLate_ready (rs := [3]) (by kernel_rfl) (by simp) ?_
                refine ReadyL.cons rfl (fun K73 hK73 => ?_) ReadyL.nil
                go_simp
                refine (number_some B pr _ r4 d _ HM.out.rd T4.out).mono ?_
                rintro e wa ⟨rfl, hr, hg⟩
                have hbm := HB.out.read hg hr
                clear hr hg
                clear k0 k1 k2 k3 k4 kz c0 c1 c2 c3 c4 c5 c6 cz HM HB
                obtain ⟨k0, k1, k2, k3, k4, kz⟩ := hbm.g.cells
                have c0 := cell_of_row _ _ 0 _ _ _ hbm.box; have c1 := cell_of_row _ _ 1 _ _ _ hbm.box; have c2 := cell_of_row _ _ 2 _ _ _ hbm.box; have c3 := cell_of_row _ _ 3 _ _ _ hbm.box; have c4 := cell_of_row _ _ 4 _ _ _ hbm.box; have c5 := cell_of_row _ _ 5 _ _ _ hbm.box; have c6 := cell_of_row _ _ 6 _ _ _ hbm.box; have cz := unfroz hbm.box; simp only [List.getElem?_toArray, List.getElem?_cons_zero, List.getElem?_cons_succ] at c0 c1 c2 c3 c4 c5 c6
                have HM := Lib.hid hbm.g
                have HB := Lib.hid hbm
                clear hbm
                refine hK73.out _ _ ?hS73x0 (fun hHeld73 => ?_)
                case hS73x0 => (intro _; exact k0)
                clear hK73 K73 hHeld
                have hHeld := hHeld73 (by simp)
                clear hHeld73
                refine' wpLate_take (i := 4) (v := ?v74) rfl (by kernel_rfl) (by kernel_rfl) (by kernel_rfl) (by kernel_rfl) (by kernel_rfl) (fun _ _ _ h => h) (Or.inl ⟨by rfl, ?hy74⟩) (by assumption) ?rest74
                case hy74 => (intro w hSw; (try dsimp only at hSw); go_simp; try with_reducible rfl)
                try simp only [Act.put, List.setIfInBounds_toArray, List.set_cons_zero, List.set_cons_succ, List.getElem_toArray, List.getElem_cons_zero, List.getElem_cons_succ]
                refine wpLate_ready (rs := [6]) (by kernel_rfl) (by simp) ?_
                refine ReadyL.cons rfl (fun K75 hK75 => ?_) ReadyL.nil
                go_simp
                refine (number_some B pr _ r5 e _ HM.out.rd T5.out).mono ?_
                rintro e wb ⟨rfl, hr, hg⟩
                have hbm := HB.out.read hg hr
                clear hr hg
                clear k0 k1 k2 k3 k4 kz c0 c1 c2 c3 c4 c5 c6 cz HM HB
                obtain ⟨k0, k1, k2, k3, k4, kz⟩ := hbm.g.cells
                have c0 := cell_of_row _ _ 0 _ _ _ hbm.box; have c1 := cell_of_row _ _ 1 _ _ _ hbm.box; have c2 := cell_of_row _ _ 2 _ _ _ hbm.box; have c3 := cell_of_row _ _ 3 _ _ _ hbm.box; have c4 := cell_of_row _ _ 4 _ _ _ hbm.box; have c5 := cell_of_row _ _ 5 _ _ _ hbm.box; have c6 := cell_of_row _ _ 6 _ _ _ hbm.box; have cz := unfroz hbm.box; simp only [List.getElem?_toArray, List.getElem?_cons_zero, List.getElem?_cons_succ] at c0 c1 c2 c3 c4 c5 c6
                have HM := Lib.hid hbm.g
                have HB := Lib.hid hbm
                clear hbm
                refine hK75.out _ _ ?hS75x0 (fun hHeld75 => ?_)
                case hS75x0 => (intro _; exact k0)
                clear hK75 K75 hHeld
                have hHeld := hHeld75 (by simp)
                clear hHeld75
                refine' wpLate_take (i := 7) (v := ?v76) rfl (by kernel_rfl) (by kernel_rfl) (by kernel_rfl) (by kernel_rfl) (by kernel_rfl) (fun _ _ _ h => h) (Or.inl ⟨by rfl, ?hy76⟩) (by assumption) ?rest76
                case hy76 => (intro w hSw; (try dsimp only at hSw); go_simp; try with_reducible rfl)
                try simp only [Act.put, List.setIfInBounds_toArray, List.set_cons_zero, List.set_cons_succ, List.getElem_toArray, List.getElem_cons_zero, List.getElem_cons_succ]
                refine wpLate_ready (rs := [9]) (by kernel_rfl) (by simp) ?_
                refine ReadyL.cons rfl (fun K77 hK77 => ?_) ReadyL.nil
                go_simp
                have hbm := HB.out.store 2 (.bool (c == 1))
                simp only [List.setIfInBounds_toArray, List.set_cons_zero, List.set_cons_succ] at hbm
                clear k0 k1 k2 k3 k4 kz c0 c1 c2 c3 c4 c5 c6 cz HM HB
                obtain ⟨k0, k1, k2, k3, k4, kz⟩ := hbm.g.cells
                have c0 := cell_of_row _ _ 0 _ _ _ hbm.box; have c1 := cell_of_row _ _ 1 _ _ _ hbm.box; have c2 := cell_of_row _ _ 2 _ _ _ hbm.box; have c3 := cell_of_row _ _ 3 _ _ _ hbm.box; have c4 := cell_of_row _ _ 4 _ _ _ hbm.box; have c5 := cell_of_row _ _ 5 _ _ _ hbm.box; have c6 := cell_of_row _ _ 6 _ _ _ hbm.box; have cz := unfroz hbm.box; simp only [List.getElem?_toArray, List.getElem?_cons_zero, List.getElem?_cons_succ] at c0 c1 c2 c3 c4 c5 c6
                have HM := Lib.hid hbm.g
                have HB := Lib.hid hbm
                clear hbm
                refine hK77.out _ _ ?hS77x0 (fun hHeld77 => ?_)
                case hS77x0 => (intro _; exact k0)
                clear hK77 K77 hHeld
                have hHeld := hHeld77 (by simp)
                clear hHeld77
                refine' wpLate_take (i := 10) (v := ?v78) rfl (by kernel_rfl) (by kernel_rfl) (by kernel_rfl) (by kernel_rfl) (by kernel_rfl) (fun _ _ _ h => h) (Or.inl ⟨by rfl, ?hy78⟩) (by assumption) ?rest78
                case hy78 => (intro w hSw; (try dsimp only at hSw); go_simp; try with_reducible rfl)
                try simp only [Act.put, List.setIfInBounds_toArray, List.set_cons_zero, List.set_cons_succ, List.getElem_toArray, List.getElem_cons_zero, List.getElem_cons_succ]
                refine wpLate_ready (rs := [11]) (by kernel_rfl) (by simp) ?_
                refine ReadyL.cons rfl (fun K79 hK79 => ?_) ReadyL.nil
                go_simp
                have hbm := HB.out.store 3 (.int .i64 d)
                simp only [List.setIfInBounds_toArray, List.set_cons_zero, List.set_cons_succ] at hbm
                clear k0 k1 k2 k3 k4 kz c0 c1 c2 c3 c4 c5 c6 cz HM HB
                obtain ⟨k0, k1, k2, k3, k4, kz⟩ := hbm.g.cells
                have c0 := cell_of_row _ _ 0 _ _ _ hbm.box; have c1 := cell_of_row _ _ 1 _ _ _ hbm.box; have c2 := cell_of_row _ _ 2 _ _ _ hbm.box; have c3 := cell_of_row _ _ 3 _ _ _ hbm.box; have c4 := cell_of_row _ _ 4 _ _ _ hbm.box; have c5 := cell_of_row _ _ 5 _ _ _ hbm.box; have c6 := cell_of_row _ _ 6 _ _ _ hbm.box; have cz := unfroz hbm.box; simp only [List.getElem?_toArray, List.getElem?_cons_zero, List.getElem?_cons_succ] at c0 c1 c2 c3 c4 c5 c6
                have HM := Lib.hid hbm.g
                have HB := Lib.hid hbm
                clear hbm
                refine hK79.out _ _ ?hS79x0 (fun hHeld79 => ?_)
                case hS79x0 => (intro _; exact k0)
                clear hK79 K79 hHeld
                have hHeld := hHeld79 (by simp)
                clear hHeld79
                refine' wpLate_take (i := 12) (v := ?v80) rfl (by kernel_rfl) (by kernel_rfl) (by kernel_rfl) (by kernel_rfl) (by kernel_rfl) (fun _ _ _ h => h) (Or.inl ⟨by rfl, ?hy80⟩) (by assumption) ?rest80
                case hy80 => (intro w hSw; (try dsimp only at hSw); go_simp; try with_reducible rfl)
                try simp only [Act.put, List.setIfInBounds_toArray, List.set_cons_zero, List.set_cons_succ, List.getElem_toArray, List.getElem_cons_zero, List.getElem_cons_succ]
                refine wpLate_ready (rs := [13]) (by kernel_rfl) (by simp) ?_
                refine ReadyL.cons rfl (fun K81 hK81 => ?_) ReadyL.nil
                go_simp
                have hbm := HB.out.store 4 (.int .i64 e)
                simp only [List.setIfInBounds_toArray, List.set_cons_zero, List.set_cons_succ] at hbm
                clear k0 k1 k2 k3 k4 kz c0 c1 c2 c3 c4 c5 c6 cz HM HB
                obtain ⟨k0, k1, k2, k3, k4, kz⟩ := hbm.g.cells
                have c0 := cell_of_row _ _ 0 _ _ _ hbm.box; have c1 := cell_of_row _ _ 1 _ _ _ hbm.box; have c2 := cell_of_row _ _ 2 _ _ _ hbm.box; have c3 := cell_of_row _ _ 3 _ _ _ hbm.box; have c4 := cell_of_row _ _ 4 _ _ _ hbm.box; have c5 := cell_of_row _ _ 5 _ _ _ hbm.box; have c6 := cell_of_row _ _ 6 _ _ _ hbm.box; have cz := unfroz hbm.box; simp only [List.getElem?_toArray, List.getElem?_cons_zero, List.getElem?_cons_succ] at c0 c1 c2 c3 c4 c5 c6
                have HM := Lib.hid hbm.g
                have HB := Lib.hid hbm
                clear hbm
                refine hK81.out _ _ ?hS81x0 (fun hHeld81 => ?_)
                case hS81x0 => (intro _; exact k0)
                clear hK81 K81 hHeld
                have hHeld := hHeld81 (by simp)
                clear hHeld81
                refine wpLate_done (by kernel_rfl) ?_ _
                go_upto_region 15 with fail
                rcases t6 : txt r5 with _ | ⟨f, r6⟩
                · have T6 := Lib.hid t6
                  have HN : Hid (raw1 rest = none) := by
                    show raw1 rest = none
                    unfold raw1 raw
                    rw [T1.out]
                    simp only
                    rw [T2.out]
                    simp only
                    rw [T3.out]
                    simp only
                    rw [T4.out]
                    simp only
                    rw [T5.out]
                    simp only
                    rw [T6.out]
                  have HNO : Hid (parse l = none) := by
                      have hn : many raw1 m l5 = none := many_none (k := k + 1) (by omega) (by rw [many, HP.out]; simp only; rw [HN.out])
                      show parse l = none
                      unfold parse
                      rw [E1.out]
                      simp only
                      rw [E2.out]
                      simp only
                      rw [E3.out]
                      simp only
                      rw [E4.out]
                      simp only
                      rw [E5.out]
                      simp only
                      rw [hn]
                  clear t6 HN
                  refine wp_region_late (fun w' => w'.cell? ⟨w.heap.size, 0, none⟩ = some (.pointer (some ⟨pr, 0, none⟩))) [] mixed ?hS0 (fun hHeld => ?_)
                  case hS0 => (try dsimp only); simp [*, go_sem]
                  have hbm := HB.out.drew
                  clear k0 k1 k2 k3 k4 kz c0 c1 c2 c3 c4 c5 c6 cz HM HB
                  obtain ⟨k0, k1, k2, k3, k4, kz⟩ := hbm.g.cells
                  have c0 := cell_of_row _ _ 0 _ _ _ hbm.box; have c1 := cell_of_row _ _ 1 _ _ _ hbm.box; have c2 := cell_of_row _ _ 2 _ _ _ hbm.box; have c3 := cell_of_row _ _ 3 _ _ _ hbm.box; have c4 := cell_of_row _ _ 4 _ _ _ hbm.box; have c5 := cell_of_row _ _ 5 _ _ _ hbm.box; have c6 := cell_of_row _ _ 6 _ _ _ hbm.box; have cz := unfroz hbm.box; simp only [List.getElem?_toArray, List.getElem?_cons_zero, List.getElem?_cons_succ] at c0 c1 c2 c3 c4 c5 c6
                  have HM := Lib.hid hbm.g
                  have HB := Lib.hid hbm
                  clear hbm
                  refine' wpLate_take (i := 0) (v := ?v82) rfl (by kernel_rfl) (by kernel_rfl) (by kernel_rfl) (by kernel_rfl) (by kernel_rfl) (fun _ _ _ h => h) (Or.inl ⟨by rfl, ?hy82⟩) (by assumption) ?rest82
                  case hy82 => (intro w hSw; (try dsimp only at hSw); go_simp; try with_reducible rfl)
                  try simp only [Act.put, List.setIfInBounds_toArray, List.set_cons_zero, List.set_cons_succ, List.getElem_toArray, List.getElem_cons_zero, List.getElem_cons_succ]
                  refine' wpLate_take (i := 2) (v := ?v83) rfl (by kernel_rfl) (by kernel_rfl) (by kernel_rfl) (by kernel_rfl) (by kernel_rfl) (fun _ _ _ h => h) (Or.inl ⟨by rfl, ?hy83⟩) (by assumption) ?rest83
                  case hy83 => (intro w hSw; (try dsimp only at hSw); go_simp; try with_reducible rfl)
                  try simp only [Act.put, List.setIfInBounds_toArray, List.set_cons_zero, List.set_cons_succ, List.getElem_toArray, List.getElem_cons_zero, List.getElem_cons_succ]
                  refine wpLate_ready (rs := [1]) (by kernel_rfl) (by simp) ?_
                  refine ReadyL.cons rfl (fun K84 hK84 => ?_) ReadyL.nil
                  go_simp
                  refine (txt_none B pr w.heap.size _ _ HM.out.rd HM.out.bb T6.out).mono ?_
                  rintro e w1 ⟨rfl, hg⟩
                  exact ⟨rfl, .inl ⟨HNO.out, rfl, HM.out.grown.trans hg⟩⟩
                have T6 := Lib.hid t6
                clear t6
                rcases t7 : num r6 with _ | ⟨g, r7⟩
                · have T7 := Lib.hid t7
                  have HN : Hid (raw1 rest = none) := by
                    show raw1 rest = none
                    unfold raw1 raw
                    rw [T1.out]
                    simp only
                    rw [T2.out]
                    simp only
                    rw [T3.out]
                    simp only
                    rw [T4.out]
                    simp only
                    rw [T5.out]
                    simp only
                    rw [T6.out]
                    simp only
                    rw [T7.out]
                  have HNO : Hid (parse l = none) := by
                      have hn : many raw1 m l5 = none := many_none (k := k + 1) (by omega) (by rw [many, HP.out]; simp only; rw [HN.out])
                      show parse l = none
                      unfold parse
                      rw [E1.out]
                      simp only
                      rw [E2.out]
                      simp only
                      rw [E3.out]
                      simp only
                      rw [E4.out]
                      simp only
                      rw [E5.out]
                      simp only
                      rw [hn]
                  clear t7 HN
                  refine wp_region_late (fun w' => w'.cell? ⟨w.heap.size, 0, none⟩ = some (.pointer (some ⟨pr, 0, none⟩))) [] mixed ?hS0 (fun hHeld => ?_)
                  case hS0 => (try dsimp only); simp [*, go_sem]
                  have hbm := HB.out.drew
                  clear k0 k1 k2 k3 k4 kz c0 c1 c2 c3 c4 c5 c6 cz HM HB
                  obtain ⟨k0, k1, k2, k3, k4, kz⟩ := hbm.g.cells
                  have c0 := cell_of_row _ _ 0 _ _ _ hbm.box; have c1 := cell_of_row _ _ 1 _ _ _ hbm.box; have c2 := cell_of_row _ _ 2 _ _ _ hbm.box; have c3 := cell_of_row _ _ 3 _ _ _ hbm.box; have c4 := cell_of_row _ _ 4 _ _ _ hbm.box; have c5 := cell_of_row _ _ 5 _ _ _ hbm.box; have c6 := cell_of_row _ _ 6 _ _ _ hbm.box; have cz := unfroz hbm.box; simp only [List.getElem?_toArray, List.getElem?_cons_zero, List.getElem?_cons_succ] at c0 c1 c2 c3 c4 c5 c6
                  have HM := Lib.hid hbm.g
                  have HB := Lib.hid hbm
                  clear hbm
                  refine' wpLate_take (i := 0) (v := ?v85) rfl (by kernel_rfl) (by kernel_rfl) (by kernel_rfl) (by kernel_rfl) (by kernel_rfl) (fun _ _ _ h => h) (Or.inl ⟨by rfl, ?hy85⟩) (by assumption) ?rest85
                  case hy85 => (intro w hSw; (try dsimp only at hSw); go_simp; try with_reducible rfl)
                  try simp only [Act.put, List.setIfInBounds_toArray, List.set_cons_zero, List.set_cons_succ, List.getElem_toArray, List.getElem_cons_zero, List.getElem_cons_succ]
                  refine' wpLate_take (i := 2) (v := ?v86) rfl (by kernel_rfl) (by kernel_rfl) (by kernel_rfl) (by kernel_rfl) (by kernel_rfl) (fun _ _ _ h => h) (Or.inl ⟨by rfl, ?hy86⟩) (by assumption) ?rest86
                  case hy86 => (intro w hSw; (try dsimp only at hSw); go_simp; try with_reducible rfl)
                  try simp only [Act.put, List.setIfInBounds_toArray, List.set_cons_zero, List.set_cons_succ, List.getElem_toArray, List.getElem_cons_zero, List.getElem_cons_succ]
                  refine wpLate_ready (rs := [1]) (by kernel_rfl) (by simp) ?_
                  refine ReadyL.cons rfl (fun K87 hK87 => ?_) ReadyL.nil
                  go_simp
                  refine (txt_some B pr w.heap.size _ _ HM.out.rd HM.out.bb f r6 T6.out).mono ?_
                  rintro e wa ⟨rfl, hr, hg⟩
                  have hbm := HB.out.read hg hr
                  clear hr hg
                  clear k0 k1 k2 k3 k4 kz c0 c1 c2 c3 c4 c5 c6 cz HM HB
                  obtain ⟨k0, k1, k2, k3, k4, kz⟩ := hbm.g.cells
                  have c0 := cell_of_row _ _ 0 _ _ _ hbm.box; have c1 := cell_of_row _ _ 1 _ _ _ hbm.box; have c2 := cell_of_row _ _ 2 _ _ _ hbm.box; have c3 := cell_of_row _ _ 3 _ _ _ hbm.box; have c4 := cell_of_row _ _ 4 _ _ _ hbm.box; have c5 := cell_of_row _ _ 5 _ _ _ hbm.box; have c6 := cell_of_row _ _ 6 _ _ _ hbm.box; have cz := unfroz hbm.box; simp only [List.getElem?_toArray, List.getElem?_cons_zero, List.getElem?_cons_succ] at c0 c1 c2 c3 c4 c5 c6
                  have HM := Lib.hid hbm.g
                  have HB := Lib.hid hbm
                  clear hbm
                  refine hK87.out _ _ ?hS87x0 (fun hHeld87 => ?_)
                  case hS87x0 => (intro _; exact k0)
                  clear hK87 K87 hHeld
                  have hHeld := hHeld87 (by simp)
                  clear hHeld87
                  refine' wpLate_take (i := 5) (v := ?v88) rfl (by kernel_rfl) (by kernel_rfl) (by kernel_rfl) (by kernel_rfl) (by kernel_rfl) (fun _ _ _ h => h) (Or.inl ⟨by rfl, ?hy88⟩) (by assumption) ?rest88
                  case hy88 => (intro w hSw; (try dsimp only at hSw); go_simp; try with_reducible rfl)
                  try simp only [Act.put, List.setIfInBounds_toArray, List.set_cons_zero, List.set_cons_succ, List.getElem_toArray, List.getElem_cons_zero, List.getElem_cons_succ]
                  refine wpLate_ready (rs := [3]) (by kernel_rfl) (by simp) ?_
                  refine ReadyL.cons rfl (fun K89 hK89 => ?_) ReadyL.nil
                  go_simp
                  refine (number_none B pr _ _ HM.out.rd T7.out).mono ?_
                  rintro e w1 ⟨rfl, rfl⟩
                  exact ⟨rfl, .inl ⟨HNO.out, rfl, HM.out.grown⟩⟩
                have T7 := Lib.hid t7
                have n7 := num_bd t7
                have n7a := n7.1
                have n7b := n7.2
                clear n7
                have v7 : IntKind.i64.wrap g = g := IntWalk.i64_in _ (by omega)
                clear t7
                refine wp_region_late (fun w' => w'.cell? ⟨w.heap.size, 0, none⟩ = some (.pointer (some ⟨pr, 0, none⟩))) [] mixed ?hS0 (fun hHeld => ?_)
                case hS0 => (try dsimp only); simp [*, go_sem]
                have hbm := HB.out.drew
                clear k0 k1 k2 k3 k4 kz c0 c1 c2 c3 c4 c5 c6 cz HM HB
                obtain ⟨k0, k1, k2, k3, k4, kz⟩ := hbm.g.cells
                have c0 := cell_of_row _ _ 0 _ _ _ hbm.box; have c1 := cell_of_row _ _ 1 _ _ _ hbm.box; have c2 := cell_of_row _ _ 2 _ _ _ hbm.box; have c3 := cell_of_row _ _ 3 _ _ _ hbm.box; have c4 := cell_of_row _ _ 4 _ _ _ hbm.box; have c5 := cell_of_row _ _ 5 _ _ _ hbm.box; have c6 := cell_of_row _ _ 6 _ _ _ hbm.box; have cz := unfroz hbm.box; simp only [List.getElem?_toArray, List.getElem?_cons_zero, List.getElem?_cons_succ] at c0 c1 c2 c3 c4 c5 c6
                have HM := Lib.hid hbm.g
                have HB := Lib.hid hbm
                clear hbm
                refine' wpLate_take (i := 0) (v := ?v90) rfl (by kernel_rfl) (by kernel_rfl) (by kernel_rfl) (by kernel_rfl) (by kernel_rfl) (fun _ _ _ h => h) (Or.inl ⟨by rfl, ?hy90⟩) (by assumption) ?rest90
                case hy90 => (intro w hSw; (try dsimp only at hSw); go_simp; try with_reducible rfl)
                try simp only [Act.put, List.setIfInBounds_toArray, List.set_cons_zero, List.set_cons_succ, List.getElem_toArray, List.getElem_cons_zero, List.getElem_cons_succ]
                refine' wpLate_take (i := 2) (v := ?v91) rfl (by kernel_rfl) (by kernel_rfl) (by kernel_rfl) (by kernel_rfl) (by kernel_rfl) (fun _ _ _ h => h) (Or.inl ⟨by rfl, ?hy91⟩) (by assumption) ?rest91
                case hy91 => (intro w hSw; (try dsimp only at hSw); go_simp; try with_reducible rfl)
                try simp only [Act.put, List.setIfInBounds_toArray, List.set_cons_zero, List.set_cons_succ, List.getElem_toArray, List.getElem_cons_zero, List.getElem_cons_succ]
                refine wpLate_ready (rs := [1]) (by kernel_rfl) (by simp) ?_
                refine ReadyL.cons rfl (fun K92 hK92 => ?_) ReadyL.nil
                go_simp
                refine (txt_some B pr w.heap.size _ _ HM.out.rd HM.out.bb f r6 T6.out).mono ?_
                rintro e wa ⟨rfl, hr, hg⟩
                have hbm := HB.out.read hg hr
                clear hr hg
                clear k0 k1 k2 k3 k4 kz c0 c1 c2 c3 c4 c5 c6 cz HM HB
                obtain ⟨k0, k1, k2, k3, k4, kz⟩ := hbm.g.cells
                have c0 := cell_of_row _ _ 0 _ _ _ hbm.box; have c1 := cell_of_row _ _ 1 _ _ _ hbm.box; have c2 := cell_of_row _ _ 2 _ _ _ hbm.box; have c3 := cell_of_row _ _ 3 _ _ _ hbm.box; have c4 := cell_of_row _ _ 4 _ _ _ hbm.box; have c5 := cell_of_row _ _ 5 _ _ _ hbm.box; have c6 := cell_of_row _ _ 6 _ _ _ hbm.box; have cz := unfroz hbm.box; simp only [List.getElem?_toArray, List.getElem?_cons_zero, List.getElem?_cons_succ] at c0 c1 c2 c3 c4 c5 c6
                have HM := Lib.hid hbm.g
                have HB := Lib.hid hbm
                clear hbm
                refine hK92.out _ _ ?hS92x0 (fun hHeld92 => ?_)
                case hS92x0 => (intro _; exact k0)
                clear hK92 K92 hHeld
                have hHeld := hHeld92 (by simp)
                clear hHeld92
                refine' wpLate_take (i := 5) (v := ?v93) rfl (by kernel_rfl) (by kernel_rfl) (by kernel_rfl) (by kernel_rfl) (by kernel_rfl) (fun _ _ _ h => h) (Or.inl ⟨by rfl, ?hy93⟩) (by assumption) ?rest93
                case hy93 => (intro w hSw; (try dsimp only at hSw); go_simp; try with_reducible rfl)
                try simp only [Act.put, List.setIfInBounds_toArray, List.set_cons_zero, List.set_cons_succ, List.getElem_toArray, List.getElem_cons_zero, List.getElem_cons_succ]
                refine wpLate_ready (rs := [3]) (by kernel_rfl) (by simp) ?_
                refine ReadyL.cons rfl (fun K94 hK94 => ?_) ReadyL.nil
                go_simp
                refine (number_some B pr _ r7 g _ HM.out.rd T7.out).mono ?_
                rintro e wb ⟨rfl, hr, hg⟩
                have hbm := HB.out.read hg hr
                clear hr hg
                clear k0 k1 k2 k3 k4 kz c0 c1 c2 c3 c4 c5 c6 cz HM HB
                obtain ⟨k0, k1, k2, k3, k4, kz⟩ := hbm.g.cells
                have c0 := cell_of_row _ _ 0 _ _ _ hbm.box; have c1 := cell_of_row _ _ 1 _ _ _ hbm.box; have c2 := cell_of_row _ _ 2 _ _ _ hbm.box; have c3 := cell_of_row _ _ 3 _ _ _ hbm.box; have c4 := cell_of_row _ _ 4 _ _ _ hbm.box; have c5 := cell_of_row _ _ 5 _ _ _ hbm.box; have c6 := cell_of_row _ _ 6 _ _ _ hbm.box; have cz := unfroz hbm.box; simp only [List.getElem?_toArray, List.getElem?_cons_zero, List.getElem?_cons_succ] at c0 c1 c2 c3 c4 c5 c6
                have HM := Lib.hid hbm.g
                have HB := Lib.hid hbm
                clear hbm
                refine hK94.out _ _ ?hS94x0 (fun hHeld94 => ?_)
                case hS94x0 => (intro _; exact k0)
                clear hK94 K94 hHeld
                have hHeld := hHeld94 (by simp)
                clear hHeld94
                refine' wpLate_take (i := 4) (v := ?v95) rfl (by kernel_rfl) (by kernel_rfl) (by kernel_rfl) (by kernel_rfl) (by kernel_rfl) (fun _ _ _ h => h) (Or.inl ⟨by rfl, ?hy95⟩) (by assumption) ?rest95
                case hy95 => (intro w hSw; (try dsimp only at hSw); go_simp; try with_reducible rfl)
                try simp only [Act.put, List.setIfInBounds_toArray, List.set_cons_zero, List.set_cons_succ, List.getElem_toArray, List.getElem_cons_zero, List.getElem_cons_succ]
                refine wpLate_ready (rs := [6]) (by kernel_rfl) (by simp) ?_
                refine ReadyL.cons rfl (fun K96 hK96 => ?_) ReadyL.nil
                go_simp
                have hbm := HB.out.store 5 (.string (str f))
                simp only [List.setIfInBounds_toArray, List.set_cons_zero, List.set_cons_succ] at hbm
                clear k0 k1 k2 k3 k4 kz c0 c1 c2 c3 c4 c5 c6 cz HM HB
                obtain ⟨k0, k1, k2, k3, k4, kz⟩ := hbm.g.cells
                have c0 := cell_of_row _ _ 0 _ _ _ hbm.box; have c1 := cell_of_row _ _ 1 _ _ _ hbm.box; have c2 := cell_of_row _ _ 2 _ _ _ hbm.box; have c3 := cell_of_row _ _ 3 _ _ _ hbm.box; have c4 := cell_of_row _ _ 4 _ _ _ hbm.box; have c5 := cell_of_row _ _ 5 _ _ _ hbm.box; have c6 := cell_of_row _ _ 6 _ _ _ hbm.box; have cz := unfroz hbm.box; simp only [List.getElem?_toArray, List.getElem?_cons_zero, List.getElem?_cons_succ] at c0 c1 c2 c3 c4 c5 c6
                have HM := Lib.hid hbm.g
                have HB := Lib.hid hbm
                clear hbm
                refine hK96.out _ _ ?hS96x0 (fun hHeld96 => ?_)
                case hS96x0 => (intro _; exact k0)
                clear hK96 K96 hHeld
                have hHeld := hHeld96 (by simp)
                clear hHeld96
                refine' wpLate_take (i := 7) (v := ?v97) rfl (by kernel_rfl) (by kernel_rfl) (by kernel_rfl) (by kernel_rfl) (by kernel_rfl) (fun _ _ _ h => h) (Or.inl ⟨by rfl, ?hy97⟩) (by assumption) ?rest97
                case hy97 => (intro w hSw; (try dsimp only at hSw); go_simp; try with_reducible rfl)
                try simp only [Act.put, List.setIfInBounds_toArray, List.set_cons_zero, List.set_cons_succ, List.getElem_toArray, List.getElem_cons_zero, List.getElem_cons_succ]
                refine wpLate_ready (rs := [8]) (by kernel_rfl) (by simp) ?_
                refine ReadyL.cons rfl (fun K98 hK98 => ?_) ReadyL.nil
                go_simp
                have hbm := HB.out.store 6 (.int .i64 g)
                simp only [List.setIfInBounds_toArray, List.set_cons_zero, List.set_cons_succ] at hbm
                clear k0 k1 k2 k3 k4 kz c0 c1 c2 c3 c4 c5 c6 cz HM HB
                obtain ⟨k0, k1, k2, k3, k4, kz⟩ := hbm.g.cells
                have c0 := cell_of_row _ _ 0 _ _ _ hbm.box; have c1 := cell_of_row _ _ 1 _ _ _ hbm.box; have c2 := cell_of_row _ _ 2 _ _ _ hbm.box; have c3 := cell_of_row _ _ 3 _ _ _ hbm.box; have c4 := cell_of_row _ _ 4 _ _ _ hbm.box; have c5 := cell_of_row _ _ 5 _ _ _ hbm.box; have c6 := cell_of_row _ _ 6 _ _ _ hbm.box; have cz := unfroz hbm.box; simp only [List.getElem?_toArray, List.getElem?_cons_zero, List.getElem?_cons_succ] at c0 c1 c2 c3 c4 c5 c6
                have HM := Lib.hid hbm.g
                have HB := Lib.hid hbm
                clear hbm
                refine hK98.out _ _ ?hS98x0 (fun hHeld98 => ?_)
                case hS98x0 => (intro _; exact k0)
                clear hK98 K98 hHeld
                have hHeld := hHeld98 (by simp)
                clear hHeld98
                refine wpLate_done (by kernel_rfl) ?_ _
                have HRW : Hid (raw rest = some (⟨a, b, c, d, e, f, g⟩, r7)) := by
                  show raw rest = _
                  unfold raw
                  rw [T1.out]
                  simp only
                  rw [T2.out]
                  simp only
                  rw [T3.out]
                  simp only
                  rw [T4.out]
                  simp only
                  rw [T5.out]
                  simp only
                  rw [T6.out]
                  simp only
                  rw [T7.out]
                by_cases hc1 : 1 < c
                · have HN : Hid (raw1 rest = none) := by
                    show raw1 rest = none
                    unfold raw1
                    rw [HRW.out]
                    simp only
                    rw [if_pos hc1]
                  have HNO : Hid (parse l = none) := by
                      have hn : many raw1 m l5 = none := many_none (k := k + 1) (by omega) (by rw [many, HP.out]; simp only; rw [HN.out])
                      show parse l = none
                      unfold parse
                      rw [E1.out]
                      simp only
                      rw [E2.out]
                      simp only
                      rw [E3.out]
                      simp only
                      rw [E4.out]
                      simp only
                      rw [E5.out]
                      simp only
                      rw [hn]
                  have hcd : decide (1 < c) = true := decide_eq_true hc1
                  clear HN
                  go_wp2_with fail
                  exact ⟨rfl, .inl ⟨HNO.out, rfl, HM.out.grown⟩⟩
                have HN : Hid (raw1 rest = some (⟨a, b, c, d, e, f, g⟩, r7)) := by
                  show raw1 rest = _
                  unfold raw1
                  rw [HRW.out]
                  simp only
                  rw [if_neg hc1]
                have hcd : decide (1 < c) = false := decide_eq_false hc1
                clear hc1 HRW
                go_upto_region 18 with fail
                obtain ⟨w1, hw1⟩ : ∃ w1, w1 = (wb.setCell ⟨b4, 5, none⟩ (.string (str f))).setCell ⟨b4, 6, none⟩ (.int .i64 g) := ⟨_, rfl⟩
                have hbm := HB.out
                rw [← hw1] at hbm ⊢
                clear hw1
                clear k0 k1 k2 k3 k4 kz c0 c1 c2 c3 c4 c5 c6 cz HM HB
                obtain ⟨k0, k1, k2, k3, k4, kz⟩ := hbm.g.cells
                have c0 := cell_of_row _ _ 0 _ _ _ hbm.box; have c1 := cell_of_row _ _ 1 _ _ _ hbm.box; have c2 := cell_of_row _ _ 2 _ _ _ hbm.box; have c3 := cell_of_row _ _ 3 _ _ _ hbm.box; have c4 := cell_of_row _ _ 4 _ _ _ hbm.box; have c5 := cell_of_row _ _ 5 _ _ _ hbm.box; have c6 := cell_of_row _ _ 6 _ _ _ hbm.box; have cz := unfroz hbm.box; simp only [List.getElem?_toArray, List.getElem?_cons_zero, List.getElem?_cons_succ] at c0 c1 c2 c3 c4 c5 c6
                have HM := Lib.hid hbm.g
                have HB := Lib.hid hbm
                clear hbm
                have HMX := Lib.hid (HM.out.alloc (.cells #[.string (str a), .int .i64 b, .bool (c == 1), .int .i64 d, .int .i64 e, .string (str f), .int .i64 g] 106))
                go_wp2_with (at_builtin; go_loud (refine wpList_append_own_src (by rfl) (.tmp 67) (.tmp 69) 57 57 (by rfl) (w.heap.size + 2) 106 iS _ 7 72 Try.underlying57 hiS iSz iSs iSb (by rfl) (by decide) vs _ _ rfl HMX.out.rs _ 1 [.string (str a), .int .i64 b, .bool (c == 1), .int .i64 d, .int .i64 e, .string (str f), .int .i64 g] (by rfl) (Src.ofSlice _ Try.underlying57 _ 1 1 _ rfl (cells_list (heap_alloc_new w1 _) rfl) (by intro u hu; simp only [List.mem_cons, List.not_mem_nil, or_false] at hu; rcases hu with rfl | rfl | rfl | rfl | rfl | rfl | rfl <;> rfl)) (by unfold maxLen; omega) (by omega) (by have := HMX.out.size; omega) ?_; intro v' w3 hown hgr hor; obtain ⟨g3, cap3, rfl⟩ := own_slice hown (by omega); have hob3 := (hgr.block _ HMX.out.size (own_ne HMX.out.rs HMX.out.ob (by decide))).trans HMX.out.ob; have hbb3 := (hgr.block _ (by have := HMX.out.size; omega) (own_ne HMX.out.rs HMX.out.bb (by decide))).trans HMX.out.bb; have hms := HMX.out.set_s (x := ⟨a, b, c, d, e, f, g⟩) hown hgr; clear k0 k1 k2 k3 k4 kz HM HMX hown hgr hor; obtain ⟨k1, k2, k3, k4, kz⟩ := blk4 hob3; have k0 := cell_of_row w3 w.heap.size 0 _ _ _ hbb3; simp only [List.getElem?_toArray, List.getElem?_cons_zero] at k0; have HM := Lib.hid hms; clear hms hob3 hbb3))
                go_roundg (m - (k + 1))
                case measure => have := HG.out; omega
                case rel => exact ⟨k + 1, r7, _, xs ++ [⟨a, b, c, d, e, f, g⟩], by omega, by simp [HXL.out], rfl, by go_num, (by rw [many, HP.out]; simp only; rw [HN.out]), HM.out⟩
            · obtain rfl : m = k := by omega
              have HX6 := Lib.hid HXL.out
              have E6 := Lib.hid HP.out
              clear hlt hk HP HG HXL
              go_wp2_with fail
              rcases e7 : cnt 12 rest with _ | ⟨q, l7⟩
              · have HE := Lib.hid e7
                clear e7
                refine (count_none B pr 12 _ _ HM.out.rd (by omega) (by omega) HE.out).mono ?_
                rintro e w1 ⟨rfl, hg⟩
                exact ⟨rfl, .inl ⟨(by unfold parse; rw [E1.out]; simp only; rw [E2.out]; simp only; rw [E3.out]; simp only; rw [E4.out]; simp only; rw [E5.out]; simp only; rw [E6.out]; simp only; rw [HE.out]), rfl, HM.out.grown.trans hg⟩⟩
              have E7 := Lib.hid e7
              have b7 : q ≤ 4294967295 := by
                obtain ⟨x, hx, rfl, _⟩ := cnt_num e7
                have := num_bd hx
                omega
              clear e7
              refine (count_some B pr 12 q _ l7 _ HM.out.rd (by omega) (by omega) E7.out).mono ?_
              rintro e w1 ⟨rfl, hr, hg⟩
              have hm := HM.out.read hg hr
              clear hr hg HM
              obtain ⟨k0, k1, k2, k3, k4, kz⟩ := hm.cells
              have HM := Lib.hid hm
              clear hm
              go_wp2_with fail
              go_loopg [75] q (fun gk i wr => ∃ (k : Nat) (rest : List UInt8) (vr : Value) (xr : List Rel), k ≤ q ∧ xr.length = k ∧ gk = q - k ∧ i = .int .i64 k ∧ many rel k l7 = some (xr, rest) ∧ GMid w wr B pr rest vc vd vs vr xc xd xs xr)
              case atStart => exact ⟨0, _, _, _, by omega, rfl, rfl, rfl, rfl, HM.out⟩
              case round =>
                obtain ⟨k, rest, vr, xr, hk, hxl, hgk, rfl, hp, hm⟩ := hrel
                have HG := Lib.hid hgk
                clear k0 k1 k2 k3 k4 kz HM
                obtain ⟨k0, k1, k2, k3, k4, kz⟩ := hm.cells
                have HM := Lib.hid hm
                have HP := Lib.hid hp
                have HXL := Lib.hid hxl
                have hxlb : xr.length ≤ 4294967295 := by omega
                clear hgk hm hp hxl
                by_cases hlt : k < q
                · have hki : (k : Int) < q := by omega
                  rcases t1 : num rest with _ | ⟨a, r1⟩
                  · have T1 := Lib.hid t1
                    have HN : Hid (rel rest = none) := by
                      show rel rest = none
                      unfold rel
                      rw [T1.out]
                    have HNO : Hid (parse l = none) := by
                        have hn : many rel q l7 = none := many_none (k := k + 1) (by omega) (by rw [many, HP.out]; simp only; rw [HN.out])
                        show parse l = none
                        unfold parse
                        rw [E1.out]
                        simp only
                        rw [E2.out]
                        simp only
                        rw [E3.out]
                        simp only
                        rw [E4.out]
                        simp only
                        rw [E5.out]
                        simp only
                        rw [E6.out]
                        simp only
                        rw [E7.out]
                        simp only
                        rw [hn]
                    clear t1 HN
                    go_upto_region 22 with fail
                    refine wp_region_late (fun w' => w'.cell? ⟨w.heap.size, 0, none⟩ = some (.pointer (some ⟨pr, 0, none⟩)) ∧ w'.cell? ⟨w.heap.size + 1, 3, none⟩ = some vr) [15] mixed ?hS0 (fun hHeld => ?_)
                    case hS0 => (try dsimp only); simp [*, go_sem]
                    have HM := Lib.hid HM.out.drew
                    refine' wpLate_take (i := 0) (v := ?v99) rfl (by kernel_rfl) (by kernel_rfl) (by kernel_rfl) (by kernel_rfl) (by kernel_rfl) (fun _ _ _ h => h) (Or.inl ⟨by rfl, ?hy99⟩) (by assumption) ?rest99
                    case hy99 => (intro w hSw; (try dsimp only at hSw); go_simp; try with_reducible rfl)
                    try simp only [Act.put, List.setIfInBounds_toArray, List.set_cons_zero, List.set_cons_succ, List.getElem_toArray, List.getElem_cons_zero, List.getElem_cons_succ]
                    refine' wpLate_take (i := 1) (v := ?v100) rfl (by kernel_rfl) (by kernel_rfl) (by kernel_rfl) (by kernel_rfl) (by kernel_rfl) (fun _ _ _ h => h) (Or.inl ⟨by rfl, ?hy100⟩) (by assumption) ?rest100
                    case hy100 => (intro w hSw; (try dsimp only at hSw); go_simp; try with_reducible rfl)
                    try simp only [Act.put, List.setIfInBounds_toArray, List.set_cons_zero, List.set_cons_succ, List.getElem_toArray, List.getElem_cons_zero, List.getElem_cons_succ]
                    refine' wpLate_take (i := 2) (v := ?v101) rfl (by kernel_rfl) (by kernel_rfl) (by kernel_rfl) (by kernel_rfl) (by kernel_rfl) (fun _ _ _ h => h) (Or.inl ⟨by rfl, ?hy101⟩) (by assumption) ?rest101
                    case hy101 => (intro w hSw; (try dsimp only at hSw); go_simp; try with_reducible rfl)
                    try simp only [Act.put, List.setIfInBounds_toArray, List.set_cons_zero, List.set_cons_succ, List.getElem_toArray, List.getElem_cons_zero, List.getElem_cons_succ]
                    refine' wpLate_take (i := 5) (v := ?v102) rfl (by kernel_rfl) (by kernel_rfl) (by kernel_rfl) (by kernel_rfl) (by kernel_rfl) (fun _ _ _ h => h) (Or.inl ⟨by rfl, ?hy102⟩) (by assumption) ?rest102
                    case hy102 => (intro w hSw; (try dsimp only at hSw); go_simp; try with_reducible rfl)
                    try simp only [Act.put, List.setIfInBounds_toArray, List.set_cons_zero, List.set_cons_succ, List.getElem_toArray, List.getElem_cons_zero, List.getElem_cons_succ]
                    refine' wpLate_take (i := 8) (v := ?v103) rfl (by kernel_rfl) (by kernel_rfl) (by kernel_rfl) (by kernel_rfl) (by kernel_rfl) (fun _ _ _ h => h) (Or.inl ⟨by rfl, ?hy103⟩) (by assumption) ?rest103
                    case hy103 => (intro w hSw; (try dsimp only at hSw); go_simp; try with_reducible rfl)
                    try simp only [Act.put, List.setIfInBounds_toArray, List.set_cons_zero, List.set_cons_succ, List.getElem_toArray, List.getElem_cons_zero, List.getElem_cons_succ]
                    refine wpLate_ready (rs := [3]) (by kernel_rfl) (by simp) ?_
                    refine ReadyL.cons rfl (fun K104 hK104 => ?_) ReadyL.nil
                    go_simp
                    refine (number_none B pr _ _ HM.out.rd T1.out).mono ?_
                    rintro e w1 ⟨rfl, rfl⟩
                    exact ⟨rfl, .inl ⟨HNO.out, rfl, HM.out.grown⟩⟩
                  have T1 := Lib.hid t1
                  have n1 := num_bd t1
                  have n1a := n1.1
                  have n1b := n1.2
                  clear n1 t1
                  have v1 : IntKind.i64.wrap a = a := IntWalk.i64_in _ (by omega)
                  rcases t2 : num r1 with _ | ⟨b, r2⟩
                  · have T2 := Lib.hid t2
                    have HN : Hid (rel rest = none) := by
                      show rel rest = none
                      unfold rel
                      rw [T1.out]
                      simp only
                      rw [T2.out]
                    have HNO : Hid (parse l = none) := by
                        have hn : many rel q l7 = none := many_none (k := k + 1) (by omega) (by rw [many, HP.out]; simp only; rw [HN.out])
                        show parse l = none
                        unfold parse
                        rw [E1.out]
                        simp only
                        rw [E2.out]
                        simp only
                        rw [E3.out]
                        simp only
                        rw [E4.out]
                        simp only
                        rw [E5.out]
                        simp only
                        rw [E6.out]
                        simp only
                        rw [E7.out]
                        simp only
                        rw [hn]
                    clear t2 HN
                    go_upto_region 22 with fail
                    refine wp_region_late (fun w' => w'.cell? ⟨w.heap.size, 0, none⟩ = some (.pointer (some ⟨pr, 0, none⟩)) ∧ w'.cell? ⟨w.heap.size + 1, 3, none⟩ = some vr) [15] mixed ?hS0 (fun hHeld => ?_)
                    case hS0 => (try dsimp only); simp [*, go_sem]
                    have HM := Lib.hid HM.out.drew
                    refine' wpLate_take (i := 0) (v := ?v105) rfl (by kernel_rfl) (by kernel_rfl) (by kernel_rfl) (by kernel_rfl) (by kernel_rfl) (fun _ _ _ h => h) (Or.inl ⟨by rfl, ?hy105⟩) (by assumption) ?rest105
                    case hy105 => (intro w hSw; (try dsimp only at hSw); go_simp; try with_reducible rfl)
                    try simp only [Act.put, List.setIfInBounds_toArray, List.set_cons_zero, List.set_cons_succ, List.getElem_toArray, List.getElem_cons_zero, List.getElem_cons_succ]
                    refine' wpLate_take (i := 1) (v := ?v106) rfl (by kernel_rfl) (by kernel_rfl) (by kernel_rfl) (by kernel_rfl) (by kernel_rfl) (fun _ _ _ h => h) (Or.inl ⟨by rfl, ?hy106⟩) (by assumption) ?rest106
                    case hy106 => (intro w hSw; (try dsimp only at hSw); go_simp; try with_reducible rfl)
                    try simp only [Act.put, List.setIfInBounds_toArray, List.set_cons_zero, List.set_cons_succ, List.getElem_toArray, List.getElem_cons_zero, List.getElem_cons_succ]
                    refine' wpLate_take (i := 2) (v := ?v107) rfl (by kernel_rfl) (by kernel_rfl) (by kernel_rfl) (by kernel_rfl) (by kernel_rfl) (fun _ _ _ h => h) (Or.inl ⟨by rfl, ?hy107⟩) (by assumption) ?rest107
                    case hy107 => (intro w hSw; (try dsimp only at hSw); go_simp; try with_reducible rfl)
                    try simp only [Act.put, List.setIfInBounds_toArray, List.set_cons_zero, List.set_cons_succ, List.getElem_toArray, List.getElem_cons_zero, List.getElem_cons_succ]
                    refine' wpLate_take (i := 5) (v := ?v108) rfl (by kernel_rfl) (by kernel_rfl) (by kernel_rfl) (by kernel_rfl) (by kernel_rfl) (fun _ _ _ h => h) (Or.inl ⟨by rfl, ?hy108⟩) (by assumption) ?rest108
                    case hy108 => (intro w hSw; (try dsimp only at hSw); go_simp; try with_reducible rfl)
                    try simp only [Act.put, List.setIfInBounds_toArray, List.set_cons_zero, List.set_cons_succ, List.getElem_toArray, List.getElem_cons_zero, List.getElem_cons_succ]
                    refine' wpLate_take (i := 8) (v := ?v109) rfl (by kernel_rfl) (by kernel_rfl) (by kernel_rfl) (by kernel_rfl) (by kernel_rfl) (fun _ _ _ h => h) (Or.inl ⟨by rfl, ?hy109⟩) (by assumption) ?rest109
                    case hy109 => (intro w hSw; (try dsimp only at hSw); go_simp; try with_reducible rfl)
                    try simp only [Act.put, List.setIfInBounds_toArray, List.set_cons_zero, List.set_cons_succ, List.getElem_toArray, List.getElem_cons_zero, List.getElem_cons_succ]
                    refine wpLate_ready (rs := [3]) (by kernel_rfl) (by simp) ?_
                    refine ReadyL.cons rfl (fun K110 hK110 => ?_) ReadyL.nil
                    go_simp
                    refine (number_some B pr _ r1 a _ HM.out.rd T1.out).mono ?_
                    rintro e w1 ⟨rfl, hr, hg⟩
                    have hm := HM.out.read hg hr
                    clear hr hg
                    clear k0 k1 k2 k3 k4 kz HM
                    obtain ⟨k0, k1, k2, k3, k4, kz⟩ := hm.cells
                    have HM := Lib.hid hm
                    clear hm
                    refine hK110.out _ _ ?hS110x0 (fun hHeld110 => ?_)
                    case hS110x0 => (intro _; exact ⟨k0, k4⟩)
                    clear hK110 K110 hHeld
                    have hHeld := hHeld110 (by simp)
                    clear hHeld110
                    refine' wpLate_take (i := 4) (v := ?v111) rfl (by kernel_rfl) (by kernel_rfl) (by kernel_rfl) (by kernel_rfl) (by kernel_rfl) (fun _ _ _ h => h) (Or.inl ⟨by rfl, ?hy111⟩) (by assumption) ?rest111
                    case hy111 => (intro w hSw; (try dsimp only at hSw); go_simp; try with_reducible rfl)
                    try simp only [Act.put, List.setIfInBounds_toArray, List.set_cons_zero, List.set_cons_succ, List.getElem_toArray, List.getElem_cons_zero, List.getElem_cons_succ]
                    refine wpLate_ready (rs := [6]) (by kernel_rfl) (by simp) ?_
                    refine ReadyL.cons rfl (fun K112 hK112 => ?_) ReadyL.nil
                    go_simp
                    refine (number_none B pr _ _ HM.out.rd T2.out).mono ?_
                    rintro e w1 ⟨rfl, rfl⟩
                    exact ⟨rfl, .inl ⟨HNO.out, rfl, HM.out.grown⟩⟩
                  have T2 := Lib.hid t2
                  have n2 := num_bd t2
                  have n2a := n2.1
                  have n2b := n2.2
                  clear n2 t2
                  have v2 : IntKind.i64.wrap b = b := IntWalk.i64_in _ (by omega)
                  rcases t3 : num r2 with _ | ⟨c, r3⟩
                  · have T3 := Lib.hid t3
                    have HN : Hid (rel rest = none) := by
                      show rel rest = none
                      unfold rel
                      rw [T1.out]
                      simp only
                      rw [T2.out]
                      simp only
                      rw [T3.out]
                    have HNO : Hid (parse l = none) := by
                        have hn : many rel q l7 = none := many_none (k := k + 1) (by omega) (by rw [many, HP.out]; simp only; rw [HN.out])
                        show parse l = none
                        unfold parse
                        rw [E1.out]
                        simp only
                        rw [E2.out]
                        simp only
                        rw [E3.out]
                        simp only
                        rw [E4.out]
                        simp only
                        rw [E5.out]
                        simp only
                        rw [E6.out]
                        simp only
                        rw [E7.out]
                        simp only
                        rw [hn]
                    clear t3 HN
                    go_upto_region 22 with fail
                    refine wp_region_late (fun w' => w'.cell? ⟨w.heap.size, 0, none⟩ = some (.pointer (some ⟨pr, 0, none⟩)) ∧ w'.cell? ⟨w.heap.size + 1, 3, none⟩ = some vr) [15] mixed ?hS0 (fun hHeld => ?_)
                    case hS0 => (try dsimp only); simp [*, go_sem]
                    have HM := Lib.hid HM.out.drew
                    refine' wpLate_take (i := 0) (v := ?v113) rfl (by kernel_rfl) (by kernel_rfl) (by kernel_rfl) (by kernel_rfl) (by kernel_rfl) (fun _ _ _ h => h) (Or.inl ⟨by rfl, ?hy113⟩) (by assumption) ?rest113
                    case hy113 => (intro w hSw; (try dsimp only at hSw); go_simp; try with_reducible rfl)
                    try simp only [Act.put, List.setIfInBounds_toArray, List.set_cons_zero, List.set_cons_succ, List.getElem_toArray, List.getElem_cons_zero, List.getElem_cons_succ]
                    refine' wpLate_take (i := 1) (v := ?v114) rfl (by kernel_rfl) (by kernel_rfl) (by kernel_rfl) (by kernel_rfl) (by kernel_rfl) (fun _ _ _ h => h) (Or.inl ⟨by rfl, ?hy114⟩) (by assumption) ?rest114
                    case hy114 => (intro w hSw; (try dsimp only at hSw); go_simp; try with_reducible rfl)
                    try simp only [Act.put, List.setIfInBounds_toArray, List.set_cons_zero, List.set_cons_succ, List.getElem_toArray, List.getElem_cons_zero, List.getElem_cons_succ]
                    refine' wpLate_take (i := 2) (v := ?v115) rfl (by kernel_rfl) (by kernel_rfl) (by kernel_rfl) (by kernel_rfl) (by kernel_rfl) (fun _ _ _ h => h) (Or.inl ⟨by rfl, ?hy115⟩) (by assumption) ?rest115
                    case hy115 => (intro w hSw; (try dsimp only at hSw); go_simp; try with_reducible rfl)
                    try simp only [Act.put, List.setIfInBounds_toArray, List.set_cons_zero, List.set_cons_succ, List.getElem_toArray, List.getElem_cons_zero, List.getElem_cons_succ]
                    refine' wpLate_take (i := 5) (v := ?v116) rfl (by kernel_rfl) (by kernel_rfl) (by kernel_rfl) (by kernel_rfl) (by kernel_rfl) (fun _ _ _ h => h) (Or.inl ⟨by rfl, ?hy116⟩) (by assumption) ?rest116
                    case hy116 => (intro w hSw; (try dsimp only at hSw); go_simp; try with_reducible rfl)
                    try simp only [Act.put, List.setIfInBounds_toArray, List.set_cons_zero, List.set_cons_succ, List.getElem_toArray, List.getElem_cons_zero, List.getElem_cons_succ]
                    refine' wpLate_take (i := 8) (v := ?v117) rfl (by kernel_rfl) (by kernel_rfl) (by kernel_rfl) (by kernel_rfl) (by kernel_rfl) (fun _ _ _ h => h) (Or.inl ⟨by rfl, ?hy117⟩) (by assumption) ?rest117
                    case hy117 => (intro w hSw; (try dsimp only at hSw); go_simp; try with_reducible rfl)
                    try simp only [Act.put, List.setIfInBounds_toArray, List.set_cons_zero, List.set_cons_succ, List.getElem_toArray, List.getElem_cons_zero, List.getElem_cons_succ]
                    refine wpLate_ready (rs := [3]) (by kernel_rfl) (by simp) ?_
                    refine ReadyL.cons rfl (fun K118 hK118 => ?_) ReadyL.nil
                    go_simp
                    refine (number_some B pr _ r1 a _ HM.out.rd T1.out).mono ?_
                    rintro e w1 ⟨rfl, hr, hg⟩
                    have hm := HM.out.read hg hr
                    clear hr hg
                    clear k0 k1 k2 k3 k4 kz HM
                    obtain ⟨k0, k1, k2, k3, k4, kz⟩ := hm.cells
                    have HM := Lib.hid hm
                    clear hm
                    refine hK118.out _ _ ?hS118x0 (fun hHeld118 => ?_)
                    case hS118x0 => (intro _; exact ⟨k0, k4⟩)
                    clear hK118 K118 hHeld
                    have hHeld := hHeld118 (by simp)
                    clear hHeld118
                    refine' wpLate_take (i := 4) (v := ?v119) rfl (by kernel_rfl) (by kernel_rfl) (by kernel_rfl) (by kernel_rfl) (by kernel_rfl) (fun _ _ _ h => h) (Or.inl ⟨by rfl, ?hy119⟩) (by assumption) ?rest119
                    case hy119 => (intro w hSw; (try dsimp only at hSw); go_simp; try with_reducible rfl)
                    try simp only [Act.put, List.setIfInBounds_toArray, List.set_cons_zero, List.set_cons_succ, List.getElem_toArray, List.getElem_cons_zero, List.getElem_cons_succ]
                    refine wpLate_ready (rs := [6]) (by kernel_rfl) (by simp) ?_
                    refine ReadyL.cons rfl (fun K120 hK120 => ?_) ReadyL.nil
                    go_simp
                    refine (number_some B pr _ r2 b _ HM.out.rd T2.out).mono ?_
                    rintro e w1 ⟨rfl, hr, hg⟩
                    have hm := HM.out.read hg hr
                    clear hr hg
                    clear k0 k1 k2 k3 k4 kz HM
                    obtain ⟨k0, k1, k2, k3, k4, kz⟩ := hm.cells
                    have HM := Lib.hid hm
                    clear hm
                    refine hK120.out _ _ ?hS120x0 (fun hHeld120 => ?_)
                    case hS120x0 => (intro _; exact ⟨k0, k4⟩)
                    clear hK120 K120 hHeld
                    have hHeld := hHeld120 (by simp)
                    clear hHeld120
                    refine' wpLate_take (i := 7) (v := ?v121) rfl (by kernel_rfl) (by kernel_rfl) (by kernel_rfl) (by kernel_rfl) (by kernel_rfl) (fun _ _ _ h => h) (Or.inl ⟨by rfl, ?hy121⟩) (by assumption) ?rest121
                    case hy121 => (intro w hSw; (try dsimp only at hSw); go_simp; try with_reducible rfl)
                    try simp only [Act.put, List.setIfInBounds_toArray, List.set_cons_zero, List.set_cons_succ, List.getElem_toArray, List.getElem_cons_zero, List.getElem_cons_succ]
                    refine wpLate_ready (rs := [9]) (by kernel_rfl) (by simp) ?_
                    refine ReadyL.cons rfl (fun K122 hK122 => ?_) ReadyL.nil
                    go_simp
                    refine (number_none B pr _ _ HM.out.rd T3.out).mono ?_
                    rintro e w1 ⟨rfl, rfl⟩
                    exact ⟨rfl, .inl ⟨HNO.out, rfl, HM.out.grown⟩⟩
                  have T3 := Lib.hid t3
                  have n3 := num_bd t3
                  have n3a := n3.1
                  have n3b := n3.2
                  clear n3 t3
                  have v3 : IntKind.i64.wrap c = c := IntWalk.i64_in _ (by omega)
                  go_upto_region 22 with fail
                  refine wp_region_late (fun w' => w'.cell? ⟨w.heap.size, 0, none⟩ = some (.pointer (some ⟨pr, 0, none⟩)) ∧ w'.cell? ⟨w.heap.size + 1, 3, none⟩ = some vr) [15] mixed ?hS0 (fun hHeld => ?_)
                  case hS0 => (try dsimp only); simp [*, go_sem]
                  have HM := Lib.hid HM.out.drew
                  refine' wpLate_take (i := 0) (v := ?v123) rfl (by kernel_rfl) (by kernel_rfl) (by kernel_rfl) (by kernel_rfl) (by kernel_rfl) (fun _ _ _ h => h) (Or.inl ⟨by rfl, ?hy123⟩) (by assumption) ?rest123
                  case hy123 => (intro w hSw; (try dsimp only at hSw); go_simp; try with_reducible rfl)
                  try simp only [Act.put, List.setIfInBounds_toArray, List.set_cons_zero, List.set_cons_succ, List.getElem_toArray, List.getElem_cons_zero, List.getElem_cons_succ]
                  refine' wpLate_take (i := 1) (v := ?v124) rfl (by kernel_rfl) (by kernel_rfl) (by kernel_rfl) (by kernel_rfl) (by kernel_rfl) (fun _ _ _ h => h) (Or.inl ⟨by rfl, ?hy124⟩) (by assumption) ?rest124
                  case hy124 => (intro w hSw; (try dsimp only at hSw); go_simp; try with_reducible rfl)
                  try simp only [Act.put, List.setIfInBounds_toArray, List.set_cons_zero, List.set_cons_succ, List.getElem_toArray, List.getElem_cons_zero, List.getElem_cons_succ]
                  refine' wpLate_take (i := 2) (v := ?v125) rfl (by kernel_rfl) (by kernel_rfl) (by kernel_rfl) (by kernel_rfl) (by kernel_rfl) (fun _ _ _ h => h) (Or.inl ⟨by rfl, ?hy125⟩) (by assumption) ?rest125
                  case hy125 => (intro w hSw; (try dsimp only at hSw); go_simp; try with_reducible rfl)
                  try simp only [Act.put, List.setIfInBounds_toArray, List.set_cons_zero, List.set_cons_succ, List.getElem_toArray, List.getElem_cons_zero, List.getElem_cons_succ]
                  refine' wpLate_take (i := 5) (v := ?v126) rfl (by kernel_rfl) (by kernel_rfl) (by kernel_rfl) (by kernel_rfl) (by kernel_rfl) (fun _ _ _ h => h) (Or.inl ⟨by rfl, ?hy126⟩) (by assumption) ?rest126
                  case hy126 => (intro w hSw; (try dsimp only at hSw); go_simp; try with_reducible rfl)
                  try simp only [Act.put, List.setIfInBounds_toArray, List.set_cons_zero, List.set_cons_succ, List.getElem_toArray, List.getElem_cons_zero, List.getElem_cons_succ]
                  refine' wpLate_take (i := 8) (v := ?v127) rfl (by kernel_rfl) (by kernel_rfl) (by kernel_rfl) (by kernel_rfl) (by kernel_rfl) (fun _ _ _ h => h) (Or.inl ⟨by rfl, ?hy127⟩) (by assumption) ?rest127
                  case hy127 => (intro w hSw; (try dsimp only at hSw); go_simp; try with_reducible rfl)
                  try simp only [Act.put, List.setIfInBounds_toArray, List.set_cons_zero, List.set_cons_succ, List.getElem_toArray, List.getElem_cons_zero, List.getElem_cons_succ]
                  refine wpLate_ready (rs := [3]) (by kernel_rfl) (by simp) ?_
                  refine ReadyL.cons rfl (fun K128 hK128 => ?_) ReadyL.nil
                  go_simp
                  refine (number_some B pr _ r1 a _ HM.out.rd T1.out).mono ?_
                  rintro e w1 ⟨rfl, hr, hg⟩
                  have hm := HM.out.read hg hr
                  clear hr hg
                  clear k0 k1 k2 k3 k4 kz HM
                  obtain ⟨k0, k1, k2, k3, k4, kz⟩ := hm.cells
                  have HM := Lib.hid hm
                  clear hm
                  refine hK128.out _ _ ?hS128x0 (fun hHeld128 => ?_)
                  case hS128x0 => (intro _; exact ⟨k0, k4⟩)
                  clear hK128 K128 hHeld
                  have hHeld := hHeld128 (by simp)
                  clear hHeld128
                  refine' wpLate_take (i := 4) (v := ?v129) rfl (by kernel_rfl) (by kernel_rfl) (by kernel_rfl) (by kernel_rfl) (by kernel_rfl) (fun _ _ _ h => h) (Or.inl ⟨by rfl, ?hy129⟩) (by assumption) ?rest129
                  case hy129 => (intro w hSw; (try dsimp only at hSw); go_simp; try with_reducible rfl)
                  try simp only [Act.put, List.setIfInBounds_toArray, List.set_cons_zero, List.set_cons_succ, List.getElem_toArray, List.getElem_cons_zero, List.getElem_cons_succ]
                  refine wpLate_ready (rs := [6]) (by kernel_rfl) (by simp) ?_
                  refine ReadyL.cons rfl (fun K130 hK130 => ?_) ReadyL.nil
                  go_simp
                  refine (number_some B pr _ r2 b _ HM.out.rd T2.out).mono ?_
                  rintro e w1 ⟨rfl, hr, hg⟩
                  have hm := HM.out.read hg hr
                  clear hr hg
                  clear k0 k1 k2 k3 k4 kz HM
                  obtain ⟨k0, k1, k2, k3, k4, kz⟩ := hm.cells
                  have HM := Lib.hid hm
                  clear hm
                  refine hK130.out _ _ ?hS130x0 (fun hHeld130 => ?_)
                  case hS130x0 => (intro _; exact ⟨k0, k4⟩)
                  clear hK130 K130 hHeld
                  have hHeld := hHeld130 (by simp)
                  clear hHeld130
                  refine' wpLate_take (i := 7) (v := ?v131) rfl (by kernel_rfl) (by kernel_rfl) (by kernel_rfl) (by kernel_rfl) (by kernel_rfl) (fun _ _ _ h => h) (Or.inl ⟨by rfl, ?hy131⟩) (by assumption) ?rest131
                  case hy131 => (intro w hSw; (try dsimp only at hSw); go_simp; try with_reducible rfl)
                  try simp only [Act.put, List.setIfInBounds_toArray, List.set_cons_zero, List.set_cons_succ, List.getElem_toArray, List.getElem_cons_zero, List.getElem_cons_succ]
                  refine wpLate_ready (rs := [9]) (by kernel_rfl) (by simp) ?_
                  refine ReadyL.cons rfl (fun K132 hK132 => ?_) ReadyL.nil
                  go_simp
                  refine (number_some B pr _ r3 c _ HM.out.rd T3.out).mono ?_
                  rintro e w1 ⟨rfl, hr, hg⟩
                  have hm := HM.out.read hg hr
                  clear hr hg
                  clear k0 k1 k2 k3 k4 kz HM
                  obtain ⟨k0, k1, k2, k3, k4, kz⟩ := hm.cells
                  have HM := Lib.hid hm
                  clear hm
                  refine hK132.out _ _ ?hS132x0 (fun hHeld132 => ?_)
                  case hS132x0 => (intro _; exact ⟨k0, k4⟩)
                  clear hK132 K132 hHeld
                  have hHeld := hHeld132 (by simp)
                  clear hHeld132
                  refine' wpLate_take (i := 10) (v := ?v133) rfl (by kernel_rfl) (by kernel_rfl) (by kernel_rfl) (by kernel_rfl) (by kernel_rfl) (fun _ _ _ h => h) (Or.inl ⟨by rfl, ?hy133⟩) (by assumption) ?rest133
                  case hy133 => (intro w hSw; (try dsimp only at hSw); go_simp; try with_reducible rfl)
                  try simp only [Act.put, List.setIfInBounds_toArray, List.set_cons_zero, List.set_cons_succ, List.getElem_toArray, List.getElem_cons_zero, List.getElem_cons_succ]
                  refine' wpLate_take (i := 11) (v := ?v134) rfl (by kernel_rfl) (by kernel_rfl) (by kernel_rfl) (by kernel_rfl) (by kernel_rfl) (fun _ _ _ h => h) (Or.inl ⟨by rfl, ?hy134⟩) (by assumption) ?rest134
                  case hy134 => (intro w hSw; (try dsimp only at hSw); go_simp; try with_reducible rfl)
                  try simp only [Act.put, List.setIfInBounds_toArray, List.set_cons_zero, List.set_cons_succ, List.getElem_toArray, List.getElem_cons_zero, List.getElem_cons_succ]
                  refine wpLate_ready (rs := [12]) (by kernel_rfl) (by simp) ?_
                  refine ReadyL.cons rfl (fun K135 hK135 => ?_) ReadyL.nil
                  go_simp
                  have hm := HM.out.alloc (.cells #[.int .i64 a, .int .i64 b, .int .i64 c] 110)
                  clear k0 k1 k2 k3 k4 kz HM
                  obtain ⟨k0, k1, k2, k3, k4, kz⟩ := hm.cells
                  have HM := Lib.hid hm
                  clear hm
                  refine hK135.out _ _ ?hS135x0 (fun hHeld135 => ?_)
                  case hS135x0 => (intro _; exact ⟨k0, k4⟩)
                  clear hK135 K135 hHeld
                  have hHeld := hHeld135 (by simp)
                  clear hHeld135
                  refine wpLate_ready (rs := [13]) (by kernel_rfl) (by simp) ?_
                  refine ReadyL.cons rfl (fun K136 hK136 => ?_) ReadyL.nil
                  refine step_append_own_src rfl (.tmp 78) (.tmp 89) 58 58 rfl (w.heap.size + 2) 110 iR _ 3 24 Try.underlying58 hiR iRz iRs iRb rfl (by decide) vr _ _ rfl HM.out.rr _ 1 [.int .i64 a, .int .i64 b, .int .i64 c] rfl (Src.ofSlice _ Try.underlying58 _ 1 1 _ rfl (cells_list (heap_alloc_new w1 _) rfl) (by intro u hu; simp only [List.mem_cons, List.not_mem_nil, or_false] at hu; rcases hu with rfl | rfl | rfl <;> rfl)) (by unfold maxLen; omega) (by omega) (by have := HM.out.size; omega) ?_
                  intro v' w3 hown hgr hor
                  obtain ⟨g3, cap3, rfl⟩ := own_slice hown (by omega)
                  have hob3 := (hgr.block _ HM.out.size (own_ne HM.out.rr HM.out.ob (by decide))).trans HM.out.ob
                  have hbb3 := (hgr.block _ (by have := HM.out.size; omega) (own_ne HM.out.rr HM.out.bb (by decide))).trans HM.out.bb
                  have hms := HM.out.set_r (x := ⟨a, b, c⟩) hown hgr
                  clear k0 k1 k2 k3 k4 kz HM hown hgr hor
                  obtain ⟨k1, k2, k3, k4, kz⟩ := blk4 hob3
                  have k0 := cell_of_row w3 w.heap.size 0 _ _ _ hbb3
                  simp only [List.getElem?_toArray, List.getElem?_cons_zero] at k0
                  have HM := Lib.hid hms
                  clear hms hob3 hbb3
                  refine hK136.out _ _ ?hS136x0 (fun hHeld136 => ?_)
                  case hS136x0 => (intro _; exact ⟨k0, k4⟩)
                  clear hK136 K136 hHeld
                  have hHeld := hHeld136 (by simp)
                  clear hHeld136
                  refine' wpLate_take (i := 14) (v := ?v137) rfl (by kernel_rfl) (by kernel_rfl) (by kernel_rfl) (by kernel_rfl) (by kernel_rfl) (fun _ _ _ h => h) (Or.inl ⟨by rfl, ?hy137⟩) (by assumption) ?rest137
                  case hy137 => (intro w hSw; (try dsimp only at hSw); go_simp; try with_reducible rfl)
                  try simp only [Act.put, List.setIfInBounds_toArray, List.set_cons_zero, List.set_cons_succ, List.getElem_toArray, List.getElem_cons_zero, List.getElem_cons_succ]
                  refine wpLate_ready (rs := [15]) (by kernel_rfl) (by simp) ?_
                  refine ReadyL.cons rfl (fun K138 hK138 => ?_) ReadyL.nil
                  go_simp
                  refine hK138.out _ _ ?hS138x0 (fun hHeld138 => ?_)
                  case hS138x0 => exact fun h => absurd (by simp) h
                  clear hK138 K138
                  refine wpLate_done (by kernel_rfl) ?_ _
                  go_wp2_with fail
                  go_roundg (q - (k + 1))
                  case measure => have := HG.out; omega
                  case rel =>
                    have HN : Hid (rel rest = some (⟨a, b, c⟩, r3)) := by
                      show rel rest = _
                      unfold rel
                      rw [T1.out]
                      simp only
                      rw [T2.out]
                      simp only
                      rw [T3.out]
                    exact ⟨k + 1, r3, _, xr ++ [⟨a, b, c⟩], by omega, by simp [HXL.out], rfl, by go_num, (by rw [many, HP.out]; simp only; rw [HN.out]), HM.out⟩
                · obtain rfl : q = k := by omega
                  have HX8 := Lib.hid HXL.out
                  have E8 := Lib.hid HP.out
                  clear hlt hk HP HG HXL
                  obtain ⟨p1, q1, e1⟩ := slice_of HM.out.rc
                  obtain ⟨p2, q2, e2⟩ := slice_of HM.out.rd_
                  obtain ⟨p3, q3, e3⟩ := slice_of HM.out.rs
                  obtain ⟨p4, q4, e4⟩ := slice_of HM.out.rr
                  subst e1 e2 e3 e4
                  have s0 : wr.setCell ⟨w.heap.size + 1, 0, none⟩ (.slice p1 xc.length q1) = wr := setCell_same (i := 0) HM.out.ob rfl
                  have s1 : wr.setCell ⟨w.heap.size + 1, 1, none⟩ (.slice p2 xd.length q2) = wr := setCell_same (i := 1) HM.out.ob rfl
                  have s2 : wr.setCell ⟨w.heap.size + 1, 2, none⟩ (.slice p3 xs.length q3) = wr := setCell_same (i := 2) HM.out.ob rfl
                  have s3 : wr.setCell ⟨w.heap.size + 1, 3, none⟩ (.slice p4 xr.length q4) = wr := setCell_same (i := 3) HM.out.ob rfl
                  go_wp2_with fail
                  have hparse : parse l = some (objOf xc xd xs xr, rest) := by
                    unfold parse
                    rw [E1.out]
                    simp only
                    rw [E2.out]
                    simp only
                    rw [E3.out]
                    simp only
                    rw [E4.out]
                    simp only
                    rw [E5.out]
                    simp only
                    rw [E6.out]
                    simp only
                    rw [E7.out]
                    simp only
                    rw [E8.out]
                  have hobj := HM.out.obj (many_all (fun x : Int => 0 ≤ x ∧ x ≤ 4294967295) (fun _ _ _ h => num_bd h) _ E2.out) (many_all (fun x : Raw => RawIn x) (fun _ _ _ h => (raw_bytes (raw1_raw h).1).2) _ E6.out) (many_all (fun x : Rel => (0 ≤ x.pos ∧ x.pos ≤ 4294967295) ∧ (0 ≤ x.sym ∧ x.sym ≤ 4294967295) ∧ (0 ≤ x.add ∧ x.add ≤ 4294967295)) (fun _ _ _ h => (rel_bytes h).2) _ E8.out) (by have := HX2.out; omega) (by have := HX4.out; omega) (by have := HX6.out; omega) (by have := HX8.out; omega)
                  have HPAR := Lib.hid hparse
                  have HOBJ := Lib.hid hobj
                  clear hparse hobj
                  obtain ⟨o1, o2, o3, o4, m1, m2, m3, m4, m5, m6, m7, m8, he, hO, hH⟩ := HOBJ.out
                  (try rw [s0]); (try rw [s1]); (try rw [s2]); (try rw [s3])
                  refine bodyPost_ret (v := .agg #[.slice p1 xc.length q1, .slice p2 xd.length q2, .slice p3 xs.length q3, .slice p4 xr.length q4]) (by simp [results, Try.results55, go_sem, k1, k2, k3, k4]) rfl ?_
                  exact .inr ⟨_, _, HPAR.out, HM.out.rd, HM.out.grown, o1, o2, o3, o4, m1, m2, m3, m4, m5, m6, m7, m8, congrArg Ending.returned he, hO, hH⟩

end Go.Proofs.Ythnehhidlaggeaa
