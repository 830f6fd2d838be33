/- scarfjointref18.Check: the walk. -/
import Derived.Test.YthnehhidlaggeaaHome
import Derived.Test.YthnehhidlaggeaaObjRPut
import Derived.Deep.DeepCutAuto
import Derived.Deep.CutBlock
namespace Go.Proofs.Ythnehhidlaggeaa
set_option linter.unusedVariables false
set_option linter.unusedSimpArgs false
open Go.RowKit Ob

theorem blk3 {w : World} {b : Nat} {t : TypeId} {v0 v1 v2 : Value} (h : w.heap[b]? = some (.cells #[v0, v1, v2] t (0, 0))) :
    w.cell? ⟨b, 0, none⟩ = some v0 ∧ w.cell? ⟨b, 1, none⟩ = some v1 ∧ w.cell? ⟨b, 2, none⟩ = some v2 ∧ ∀ o, w.frozen? ⟨b, o, none⟩ = false :=
  ⟨cell_of_row w b 0 _ _ _ h, cell_of_row w b 1 _ _ _ h, cell_of_row w b 2 _ _ _ h, fun o => by simp [World.frozen?, h]⟩
/-- a result's cells that are still 0 -/
structure CkAt (B : Nat) (W0 w : World) : Prop where
  hB : B = W0.heap.size
  res : w.heap[B]? = some (.cells #[.int .i64 0, .int .i64 0, .int .i64 0] 73 (0, 0))
  below : Below B W0 w
theorem CkAt.go {B : Nat} {W0 w w2 : World} (h : CkAt B W0 w) (hb : Below w.heap.size w w2) : CkAt B W0 w2 :=
  ⟨h.hB, (hb.block _ (lt_of_block h.res)).trans h.res, h.below.trans (hb.mono (Nat.le_of_lt (lt_of_block h.res)))⟩
def trV (t : Trb) : Value := .agg #[.int .i64 t.1, .int .i64 t.2.1, .int .i64 t.2.2]

set_option maxRecDepth 100000 in
set_option maxHeartbeats 1000000 in
theorem rcheck_size (p : Option Addr) (n kap : Nat) (w : World) (hn : n < 1 ∨ 4 < n) :
    Calls Try.prog 61 #[.slice p n kap] w fun e w' => e = .returned (trV (0, 1, 0)) ∧ Below w.heap.size w w' := by
  unfold trV
  rcases hn with hn | hn
  · have h1 : decide ((n : Int) < 1) = true := decide_eq_true (by omega)
    obtain rfl : n = 0 := by omega
    go_enter Try.func61, Try.ntmps61
    go_wp2_with fail
    refine bodyPost_ret (v := .agg #[.int .i64 0, .int .i64 1, .int .i64 0]) (by simp [results, Try.results61, go_sem]) rfl ⟨rfl, ?_⟩
    exact (Below.refl _ _).alloc (Nat.le_refl _) _
  · have h1 : decide ((n : Int) < 1) = false := decide_eq_false (by omega)
    have h2 : decide ((4 : Int) < n) = true := decide_eq_true (by omega)
    go_enter Try.func61, Try.ntmps61
    go_wp2_with fail
    refine bodyPost_ret (v := .agg #[.int .i64 0, .int .i64 1, .int .i64 0]) (by simp [results, Try.results61, go_sem]) rfl ⟨rfl, ?_⟩
    exact (Below.refl _ _).alloc (Nat.le_refl _) _

set_option maxRecDepth 100000 in
set_option maxHeartbeats 4000000 in
theorem rcheck_any (c co n kap : Nat) (vs : List OV) (os : List Ob.Obj) (w : World) (ho : ObjsAt w c co n vs os) (hn1 : 1 ≤ n) (hn : n ≤ 4) :
    Calls Try.prog 61 #[.slice (some ⟨c, co, none⟩) n kap] w fun e w' => e = .returned (trV (checkT os)) ∧ Below w.heap.size w w' := by
  unfold trV
  obtain ⟨⟨T1, T2, T3⟩, hT⟩ : ∃ T, T = checkT os := ⟨_, rfl⟩
  rw [← hT]
  simp only
  have HT := Lib.hid hT
  have HO := Lib.hid ho
  have hd1 : decide ((n : Int) < 1) = false := decide_eq_false (by omega)
  have hd2 : decide ((4 : Int) < n) = false := decide_eq_false (by omega)
  clear hT ho
  have HC0 : Hid (CkAt w.heap.size w (w.alloc (.cells #[.int .i64 0, .int .i64 0, .int .i64 0] 73))) := Lib.hid ⟨rfl, heap_alloc_new w _, (Below.refl _ _).alloc (Nat.le_refl _) _⟩
  go_enter Try.func61, Try.ntmps61
  go_wp2_with fail
  obtain ⟨ws, hws⟩ : ∃ ws, ws = w.alloc (.cells #[.int .i64 0, .int .i64 0, .int .i64 0] 73) := ⟨_, rfl⟩
  rw [← hws] at HC0 ⊢
  clear hws hd1 hd2
  go_loopg [3] n (fun gk v3 wr => ∃ u : Nat, u ≤ n ∧ gk = n - u ∧ v3 = .int .i64 u ∧ CkAt w.heap.size w wr ∧ (∀ j (hj : j < os.length), j < u → formF j os[j] = none))
  case atStart => exact ⟨0, by omega, rfl, rfl, HC0.out, fun j hj h => by omega⟩
  case round =>
    clear HC0
    obtain ⟨u, hu, hg, rfl, hc, hno⟩ := hrel
    have HG := Lib.hid hg
    have HC := Lib.hid hc
    have HNO := Lib.hid hno
    clear hg hc hno
    by_cases hlt : u < n
    · have hul : u < os.length := by rw [HO.out.nl]; exact hlt
      obtain ⟨v, o, hv, hou⟩ := HO.out.some hlt
      have hoe : os[u] = o := (List.getElem?_eq_some_iff.1 hou).2
      obtain ⟨x0, x1, x2, x3, hobj⟩ := (HO.out.below (HC.out.below.mono (by have := HC.out.hB; omega))).get hlt hv hou
      obtain ⟨t, ht⟩ : ∃ t, mayB o = t := ⟨_, rfl⟩
      have hmay := rmayo_any o v.pc v.pd v.ps v.pr v.n v.kn v.d v.kd v.m v.km v.r v.kr wr hobj
      rw [ht] at hmay
      unfold objV at hmay
      have HMAY := Lib.hid hmay
      have HFM : Hid (formF u os[u] = if t then none else some ((u : Int), (2 : Int), (0 : Int))) := Lib.hid (by unfold formF; rw [hoe, ht])
      clear hv hou hoe hobj ht hmay
      go_wp2_with fail
      refine HMAY.out.mono ?_
      rintro e w1 ⟨rfl, hb⟩
      have HC1 := Lib.hid (HC.out.go hb)
      clear hb HC x0 x1 x2 x3
      cases t
      · obtain ⟨e1, e2, e3⟩ : T1 = (u : Int) ∧ T2 = 2 ∧ T3 = 0 := by
          have := HT.out
          rw [show checkT os = ((u : Int), (2 : Int), (0 : Int)) from by
            unfold checkT
            rw [firstFrom_some formF os 0 u hul ((u : Int), (2 : Int), (0 : Int)) (fun j hj hju => by simpa using HNO.out j hj hju) (by rw [Nat.zero_add, HFM.out]; rfl)]] at this
          simpa using this
        subst e1 e2 e3
        obtain ⟨r0, r1, r2, rz⟩ := blk3 HC1.out.res
        go_wp2_with fail
        refine bodyPost_ret (v := .agg #[.int .i64 (u : Int), .int .i64 2, .int .i64 0]) (by simp [results, Try.results61, go_sem, r0, r1, r2]) rfl ⟨rfl, ?_⟩
        clear r0 r1 r2 rz
        exact ((HC1.out.below.setCell (Nat.le_refl _) _).setCell (Nat.le_refl _) _).setCell (Nat.le_refl _) _
      · go_wp2_with fail
        go_roundg (n - (u + 1))
        case measure => have := HG.out; omega
        case rel => exact ⟨u + 1, hlt, rfl, by go_num, HC1.out, fun j hj hju => by
          by_cases e : j < u
          · exact HNO.out j hj e
          · obtain rfl : j = u := by omega
            rw [HFM.out]
            rfl⟩
    · obtain rfl : n = u := by omega
      have hmay : ∀ o ∈ os, mayB o = true := fun o ho => by
        obtain ⟨j, hj, rfl⟩ := List.getElem_of_mem ho
        have := HNO.out j hj (by rw [HO.out.nl] at hj; exact hj)
        unfold formF at this
        split at this
        · assumption
        · cases this
      have HMAY := Lib.hid hmay
      have HT2 : Hid ((T1, T2, T3) = match scan (twiceF os) os with
          | some t => t
          | none => match scan (meetF os) os with
            | some t => t
            | none => mainE os) := Lib.hid (by
        rw [HT.out]
        unfold checkT
        rw [firstFrom_none formF os 0 (fun j hj => by rw [Nat.zero_add]; exact HNO.out j hj (by rw [HO.out.nl] at hj; exact hj))]
        rfl)
      clear hmay HNO HT
      have HT := HT2
      clear HT2
      go_wp2_with fail
      obtain ⟨ws2, hws2⟩ : ∃ ws2 : World, ws2 = wr := ⟨_, rfl⟩
      rw [← hws2] at HC ⊢
      clear hws2
      go_loopg [4] n (fun gk v4 wr => ∃ u : Nat, u ≤ n ∧ gk = n - u ∧ v4 = .int .i64 u ∧ CkAt w.heap.size w wr ∧ (∀ j (hj : j < os.length), j < u → firstFrom (twiceF os j) 0 os[j].syms = none))
      case atStart => exact ⟨0, by omega, rfl, rfl, HC.out, fun j hj h => by omega⟩
      case round =>
        clear HC
        obtain ⟨u, hu, hg, rfl, hc, hno⟩ := hrel
        have HG := Lib.hid hg
        have HC := Lib.hid hc
        have HNO := Lib.hid hno
        clear hg hc hno
        by_cases hlt : u < n
        · have hdu : decide ((u : Int) < n) = true := decide_eq_true (by omega)
          have hul : u < os.length := by rw [HO.out.nl]; exact hlt
          obtain ⟨v, o, hv, hou⟩ := HO.out.some hlt
          have hoe : os[u] = o := (List.getElem?_eq_some_iff.1 hou).2
          have HV := Lib.hid hv
          have HOU := Lib.hid hou
          have HOE := Lib.hid hoe
          obtain ⟨_, _, x2, _, hobj⟩ := (HO.out.below (HC.out.below.mono (by have := HC.out.hB; omega))).get hlt hv hou
          have hml := hobj.ml
          have hvm : v.m ≤ 9223372036854775807 := hobj.mb
          have HML := Lib.hid hml
          clear hv hou hoe hobj hml
          go_wp2_with fail
          obtain ⟨wo, hwo⟩ : ∃ wo : World, wo = wr := ⟨_, rfl⟩
          rw [← hwo] at HC x2 ⊢
          clear hwo
          go_loopg [5] v.m (fun gk v5 wi => ∃ i : Nat, i ≤ v.m ∧ gk = v.m - i ∧ v5 = .int .i64 i ∧ CkAt w.heap.size w wi ∧ (∀ k (hk : k < os[u].syms.length), k < i → twiceF os u k os[u].syms[k] = none))
          case atStart => exact ⟨0, by omega, rfl, rfl, HC.out, fun j hj h => by omega⟩
          case round =>
            clear x2 HC
            obtain ⟨i, hi, hgi, rfl, hci, hnoi⟩ := hrel
            have HGI := Lib.hid hgi
            have HCI := Lib.hid hci
            have HNOI := Lib.hid hnoi
            obtain ⟨_, _, x2, _, hobj⟩ := (HO.out.below (HCI.out.below.mono (by have := HCI.out.hB; omega))).get hlt HV.out HOU.out
            have HOBJ := Lib.hid hobj
            clear hgi hci hnoi hobj
            by_cases hlt2 : i < v.m
            · obtain ⟨c0, c1, hps, hc0, hi', hrange⟩ := HOBJ.out.sym hlt2
              obtain ⟨s, hs⟩ : ∃ s, o.syms[i] = s := ⟨_, rfl⟩
              rw [hs] at hrange
              have hiu : i < os[u].syms.length := by rw [HOE.out]; exact hi'
              have HS : Hid (os[u].syms[i] = s) := Lib.hid (by
                have := HOE.out
                subst this
                exact hs)
              have HRG := Lib.hid hrange
              rw [hps] at x2
              clear hs hrange hps
              have hst := sym_store s
              go_wp2_with (refine wpList_load_mid (by rfl) 106 (.tmp 62) (by rfl) c0 (c1 + i * 7) (by rfl) [.string s.name, .int .i64 s.kind, .bool s.static, .int .i64 s.pos, .int .i64 s.size, .string s.sign, .int .i64 s.frame] _ HRG.out Try.underlying106 (by rfl) (by kernel_rfl) ?_)
              obtain ⟨t1, ht1⟩ : ∃ t1, t1 = ownK s := ⟨_, rfl⟩
              have hown := fun w => own_any s w
              rw [← ht1] at hown
              unfold symV at hown
              have HOWN := Lib.hid hown
              have HT1 := Lib.hid ht1
              clear hown ht1 hst x2
              refine (HOWN.out _).mono ?_
              rintro e w3 ⟨rfl, hb3⟩
              have hbx := (hb3.block wr.heap.size (by simp)).trans (heap_alloc_new wr (.cells #[.string s.name, .int .i64 s.kind, .bool s.static, .int .i64 s.pos, .int .i64 s.size, .string s.sign, .int .i64 s.frame] 106))
              obtain ⟨y0, y1, y2, y3, y4, y5, y6, yz⟩ := blk7 hbx
              have HC3 : Hid (CkAt w.heap.size w w3) := Lib.hid ((HCI.out.go ((Below.refl _ _).alloc (Nat.le_refl _) _)).go hb3)
              clear hb3 hbx
              cases t1
              · have HNX : Hid (twiceF os u i os[u].syms[i] = none) := Lib.hid (by
                  rw [HS.out]
                  unfold twiceF
                  rw [← HT1.out]
                  rfl)
                go_wp2_with fail
                go_roundg (v.m - (i + 1))
                case measure => have := HGI.out; omega
                case rel => exact ⟨i + 1, hlt2, rfl, by go_num, HC3.out, fun k hk hki => by
                  by_cases e : k < i
                  · exact HNOI.out k hk e
                  · obtain rfl : k = i := by omega
                    exact HNX.out⟩
              · cases hst2 : s.static
                · rw [hst2] at y2
                  obtain ⟨hv', hk', hhome, hvu, _⟩ := home_le hul hiu (by rw [HS.out, ← HT1.out]) (by rw [HS.out, hst2])
                  rw [HS.out] at hhome
                  have hhi : homeI os s.name.data.toList = ((hv' : Int), (hk' : Int)) := homeI_some hhome
                  have hhc := home_any c co n kap vs os s.name w3 (HO.out.below (HC3.out.below.mono (by have := HC3.out.hB; omega))) hn
                  rw [hhi] at hhc
                  have HHC := Lib.hid hhc
                  have HTW : Hid (twiceF os u i os[u].syms[i] = if hv' < u then some ((u : Int), (5 : Int), (i : Int)) else none) := Lib.hid (by
                    rw [HS.out]
                    unfold twiceF
                    rw [← HT1.out, hst2]
                    simp only [hhome]
                    rfl)
                  clear hst2 hhome hhi hhc
                  go_wp2_with fail
                  refine HHC.out.mono ?_
                  rintro e w4 ⟨rfl, hb4⟩
                  have HC4 := Lib.hid (HC3.out.go hb4)
                  clear hb4 HC3 y0 y1 y2 y3 y4 y5 y6 yz
                  by_cases hvl : hv' < u
                  · have hdv : decide ((hv' : Int) < u) = true := decide_eq_true (by omega)
                    obtain ⟨e1, e2, e3⟩ : T1 = (u : Int) ∧ T2 = 5 ∧ T3 = (i : Int) := by
                      have := HT.out
                      have hsc : scan (twiceF os) os = some ((u : Int), (5 : Int), (i : Int)) := by
                        refine firstFrom_some _ _ 0 u hul ((u : Int), (5 : Int), (i : Int)) (fun j hj hju => by simpa using HNO.out j hj hju) ?_
                        simp only [Nat.zero_add]
                        refine firstFrom_some _ _ 0 i hiu ((u : Int), (5 : Int), (i : Int)) (fun k hk hki => by simpa using HNOI.out k hk hki) ?_
                        simp only [Nat.zero_add]
                        rw [HTW.out, if_pos hvl]
                      rw [hsc] at this
                      simpa using this
                    subst e1 e2 e3
                    obtain ⟨r0, r1, r2, rz⟩ := blk3 HC4.out.res
                    go_wp2_with fail
                    refine bodyPost_ret (v := .agg #[.int .i64 (u : Int), .int .i64 5, .int .i64 (i : Int)]) (by simp [results, Try.results61, go_sem, r0, r1, r2]) rfl ⟨rfl, ?_⟩
                    clear r0 r1 r2 rz
                    exact ((HC4.out.below.setCell (Nat.le_refl _) _).setCell (Nat.le_refl _) _).setCell (Nat.le_refl _) _
                  · have hdv : decide ((hv' : Int) < u) = false := decide_eq_false (by omega)
                    have HNX : Hid (twiceF os u i os[u].syms[i] = none) := Lib.hid (by
                      rw [HTW.out, if_neg hvl])
                    go_wp2_with fail
                    go_roundg (v.m - (i + 1))
                    case measure => have := HGI.out; omega
                    case rel => exact ⟨i + 1, hlt2, rfl, by go_num, HC4.out, fun k hk hki => by
                      by_cases e : k < i
                      · exact HNOI.out k hk e
                      · obtain rfl : k = i := by omega
                        exact HNX.out⟩
                · have HST2 := Lib.hid hst2
                  rw [hst2] at y2
                  clear hst2
                  have HNX : Hid (twiceF os u i os[u].syms[i] = none) := Lib.hid (by
                    rw [HS.out]
                    unfold twiceF
                    rw [HST2.out]
                    simp)
                  go_wp2_with fail
                  go_roundg (v.m - (i + 1))
                  case measure => have := HGI.out; omega
                  case rel => exact ⟨i + 1, hlt2, rfl, by go_num, HC3.out, fun k hk hki => by
                    by_cases e : k < i
                    · exact HNOI.out k hk e
                    · obtain rfl : k = i := by omega
                      exact HNX.out⟩
            · obtain rfl : i = v.m := by omega
              have HNX : Hid (firstFrom (twiceF os u) 0 os[u].syms = none) := Lib.hid (firstFrom_none _ _ 0 (fun j hj => by
                rw [Nat.zero_add]
                exact HNOI.out j hj (by have := HML.out; have := HOE.out; subst this; omega)))
              go_wp2_with fail
              go_roundg (n - (u + 1))
              case measure => have := HG.out; omega
              case rel => exact ⟨u + 1, hlt, rfl, by go_num, HCI.out, fun j hj hju => by
                by_cases e : j < u
                · exact HNO.out j hj e
                · obtain rfl : j = u := by omega
                  exact HNX.out⟩
        · obtain rfl : n = u := by omega
          have HT2 : Hid ((T1, T2, T3) = match scan (meetF os) os with
                | some t => t
                | none => mainE os) := Lib.hid (by
            rw [HT.out]
            have hsc : scan (twiceF os) os = none := firstFrom_none _ os 0 (fun j hj => by rw [Nat.zero_add]; exact HNO.out j hj (by rw [HO.out.nl] at hj; exact hj))
            rw [hsc])
          clear HNO HT
          have HT := HT2
          clear HT2
          go_wp2_with fail
          obtain ⟨ws3, hws3⟩ : ∃ ws3 : World, ws3 = wr := ⟨_, rfl⟩
          rw [← hws3] at HC ⊢
          clear hws3
          go_loopg [9] n (fun gk v4 wr => ∃ u : Nat, u ≤ n ∧ gk = n - u ∧ v4 = .int .i64 u ∧ CkAt w.heap.size w wr ∧ (∀ j (hj : j < os.length), j < u → firstFrom (meetF os j) 0 os[j].syms = none))
          case atStart => exact ⟨0, by omega, rfl, rfl, HC.out, fun j hj h => by omega⟩
          case round =>
            clear HC
            obtain ⟨u, hu, hg, rfl, hc, hno⟩ := hrel
            have HG := Lib.hid hg
            have HC := Lib.hid hc
            have HNO := Lib.hid hno
            clear hg hc hno
            by_cases hlt : u < n
            · have hdu : decide ((u : Int) < n) = true := decide_eq_true (by omega)
              have hul : u < os.length := by rw [HO.out.nl]; exact hlt
              obtain ⟨v, o, hv, hou⟩ := HO.out.some hlt
              have hoe : os[u] = o := (List.getElem?_eq_some_iff.1 hou).2
              have HV := Lib.hid hv
              have HOU := Lib.hid hou
              have HOE := Lib.hid hoe
              obtain ⟨_, _, x2, _, hobj⟩ := (HO.out.below (HC.out.below.mono (by have := HC.out.hB; omega))).get hlt hv hou
              have hml := hobj.ml
              have hvm : v.m ≤ 9223372036854775807 := hobj.mb
              have HML := Lib.hid hml
              clear hv hou hoe hobj hml
              go_wp2_with fail
              obtain ⟨wo, hwo⟩ : ∃ wo : World, wo = wr := ⟨_, rfl⟩
              rw [← hwo] at HC x2 ⊢
              clear hwo
              go_loopg [10] v.m (fun gk v5 wi => ∃ i : Nat, i ≤ v.m ∧ gk = v.m - i ∧ v5 = .int .i64 i ∧ CkAt w.heap.size w wi ∧ (∀ k (hk : k < os[u].syms.length), k < i → meetF os u k os[u].syms[k] = none))
              case atStart => exact ⟨0, by omega, rfl, rfl, HC.out, fun j hj h => by omega⟩
              case round =>
                clear x2 HC
                obtain ⟨i, hi, hgi, rfl, hci, hnoi⟩ := hrel
                have HGI := Lib.hid hgi
                have HCI := Lib.hid hci
                have HNOI := Lib.hid hnoi
                obtain ⟨_, _, x2, _, hobj⟩ := (HO.out.below (HCI.out.below.mono (by have := HCI.out.hB; omega))).get hlt HV.out HOU.out
                have HOBJ := Lib.hid hobj
                clear hgi hci hnoi hobj
                by_cases hlt2 : i < v.m
                · obtain ⟨c0, c1, hps, hc0, hi', hrange⟩ := HOBJ.out.sym hlt2
                  obtain ⟨s, hs⟩ : ∃ s, o.syms[i] = s := ⟨_, rfl⟩
                  rw [hs] at hrange
                  have hiu : i < os[u].syms.length := by rw [HOE.out]; exact hi'
                  have HS : Hid (os[u].syms[i] = s) := Lib.hid (by
                    have := HOE.out
                    subst this
                    exact hs)
                  have HKIND : Hid (1 ≤ s.kind ∧ s.kind ≤ 4) := Lib.hid ((fine_of HMAY.out).2 o (List.mem_of_getElem? HOU.out) s (by rw [← hs]; exact List.getElem_mem hi')).kind
                  have HRG := Lib.hid hrange
                  rw [hps] at x2
                  clear hs hrange hps
                  have hst := sym_store s
                  go_wp2_with (refine wpList_load_mid (by rfl) 106 (.tmp 106) (by rfl) c0 (c1 + i * 7) (by rfl) [.string s.name, .int .i64 s.kind, .bool s.static, .int .i64 s.pos, .int .i64 s.size, .string s.sign, .int .i64 s.frame] _ HRG.out Try.underlying106 (by rfl) (by kernel_rfl) ?_)
                  obtain ⟨t1, ht1⟩ : ∃ t1, t1 = ownK s := ⟨_, rfl⟩
                  have hown := fun w => own_any s w
                  rw [← ht1] at hown
                  unfold symV at hown
                  have HOWN := Lib.hid hown
                  have HT1 := Lib.hid ht1
                  clear hown ht1 hst x2
                  refine (HOWN.out _).mono ?_
                  rintro e w3 ⟨rfl, hb3⟩
                  have hbx := (hb3.block wr.heap.size (by simp)).trans (heap_alloc_new wr (.cells #[.string s.name, .int .i64 s.kind, .bool s.static, .int .i64 s.pos, .int .i64 s.size, .string s.sign, .int .i64 s.frame] 106))
                  obtain ⟨y0, y1, y2, y3, y4, y5, y6, yz⟩ := blk7 hbx
                  have HBX := Lib.hid hbx
                  have HC3 : Hid (CkAt w.heap.size w w3) := Lib.hid ((HCI.out.go ((Below.refl _ _).alloc (Nat.le_refl _) _)).go hb3)
                  clear hb3 hbx
                  cases t1
                  · have hhc := home_any c co n kap vs os s.name w3 (HO.out.below (HC3.out.below.mono (by have := HC3.out.hB; omega))) hn
                    have HHC := Lib.hid hhc
                    clear hhc
                    go_wp2_with fail
                    refine HHC.out.mono ?_
                    rintro e w4 ⟨rfl, hb4⟩
                    have HC4 := Lib.hid (HC3.out.go hb4)
                    have hbx := (hb4.block _ (lt_of_block HBX.out)).trans HBX.out
                    clear y0 y1 y2 y3 y4 y5 y6 yz
                    obtain ⟨y0, y1, y2, y3, y4, y5, y6, yz⟩ := blk7 hbx
                    have hlb := lt_of_block hbx
                    have HBX4 := Lib.hid hbx
                    clear hb4 hbx HC3 HBX HHC
                    rcases hhome : home os (nameOf s) with _ | ⟨vh, kh⟩
                    · have hhi : homeI os s.name.data.toList = ((-1 : Int), (0 : Int)) := homeI_none hhome
                      have HMT : Hid (meetF os u i os[u].syms[i] = some ((u : Int), (4 : Int), (i : Int))) := Lib.hid (by
                        rw [HS.out]
                        unfold meetF
                        rw [← HT1.out]
                        simp only [hhome]
                        rfl)
                      rw [hhi]
                      clear hhome hhi y0 y1 y2 y3 y4 y5 y6 yz
                      obtain ⟨e1, e2, e3⟩ : T1 = (u : Int) ∧ T2 = 4 ∧ T3 = (i : Int) := by
                        have := HT.out
                        have hsc : scan (meetF os) os = some ((u : Int), (4 : Int), (i : Int)) := by
                          refine firstFrom_some _ _ 0 u hul ((u : Int), (4 : Int), (i : Int)) (fun j hj hju => by simpa using HNO.out j hj hju) ?_
                          simp only [Nat.zero_add]
                          refine firstFrom_some _ _ 0 i hiu ((u : Int), (4 : Int), (i : Int)) (fun k hk hki => by simpa using HNOI.out k hk hki) ?_
                          simp only [Nat.zero_add]
                          exact HMT.out
                        rw [hsc] at this
                        simpa using this
                      subst e1 e2 e3
                      obtain ⟨r0, r1, r2, rz⟩ := blk3 HC4.out.res
                      go_wp2_with fail
                      refine bodyPost_ret (v := .agg #[.int .i64 (u : Int), .int .i64 4, .int .i64 (i : Int)]) (by simp [results, Try.results61, go_sem, r0, r1, r2]) rfl ⟨rfl, ?_⟩
                      clear r0 r1 r2 rz
                      exact ((HC4.out.below.setCell (Nat.le_refl _) _).setCell (Nat.le_refl _) _).setCell (Nat.le_refl _) _
                    · have hhi : homeI os s.name.data.toList = ((vh : Int), (kh : Int)) := homeI_some hhome
                      rw [hhi]
                      obtain ⟨oh, hvl, hohe, hkl, hownh, hq1, hq2⟩ := home_sym hhome
                      clear hq1 hq2
                      obtain ⟨sh, hh⟩ : ∃ sh, oh.syms[kh] = sh := ⟨_, rfl⟩
                      rw [hh] at hownh
                      have HSYM : Hid (symAt os vh kh = some sh) := Lib.hid (by
                        unfold symAt
                        rw [List.getElem?_eq_getElem hvl, Option.bind_some, hohe, List.getElem?_eq_getElem hkl, hh])
                      have hou2 : os[vh]? = some oh := by rw [List.getElem?_eq_getElem hvl, hohe]
                      have HKH : Hid (1 ≤ sh.kind ∧ sh.kind ≤ 4) := Lib.hid ((fine_of HMAY.out).2 oh (List.mem_of_getElem? hou2) sh (by rw [← hh]; exact List.getElem_mem hkl)).kind
                      have hvn : vh < n := by rw [HO.out.nl] at hvl; exact hvl
                      obtain ⟨v2, o2, hv2, ho2⟩ := HO.out.some hvn
                      obtain rfl : oh = o2 := Option.some.inj (hou2.symm.trans ho2)
                      obtain ⟨_, _, z2, _, hobj2⟩ := (HO.out.below (HC4.out.below.mono (by have := HC4.out.hB; omega))).get hvn hv2 hou2
                      have hm2 : v2.m ≤ 9223372036854775807 := hobj2.mb
                      have hk2 : kh < v2.m := by rw [← hobj2.ml]; exact hkl
                      obtain ⟨d0, d1, hps2, hd0, hi2', hrange2⟩ := hobj2.sym hk2
                      rw [hh] at hrange2
                      rw [hps2] at z2
                      have HRG2 := Lib.hid hrange2
                      have hst := sym_store sh
                      have HOWNH := Lib.hid hownh
                      have HMF : Hid (meetF os u i os[u].syms[i] = if kindBad s sh then some ((u : Int), (3 : Int), (i : Int)) else none) := Lib.hid (by
                        rw [HS.out]
                        unfold meetF
                        rw [← HT1.out]
                        simp only [hhome, HSYM.out]
                        rfl)
                      clear hhome hhi hohe hkl hownh hou2 hv2 ho2 hobj2 hps2 hi2' hrange2 hvl hh
                      go_upto_region 31 with (refine wpList_load_mid (by rfl) 106 (.tmp 128) (by rfl) d0 (d1 + kh * 7) (by rfl) [.string sh.name, .int .i64 sh.kind, .bool sh.static, .int .i64 sh.pos, .int .i64 sh.size, .string sh.sign, .int .i64 sh.frame] _ HRG2.out Try.underlying106 (by rfl) (by kernel_rfl) ?_)
                      obtain ⟨w5, hw5⟩ : ∃ w5, w5 = w4.alloc (.cells #[.string sh.name, .int .i64 sh.kind, .bool sh.static, .int .i64 sh.pos, .int .i64 sh.size, .string sh.sign, .int .i64 sh.frame] 106) := ⟨_, rfl⟩
                      have HC5 : Hid (CkAt w.heap.size w w5) := Lib.hid (by rw [hw5]; exact HC4.out.go ((Below.refl _ _).alloc (Nat.le_refl _) _))
                      have hbx5 : w5.heap[wr.heap.size]? = some (.cells #[.string s.name, .int .i64 s.kind, .bool s.static, .int .i64 s.pos, .int .i64 s.size, .string s.sign, .int .i64 s.frame] 106 (0, 0)) := by rw [hw5, Below.heap_alloc _ _ _ hlb]; exact HBX4.out
                      have hbh5 : w5.heap[w4.heap.size]? = some (.cells #[.string sh.name, .int .i64 sh.kind, .bool sh.static, .int .i64 sh.pos, .int .i64 sh.size, .string sh.sign, .int .i64 sh.frame] 106 (0, 0)) := by rw [hw5]; exact heap_alloc_new _ _
                      clear y0 y1 y2 y3 y4 y5 y6 yz z2
                      obtain ⟨y0, y1, y2, y3, y4, y5, y6, yz⟩ := blk7 hbx5
                      obtain ⟨q0, q1, q2, q3, q4, q5, q6, qz⟩ := blk7 hbh5
                      rw [← hw5]
                      clear hw5 hst hbx5 hbh5 hlb HBX4 HC4
                      obtain ⟨kb, hkb⟩ : ∃ kb, kb = kindBad s sh := ⟨_, rfl⟩
                      rw [← hkb] at HMF
                      have HKB := Lib.hid hkb
                      clear hkb
                      go_cut [154] from 130 to 154 (fun v154 wx => v154 = .bool kb ∧ w5 = wx)
                      case first =>
                        have hks : s.kind = 3 ∨ s.kind = 4 := by
                          have h1 := HT1.out
                          have h2 := HKIND.out
                          unfold ownK at h1
                          have h3 : (s.kind == 1) = false ∧ (s.kind == 2) = false := by simpa using h1.symm
                          have h4 : s.kind ≠ 1 := by simpa using h3.1
                          have h5 : s.kind ≠ 2 := by simpa using h3.2
                          omega
                        have hkh : sh.kind = 1 ∨ sh.kind = 2 := by
                          have h1 := HOWNH.out
                          unfold ownK at h1
                          simpa using h1
                        obtain ⟨ts, hts⟩ : ∃ ts : Bool, (sh.sign.toList == s.sign.toList) = ts := ⟨_, rfl⟩
                        have hsg : (signOf sh == signOf s) = ts := by
                          rw [ByteArray.toList_eq, ByteArray.toList_eq] at hts
                          exact hts
                        have HSG := Lib.hid hsg
                        clear hsg
                        rcases hks with ek | ek <;> rcases hkh with eh | eh
                        all_goals
                          have hkv : kb = (((s.kind == 3 && !(sh.kind == 1)) || (s.kind == 4 && !(sh.kind == 2))) || !ts) := by
                            rw [HKB.out]
                            unfold kindBad
                            rw [HSG.out]
                          rw [ek, eh] at hkv
                          rw [ek] at y1
                          rw [eh] at q1
                          have HKV := Lib.hid hkv
                          clear hkv ek eh
                          go_wp2_with fail
                          go_meet
                          exact ⟨by rw [HKV.out]; cases ts <;> rfl, rfl⟩
                      case rest =>
                        obtain ⟨rfl, rfl⟩ := hcut
                        clear y0 y1 y2 y3 y4 y5 y6 yz q0 q1 q2 q3 q4 q5 q6 qz
                        cases kb
                        · have HNX : Hid (meetF os u i os[u].syms[i] = none) := Lib.hid (by
                            rw [HMF.out]
                            rfl)
                          go_wp2_with fail
                          go_roundg (v.m - (i + 1))
                          case measure => have := HGI.out; omega
                          case rel => exact ⟨i + 1, hlt2, rfl, by go_num, HC5.out, fun k hk hki => by
                            by_cases e : k < i
                            · exact HNOI.out k hk e
                            · obtain rfl : k = i := by omega
                              exact HNX.out⟩
                        · obtain ⟨e1, e2, e3⟩ : T1 = (u : Int) ∧ T2 = 3 ∧ T3 = (i : Int) := by
                            have := HT.out
                            have hsc : scan (meetF os) os = some ((u : Int), (3 : Int), (i : Int)) := by
                              refine firstFrom_some _ _ 0 u hul ((u : Int), (3 : Int), (i : Int)) (fun j hj hju => by simpa using HNO.out j hj hju) ?_
                              simp only [Nat.zero_add]
                              refine firstFrom_some _ _ 0 i hiu ((u : Int), (3 : Int), (i : Int)) (fun k hk hki => by simpa using HNOI.out k hk hki) ?_
                              simp only [Nat.zero_add]
                              exact HMF.out
                            rw [hsc] at this
                            simpa using this
                          subst e1 e2 e3
                          obtain ⟨r0, r1, r2, rz⟩ := blk3 HC5.out.res
                          go_wp2_with fail
                          refine bodyPost_ret (v := .agg #[.int .i64 (u : Int), .int .i64 3, .int .i64 (i : Int)]) (by simp [results, Try.results61, go_sem, r0, r1, r2]) rfl ⟨rfl, ?_⟩
                          clear r0 r1 r2 rz
                          exact ((HC5.out.below.setCell (Nat.le_refl _) _).setCell (Nat.le_refl _) _).setCell (Nat.le_refl _) _
                  · have HNX : Hid (meetF os u i os[u].syms[i] = none) := Lib.hid (by
                      rw [HS.out]
                      unfold meetF
                      rw [← HT1.out]
                      rfl)
                    go_wp2_with fail
                    go_roundg (v.m - (i + 1))
                    case measure => have := HGI.out; omega
                    case rel => exact ⟨i + 1, hlt2, rfl, by go_num, HC3.out, fun k hk hki => by
                      by_cases e : k < i
                      · exact HNOI.out k hk e
                      · obtain rfl : k = i := by omega
                        exact HNX.out⟩
                · obtain rfl : i = v.m := by omega
                  have HNX : Hid (firstFrom (meetF os u) 0 os[u].syms = none) := Lib.hid (firstFrom_none _ _ 0 (fun j hj => by
                    rw [Nat.zero_add]
                    exact HNOI.out j hj (by have := HML.out; have := HOE.out; subst this; omega)))
                  go_wp2_with fail
                  go_roundg (n - (u + 1))
                  case measure => have := HG.out; omega
                  case rel => exact ⟨u + 1, hlt, rfl, by go_num, HCI.out, fun j hj hju => by
                    by_cases e : j < u
                    · exact HNO.out j hj e
                    · obtain rfl : j = u := by omega
                      exact HNX.out⟩
            · obtain rfl : n = u := by omega
              have HT2 : Hid ((T1, T2, T3) = mainE os) := Lib.hid (by
                rw [HT.out]
                have hsc : scan (meetF os) os = none := firstFrom_none _ os 0 (fun j hj => by rw [Nat.zero_add]; exact HNO.out j hj (by rw [HO.out.nl] at hj; exact hj))
                rw [hsc])
              clear HNO HT
              have HT := HT2
              clear HT2
              go_wp2_with fail
              have hmain := home_any c co n kap vs os ⟨#[109, 97, 105, 110]⟩ wr (HO.out.below (HC.out.below.mono (by have := HC.out.hB; omega))) hn
              have hmn : (⟨#[109, 97, 105, 110]⟩ : ByteArray).data.toList = mainName := rfl
              rw [hmn] at hmain
              have HMAIN := Lib.hid hmain
              clear hmain hmn
              refine HMAIN.out.mono ?_
              rintro e w4 ⟨rfl, hb4⟩
              have HC4 := Lib.hid (HC.out.go hb4)
              clear hb4 HC
              rcases hhome : home os mainName with _ | ⟨vh, kh⟩
              · rw [homeI_none hhome]
                have HME : Hid (mainE os = ((0 : Int), (4 : Int), (0 : Int))) := Lib.hid (by unfold mainE; simp only [hhome])
                clear hhome
                obtain ⟨e1, e2, e3⟩ : T1 = 0 ∧ T2 = 4 ∧ T3 = 0 := by
                  have := HT.out
                  rw [HME.out] at this
                  simpa using this
                subst e1 e2 e3
                obtain ⟨r0, r1, r2, rz⟩ := blk3 HC4.out.res
                go_wp2_with fail
                refine bodyPost_ret (v := .agg #[.int .i64 0, .int .i64 4, .int .i64 0]) (by simp [results, Try.results61, go_sem, r0, r1, r2]) rfl ⟨rfl, ?_⟩
                clear r0 r1 r2 rz
                exact ((HC4.out.below.setCell (Nat.le_refl _) _).setCell (Nat.le_refl _) _).setCell (Nat.le_refl _) _
              · rw [homeI_some hhome]
                obtain ⟨oh, hvl, hohe, hkl, hownh, hq1, hq2⟩ := home_sym hhome
                clear hq1 hq2
                obtain ⟨sh, hh⟩ : ∃ sh, oh.syms[kh] = sh := ⟨_, rfl⟩
                have HSYM : Hid (symAt os vh kh = some sh) := Lib.hid (by
                  unfold symAt
                  rw [List.getElem?_eq_getElem hvl, Option.bind_some, hohe, List.getElem?_eq_getElem hkl, hh])
                have hou2 : os[vh]? = some oh := by rw [List.getElem?_eq_getElem hvl, hohe]
                have hvn : vh < n := by rw [HO.out.nl] at hvl; exact hvl
                obtain ⟨v2, o2, hv2, ho2⟩ := HO.out.some hvn
                obtain rfl : oh = o2 := Option.some.inj (hou2.symm.trans ho2)
                obtain ⟨_, _, z2, _, hobj2⟩ := (HO.out.below (HC4.out.below.mono (by have := HC4.out.hB; omega))).get hvn hv2 hou2
                have hm2 : v2.m ≤ 9223372036854775807 := hobj2.mb
                have hk2 : kh < v2.m := by rw [← hobj2.ml]; exact hkl
                obtain ⟨d0, d1, hps2, hd0, hi2', hrange2⟩ := hobj2.sym hk2
                rw [hh] at hrange2
                rw [hps2] at z2
                have g1 := hrange2 1 _ rfl
                have g5 := hrange2 5 _ rfl
                have HME : Hid (mainE os = if sh.kind = 1 then (if signOf sh = mainSign then noTrb else (0, 3, 0)) else (0, 4, 0)) := Lib.hid (by unfold mainE; simp only [hhome, HSYM.out])
                clear hhome hohe hownh hou2 hv2 ho2 hobj2 hps2 hi2' hrange2 hh
                by_cases hk1 : sh.kind = 1
                · rw [hk1] at g1
                  obtain ⟨ts, hts⟩ : ∃ ts : Bool, (sh.sign.toList == (⟨#[102, 110, 40, 41, 105, 110, 116]⟩ : ByteArray).toList) = ts := ⟨_, rfl⟩
                  have hsg : decide (signOf sh = mainSign) = ts := by
                    rw [ByteArray.toList_eq, ByteArray.toList_eq] at hts
                    rw [← hts]
                    exact (Bool.beq_eq_decide_eq _ _).symm
                  have hts2 : (sh.sign.toList == [102, 110, 40, 41, 105, 110, 116]) = ts := by rw [← hts, ByteArray.toList_eq ⟨#[102, 110, 40, 41, 105, 110, 116]⟩]
                  have HSG := Lib.hid hsg
                  have HK1 := Lib.hid hk1
                  clear hsg hk1
                  cases ts
                  · obtain ⟨e1, e2, e3⟩ : T1 = 0 ∧ T2 = 3 ∧ T3 = 0 := by
                      have := HT.out
                      rw [HME.out, if_pos HK1.out, if_neg (of_decide_eq_false HSG.out)] at this
                      simpa using this
                    subst e1 e2 e3
                    obtain ⟨r0, r1, r2, rz⟩ := blk3 HC4.out.res
                    go_wp2_with fail
                    refine bodyPost_ret (v := .agg #[.int .i64 0, .int .i64 3, .int .i64 0]) (by simp [results, Try.results61, go_sem, r0, r1, r2]) rfl ⟨rfl, ?_⟩
                    clear r0 r1 r2 rz
                    exact ((HC4.out.below.setCell (Nat.le_refl _) _).setCell (Nat.le_refl _) _).setCell (Nat.le_refl _) _
                  · obtain ⟨e1, e2, e3⟩ : T1 = 0 ∧ T2 = 0 ∧ T3 = 0 := by
                      have := HT.out
                      rw [HME.out, if_pos HK1.out, if_pos (of_decide_eq_true HSG.out)] at this
                      simpa [noTrb] using this
                    subst e1 e2 e3
                    obtain ⟨r0, r1, r2, rz⟩ := blk3 HC4.out.res
                    go_wp2_with fail
                    refine bodyPost_ret (v := .agg #[.int .i64 0, .int .i64 0, .int .i64 0]) (by simp [results, Try.results61, go_sem, r0, r1, r2]) rfl ⟨rfl, ?_⟩
                    clear r0 r1 r2 rz
                    exact ((HC4.out.below.setCell (Nat.le_refl _) _).setCell (Nat.le_refl _) _).setCell (Nat.le_refl _) _
                · have hkb : (sh.kind == 1) = false := by simp [hk1]
                  have hkb2 : (sh.kind != 1) = true := by simp [hk1]
                  have HK1 := Lib.hid hk1
                  clear hk1
                  obtain ⟨e1, e2, e3⟩ : T1 = 0 ∧ T2 = 4 ∧ T3 = 0 := by
                    have := HT.out
                    rw [HME.out, if_neg HK1.out] at this
                    simpa using this
                  subst e1 e2 e3
                  obtain ⟨r0, r1, r2, rz⟩ := blk3 HC4.out.res
                  go_wp2_with fail
                  refine bodyPost_ret (v := .agg #[.int .i64 0, .int .i64 4, .int .i64 0]) (by simp [results, Try.results61, go_sem, r0, r1, r2]) rfl ⟨rfl, ?_⟩
                  clear r0 r1 r2 rz
                  exact ((HC4.out.below.setCell (Nat.le_refl _) _).setCell (Nat.le_refl _) _).setCell (Nat.le_refl _) _

end Go.Proofs.Ythnehhidlaggeaa
