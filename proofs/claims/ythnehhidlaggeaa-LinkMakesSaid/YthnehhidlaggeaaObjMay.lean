/- object.May: the walk. -/
import Derived.Test.YthnehhidlaggeaaObjTake2
import Derived.Test.YthnehhidlaggeaaNames2
namespace Go.Proofs.Ythnehhidlaggeaa
set_option linter.unusedVariables false
set_option linter.unusedSimpArgs false
open Go.RowKit Ob

/-- behind k symbols -/
structure MayMid (w wr : World) (oc : Array Value) (o : Ob.Obj) (k : Nat) (c d : Int) : Prop where
  below : Below w.heap.size w wr
  box : wr.heap[w.heap.size]? = some (.cells oc 60 (0, 0))
  set : wr.ownsMap Try.prog 9 (plainElem (H := Unit) Try.prog 4) (w.heap.size + 1) k (seen (names (o.syms.take k)))
  rows : RowsBlk wr (w.heap.size + 1 + 1) c d
  go : symsGo [] 0 0 (o.syms.take k) = some (c, d)
  sums : 0 ≤ c ∧ c ≤ 16000 * k ∧ 0 ≤ d ∧ d ≤ 16000 * k
theorem MayMid.lt {w wr : World} {oc : Array Value} {o : Ob.Obj} {k : Nat} {c d : Int} (h : MayMid w wr oc o k c d) : w.heap.size + 1 + 1 < wr.heap.size := lt_of_block h.rows

theorem MayMid.grown {w wr w2 : World} {oc : Array Value} {o : Ob.Obj} {k : Nat} {c d c2 d2 : Int} (h : MayMid w wr oc o k c d) (hg : wr.grownBy w2 (some (w.heap.size + 1 + 1))) :
    Below w.heap.size w w2 ∧ w2.heap[w.heap.size]? = some (.cells oc 60 (0, 0)) ∧ w2.ownsMap Try.prog 9 (plainElem (H := Unit) Try.prog 4) (w.heap.size + 1) k (seen (names (o.syms.take k))) := by
  have hl := h.lt
  exact ⟨h.below.grown hg (by omega) (fun k hk => by injection hk with hk; omega), (hg.block _ (by omega) (by simp; omega)).trans h.box, h.set.kept hg (by simp)⟩
theorem MayMid.alloc {w wr : World} {oc : Array Value} {o : Ob.Obj} {k : Nat} {c d : Int} (h : MayMid w wr oc o k c d) (x : Go.Obj) : MayMid w (wr.alloc x) oc o k c d := by
  have hl := h.lt
  exact ⟨h.below.alloc (by omega) _, (Below.heap_alloc _ _ _ (by omega)).trans h.box, h.set.alloc _, (Below.heap_alloc _ _ _ (by omega)).trans h.rows, h.go, h.sums⟩
theorem MayMid.next {w w2 w3 : World} {oc : Array Value} {o : Ob.Obj} {k : Nat} {c d c2 d2 : Int} (hk : k < o.syms.length) (hb : Below w.heap.size w w2) (hbox : w2.heap[w.heap.size]? = some (.cells oc 60 (0, 0))) (hr : RowsBlk w2 (w.heap.size + 1 + 1) c2 d2)
    (hown : w3.ownsMap Try.prog 9 (plainElem (H := Unit) Try.prog 4) (w.heap.size + 1) (k + 1) ((seen (names (o.syms.take k))).put (.string o.syms[k].name.data.toList) (.lit (.bool true)))) (hg : w2.grownBy w3 (some (w.heap.size + 1)))
    (hgo : symsGo [] 0 0 (o.syms.take k) = some (c, d)) (hs : symOk (names (o.syms.take k)) c d o.syms[k] = some (c2, d2)) (hsum : 0 ≤ c ∧ c ≤ 16000 * k ∧ 0 ≤ d ∧ d ≤ 16000 * k) : MayMid w w3 oc o (k + 1) c2 d2 := by
  have hl := lt_of_block hr
  refine ⟨hb.grown hg (by omega) (fun k hk => by injection hk with hk; omega), (hg.block _ (by omega) (by simp)).trans hbox, ?_, (hg.block _ hl (by simp)).trans hr, symsGo_next hk hgo hs, ?_⟩
  · rw [names_next hk, seen_snoc]
    exact hown
  · have := take_le (symOk_take hs)
    omega
theorem MayMid.start (w : World) (oc : Array Value) (o : Ob.Obj) : MayMid w (((w.alloc (.cells oc 60)).alloc (.map #[] 0)).alloc (.cells #[.int .i64 0, .int .i64 0] 117)) oc o 0 0 0 := by
  have h1 : (w.alloc (.cells oc 60)).heap.size = w.heap.size + 1 := by simp
  have h2 : ((w.alloc (.cells oc 60)).alloc (.map #[] 0)).heap.size = w.heap.size + 1 + 1 := by simp
  refine ⟨(((Below.refl _ _).alloc (Nat.le_refl _) _).alloc (by simp) _).alloc (by simp; omega) _, ?_, ?_, ?_, rfl, by omega⟩
  · exact (Below.heap_alloc _ _ _ (by rw [h2]; omega)).trans ((Below.heap_alloc _ _ _ (by rw [h1]; omega)).trans (heap_alloc_new w _))
  · have h := World.ownsMap_made (H := Unit) (w.alloc (.cells oc 60)) Try.prog 9 (plainElem Try.prog 4)
    rw [h1] at h
    exact h.alloc _
  · have h := heap_alloc_new ((w.alloc (.cells oc 60)).alloc (.map #[] 0)) (.cells #[.int .i64 0, .int .i64 0] 117)
    rw [h2] at h
    exact h

/-- behind k relocations -/
structure RelMid (w wr : World) (oc : Array Value) (o : Ob.Obj) (k : Nat) (last : Int) : Prop where
  below : Below w.heap.size w wr
  box : wr.heap[w.heap.size]? = some (.cells oc 60 (0, 0))
  go : relsGo o.code o.syms.length (-1) (o.rels.take k) = true
  lasts : last = lastOf (o.rels.take k)
  ge : -1 ≤ last
theorem RelMid.go_on {w wr w2 : World} {oc : Array Value} {o : Ob.Obj} {k : Nat} {last : Int} (h : RelMid w wr oc o k last) (hb : Below wr.heap.size wr w2) : RelMid w w2 oc o k last :=
  ⟨h.below.trans (hb.mono h.below.size), (hb.block _ (lt_of_block h.box)).trans h.box, h.go, h.lasts, h.ge⟩

section
variable (o : Ob.Obj) (pc pd ps pr : Option Addr) (n kn d kd m km r kr : Nat) (mx : Int) (w : World)
set_option maxRecDepth 100000 in
set_option maxHeartbeats 2000000 in
/-- too many of one kind -/
theorem omay_many (ho : ObjAt w pc pd ps pr n d m r o) (hf : ¬ few o) :
    Calls Try.prog 25 #[objV pc pd ps pr n kn d kd m km r kr] w fun e w' => e = .returned (.bool false) ∧ Below w.heap.size w w' := by
  have hn := ho.nl
  have hd := ho.dl
  have hm := ho.ml
  have hr := ho.rl
  have nb := ho.nb
  have db := ho.db
  have mb := ho.mb
  have rb := ho.rb
  have hx : 6000 < n ∨ 16000 < d ∨ 400 < m ∨ 6000 < r := by
    unfold few at hf
    omega
  clear ho hf hn hd hm hr
  unfold objV
  by_cases h1 : 6000 < n
  · clear hx
    go_enter Try.func25, Try.ntmps25
    go_wp2_with fail
    go_ret
    exact ⟨rfl, (Below.refl _ _).alloc (Nat.le_refl _) _⟩
  have d1 : decide (6000 < (n : Int)) = false := decide_eq_false (by omega)
  by_cases h2 : 16000 < d
  · clear hx h1
    go_enter Try.func25, Try.ntmps25
    go_wp2_with fail
    go_ret
    exact ⟨rfl, (Below.refl _ _).alloc (Nat.le_refl _) _⟩
  have d2 : decide (16000 < (d : Int)) = false := decide_eq_false (by omega)
  by_cases h3 : 400 < m
  · clear hx h1 h2
    go_enter Try.func25, Try.ntmps25
    go_wp2_with fail
    go_ret
    exact ⟨rfl, (Below.refl _ _).alloc (Nat.le_refl _) _⟩
  have d3 : decide (400 < (m : Int)) = false := decide_eq_false (by omega)
  have h4 : 6000 < r := by omega
  clear hx h1 h2 h3
  go_enter Try.func25, Try.ntmps25
  go_wp2_with fail
  go_ret
  exact ⟨rfl, (Below.refl _ _).alloc (Nat.le_refl _) _⟩

set_option maxRecDepth 100000 in
set_option maxHeartbeats 2000000 in
theorem omay_few (ho : ObjAt w pc pd ps pr n d m r o) (hf : few o) (hmx : w.cell? ⟨0, 0, none⟩ = some (.int .i64 mx)) :
    Calls Try.prog 25 #[objV pc pd ps pr n kn d kd m km r kr] w fun e w' => e = .returned (.bool (mayB o)) ∧ Below w.heap.size w w' := by
  obtain ⟨t, ht⟩ : ∃ t, mayB o = t := ⟨_, rfl⟩
  rw [ht]
  have HT := Lib.hid ht
  have HO := Lib.hid ho
  have HF := Lib.hid hf
  have HMX := Lib.hid hmx
  have b1 : n ≤ 6000 := by have := ho.nl; unfold few at hf; omega
  have b2 : d ≤ 16000 := by have := ho.dl; unfold few at hf; omega
  have b3 : m ≤ 400 := by have := ho.ml; unfold few at hf; omega
  have b4 : r ≤ 6000 := by have := ho.rl; unfold few at hf; omega
  have d1 : decide (6000 < (n : Int)) = false := decide_eq_false (by omega)
  have d2 : decide (16000 < (d : Int)) = false := decide_eq_false (by omega)
  have d3 : decide (400 < (m : Int)) = false := decide_eq_false (by omega)
  have d4 : decide (6000 < (r : Int)) = false := decide_eq_false (by omega)
  have hmm := @run_makeMap Try.prog
  clear ht ho hf hmx
  unfold objV
  go_enter Try.func25, Try.ntmps25
  go_wp2_with fail
  clear d1 d2 d3 d4
  obtain ⟨w0, hw0⟩ : ∃ w0, w0 = (((w.alloc (.cells #[.slice pc n kn, .slice pd d kd, .slice ps m km, .slice pr r kr] 60)).alloc (.map #[] 0)).alloc (.cells #[.int .i64 0, .int .i64 0] 117)) := ⟨_, rfl⟩
  have HM0 : Hid (MayMid w w0 #[.slice pc n kn, .slice pd d kd, .slice ps m km, .slice pr r kr] o 0 0 0) := by
    show MayMid _ _ _ _ _ _ _
    rw [hw0]
    exact MayMid.start w _ o
  rw [← hw0]
  clear hw0 hmm
  go_loopg [38] m (fun gk i wr => ∃ (k : Nat) (c d' : Int), k ≤ m ∧ gk = m - k ∧ i = .int .i64 k ∧ MayMid w wr #[.slice pc n kn, .slice pd d kd, .slice ps m km, .slice pr r kr] o k c d')
  case atStart => exact ⟨0, 0, 0, by omega, rfl, rfl, HM0.out⟩
  case round =>
    obtain ⟨k, c, e', hk, hgk, rfl, hmid⟩ := hrel
    have HG := Lib.hid hgk
    have hl0 := hmid.lt
    have HMID := Lib.hid hmid
    clear hgk hmid HM0
    by_cases hlt : k < m
    · obtain ⟨c0, co, rfl, hc0, hk', hrange⟩ := (HO.out.below HMID.out.below).sym hlt
      obtain ⟨s, hs⟩ : ∃ s, s = o.syms[k] := ⟨_, rfl⟩
      rw [← hs] at hrange
      have hin : SymIn s := by rw [hs]; exact HO.out.symIn _ (List.getElem_mem hk')
      have HRG := Lib.hid hrange
      have HSI := Lib.hid hin
      have HS := Lib.hid hs
      clear hrange hs hin
      have hst : ∀ w : World, (storeCells ⟨w.heap.size, 0, none⟩ [.string s.name, .int .i64 s.kind, .bool s.static, .int .i64 s.pos, .int .i64 s.size, .string s.sign, .int .i64 s.frame] 0).run Try.prog (w.alloc (.cells #[.string ⟨#[]⟩, .int .i64 0, .bool false, .int .i64 0, .int .i64 0, .string ⟨#[]⟩, .int .i64 0] 106)) = .ok () (w.alloc (.cells #[.string s.name, .int .i64 s.kind, .bool s.static, .int .i64 s.pos, .int .i64 s.size, .string s.sign, .int .i64 s.frame] 106)) :=
        fun w => run_storeCells_new (P := Try.prog) w 106 #[.string ⟨#[]⟩, .int .i64 0, .bool false, .int .i64 0, .int .i64 0, .string ⟨#[]⟩, .int .i64 0] #[.string s.name, .int .i64 s.kind, .bool s.static, .int .i64 s.pos, .int .i64 s.size, .string s.sign, .int .i64 s.frame] (by kernel_rfl) rfl (by kernel_rfl)
      go_wp2_with (refine wpList_load_mid (by rfl) 106 (.tmp 40) (by rfl) c0 (co + k * 7) (by rfl) [.string s.name, .int .i64 s.kind, .bool s.static, .int .i64 s.pos, .int .i64 s.size, .string s.sign, .int .i64 s.frame] _ HRG.out Try.underlying106 (by rfl) (by kernel_rfl) ?_)
      obtain ⟨w1, hw1⟩ : ∃ w1, w1 = wr.alloc (.cells #[.string s.name, .int .i64 s.kind, .bool s.static, .int .i64 s.pos, .int .i64 s.size, .string s.sign, .int .i64 s.frame] 106) := ⟨_, rfl⟩
      have hmid1 : MayMid w w1 #[.slice pc n kn, .slice pd d kd, .slice (some ⟨c0, co, none⟩) m km, .slice pr r kr] o k c e' := by rw [hw1]; exact HMID.out.alloc _
      have hblk : w1.heap[wr.heap.size]? = some (.cells #[.string s.name, .int .i64 s.kind, .bool s.static, .int .i64 s.pos, .int .i64 s.size, .string s.sign, .int .i64 s.frame] 106 (0, 0)) := by rw [hw1]; exact heap_alloc_new wr _
      have hcell : w1.cell? ⟨0, 0, none⟩ = some (.int .i64 mx) := (hmid1.below.cell (p := ⟨0, 0, none⟩) (lt_of_cell HMX.out)).trans HMX.out
      rw [← hw1]
      clear hw1 hst
      obtain ⟨b6, hb6⟩ : ∃ b6, b6 = wr.heap.size := ⟨_, rfl⟩
      have hb6l : w.heap.size + 1 + 1 < b6 := by omega
      rw [← hb6] at hblk ⊢
      clear hb6 hl0 HMID
      have c6 := cell_of_row w1 b6 0 _ _ _ hblk
      have c61 := cell_of_row w1 b6 1 _ _ _ hblk
      have c62 := cell_of_row w1 b6 2 _ _ _ hblk
      have c63 := cell_of_row w1 b6 3 _ _ _ hblk
      have c64 := cell_of_row w1 b6 4 _ _ _ hblk
      have c65 := cell_of_row w1 b6 5 _ _ _ hblk
      have c66 := cell_of_row w1 b6 6 _ _ _ hblk
      simp only [List.getElem?_toArray, List.getElem?_cons_zero, List.getElem?_cons_succ] at c6 c61 c62 c63 c64 c65 c66
      obtain ⟨sn, hsn⟩ : ∃ sn, (names (o.syms.take k)).contains s.name.data.toList = sn := ⟨_, rfl⟩
      have hlook := names_look hmid1.set s.name HSI.out.name
      rw [hsn] at hlook
      have HMID1 := Lib.hid hmid1
      have HBLK := Lib.hid hblk
      have HSN := Lib.hid hsn
      have HCELL := Lib.hid hcell
      clear hmid1 hblk hsn hcell
      refine (isName_any s.name mx w1 HSI.out.name HCELL.out).mono ?_
      rintro e w' ⟨rfl, rfl⟩
      by_cases hnm : nameB s.name.data.toList = true
      · cases sn
        · by_cases hsg : signB s.sign.data.toList = true
          · have HTK : Hid (symOk (names (o.syms.take k)) c e' o.syms[k] = take c e' s) := by
              show _ = _
              rw [← HS.out]
              unfold symOk
              rw [hnm, HSN.out, hsg]
              rfl
            have htake := take_any (w.heap.size + 1 + 1) c e' s w1 HMID1.out.rows (by have := HMID1.out.sums; omega) (by have := HMID1.out.sums; omega)
            unfold symV at htake
            have HTAKE := Lib.hid htake
            clear htake
            go_wp2_with fail
            refine (plain_any s.sign w1 HSI.out.sign).mono ?_
            rintro e w' ⟨rfl, rfl⟩
            go_wp2_with fail
            refine HTAKE.out.mono ?_
            rintro e w2 ⟨rfl, hg, hres⟩
            have hb2 := (HMID1.out.grown (c2 := 0) (d2 := 0) hg).1
            have hbox2 := (HMID1.out.grown (c2 := 0) (d2 := 0) hg).2.1
            have hset2 := (HMID1.out.grown (c2 := 0) (d2 := 0) hg).2.2
            have e6 : w2.cell? ⟨b6, 0, none⟩ = some (.string s.name) := hg.cell c6 (by simp; omega)
            have HG2 := Lib.hid hg
            have HB2 := Lib.hid hb2
            have HBOX2 := Lib.hid hbox2
            have HSET2 := Lib.hid hset2
            clear hg hb2 hbox2 hset2 c6 c61 c62 c63 c64 c65 c66 hlook HTAKE
            rcases htk : take c e' s with _ | ⟨c2, d2⟩
            · obtain rfl : t = false := by
                rw [← HT.out]
                exact mayB_sym hk' HMID1.out.go (HTK.out.trans htk)
              clear htk hres
              go_wp2_with fail
              go_ret
              exact ⟨rfl, HB2.out⟩
            · have hr2 := hres c2 d2 htk
              have HR2 := Lib.hid hr2
              have HTK2 := Lib.hid (HTK.out.trans htk)
              clear hres hr2 htk HTK
              go_wp2_with (at_mapUpdate; refine wpList_mapUpdate_own (H := Unit) _ rfl _ _ _ 114 rfl 9 4 (Maps.string_keyed Try.underlying9) Try.underlying114 _ (w.heap.size + 1) k _ rfl HSET2.out (by unfold maxLen; omega) _ _ (.string s.name.data.toList) rfl rfl (WideMaps.keyOf_string_mk Try.underlying9 (by have := HSI.out.name; unfold maxLen; omega)) (.lit (.bool true)) [] (plainElem_bool Try.underlying4 true) ?_; intro w3 hown3 hgrow3)
              have hown4 := hown3
              rw [HS.out] at hown4
              have hnext := MayMid.next hk' HB2.out HBOX2.out HR2.out hown4 hgrow3 HMID1.out.go HTK2.out HMID1.out.sums
              go_roundg (m - (k + 1))
              case measure => have := HG.out; omega
              case rel => exact ⟨k + 1, c2, d2, hlt, rfl, by go_num, hnext⟩
          · have hsg' : signB s.sign.data.toList = false := by simpa using hsg
            obtain rfl : t = false := by
              rw [← HT.out]
              refine mayB_sym hk' HMID1.out.go ?_
              rw [← HS.out]
              unfold symOk
              rw [hsg', Bool.and_false]
              rfl
            clear hsg
            go_wp2_with fail
            refine (plain_any s.sign w1 HSI.out.sign).mono ?_
            rintro e w' ⟨rfl, rfl⟩
            go_wp2_with fail
            go_ret
            exact ⟨rfl, HMID1.out.below⟩
        · obtain rfl : t = false := by
            rw [← HT.out]
            refine mayB_sym hk' HMID1.out.go ?_
            rw [← HS.out]
            unfold symOk
            rw [HSN.out, Bool.not_true, Bool.and_false]
            rfl
          go_wp2_with fail
          go_ret
          exact ⟨rfl, HMID1.out.below⟩
      · have hnm' : nameB s.name.data.toList = false := by simpa using hnm
        obtain rfl : t = false := by
          rw [← HT.out]
          refine mayB_sym hk' HMID1.out.go ?_
          rw [← HS.out]
          unfold symOk
          rw [hnm']
          rfl
        clear hnm
        go_wp2_with fail
        go_ret
        exact ⟨rfl, HMID1.out.below⟩
    · obtain rfl : k = m := by omega
      obtain ⟨y0, y1, y2, y3, yz⟩ := blk4 HMID.out.box
      obtain ⟨z0, z1, zz⟩ := blk2 HMID.out.rows
      have hall : symsGo [] 0 0 o.syms = some (c, e') := by
        have := HMID.out.go
        rwa [List.take_of_length_le (by rw [HO.out.ml]; omega)] at this
      have hbw := HMID.out.below
      have hbox := HMID.out.box
      have HALL := Lib.hid hall
      have HBW := Lib.hid hbw
      have HBOX := Lib.hid hbox
      clear hall hbw hbox HMID HG
      by_cases hcn : c = n
      · by_cases hed : e' = d
        · have HALL2 : Hid (symsGo [] 0 0 o.syms = some ((o.code.length : Int), (o.data.length : Int))) := by
            show symsGo [] 0 0 o.syms = _
            rw [HALL.out, hcn, hed, HO.out.nl, HO.out.dl]
          have q1 : (c != (n : Int)) = false := by simpa using hcn
          have q2 : (e' != (d : Int)) = false := by simpa using hed
          clear hcn hed HALL
          go_wp2_with fail
          go_quiet (fail)
          go_wp2_with fail
          have hm0 : RelMid w (wr.drewN nq) #[.slice pc n kn, .slice pd d kd, .slice ps k km, .slice pr r kr] o 0 (-1) := ⟨⟨HBW.out.os, HBW.out.tape, HBW.out.output, HBW.out.size, HBW.out.block⟩, HBOX.out, rfl, rfl, by omega⟩
          have HM0 := Lib.hid hm0
          clear hm0 q1 q2 y0 y1 y2 y3 yz z0 z1 zz
          obtain ⟨wq, hwq⟩ : ∃ wq, wq = wr.drewN nq := ⟨_, rfl⟩
          rw [← hwq] at HM0 ⊢
          clear hwq HBW HBOX
          go_loopg [89, 7] r (fun gk i la wx => ∃ (j : Nat) (last : Int), j ≤ r ∧ gk = r - j ∧ i = .int .i64 j ∧ la = .int .i64 last ∧ RelMid w wx #[.slice pc n kn, .slice pd d kd, .slice ps k km, .slice pr r kr] o j last)
          case atStart => exact ⟨0, -1, by omega, rfl, rfl, rfl, HM0.out⟩
          case round =>
            obtain ⟨j, last, hj, hgj, rfl, rfl, hmid⟩ := hrel
            have HG := Lib.hid hgj
            have HMID := Lib.hid hmid
            have hlast := hmid.ge
            clear hgj hmid HM0
            by_cases hjr : j < r
            · obtain ⟨c1, co1, rfl, hc1, hj', hrange⟩ := (HO.out.below HMID.out.below).rel hjr
              obtain ⟨x, hx⟩ : ∃ x, x = o.rels[j] := ⟨_, rfl⟩
              rw [← hx] at hrange
              have hin : RelIn x := by rw [hx]; exact HO.out.relIn _ (List.getElem_mem hj')
              obtain ⟨pos, sym, add⟩ := x
              obtain ⟨⟨i1, i2⟩, ⟨i3, i4⟩, ⟨i5, i6⟩⟩ := hin
              simp only at i1 i2 i3 i4 i5 i6
              have HRG := Lib.hid hrange
              have HX := Lib.hid hx
              clear hrange hx
              have HNO : Hid (relOk o.code o.syms.length last ⟨pos, sym, add⟩ = false → t = false) := by
                intro hno
                rw [← HT.out]
                refine mayB_rel hj' ?_
                rw [← HX.out, ← HMID.out.lasts]
                exact hno
              have HR : Hid (relOk o.code o.syms.length last ⟨pos, sym, add⟩ = (decide (last < pos) && decide (pos < n) && speaksB (o.code.getD pos.toNat 0) && decide (0 ≤ sym) && decide (sym < k) && decide (0 ≤ add) && decide (add ≤ 6000))) := by
                show relOk _ _ _ _ = _
                unfold relOk
                rw [HO.out.nl, HO.out.ml]
              have hst : ∀ w : World, (storeCells ⟨w.heap.size, 0, none⟩ [.int .i64 pos, .int .i64 sym, .int .i64 add] 0).run Try.prog (w.alloc (.cells #[.int .i64 0, .int .i64 0, .int .i64 0] 110)) = .ok () (w.alloc (.cells #[.int .i64 pos, .int .i64 sym, .int .i64 add] 110)) :=
                fun w => run_storeCells_new (P := Try.prog) w 110 #[.int .i64 0, .int .i64 0, .int .i64 0] #[.int .i64 pos, .int .i64 sym, .int .i64 add] (by kernel_rfl) rfl (by kernel_rfl)
              have hl0 := lt_of_block HMID.out.box
              go_upto_region 18 with (refine wpList_load_mid (by rfl) 110 (.tmp 91) (by rfl) c1 (co1 + j * 3) (by rfl) [.int .i64 pos, .int .i64 sym, .int .i64 add] _ HRG.out Try.underlying110 (by rfl) (by kernel_rfl) ?_)
              obtain ⟨w1, hw1⟩ : ∃ w1, w1 = wr.alloc (.cells #[.int .i64 pos, .int .i64 sym, .int .i64 add] 110) := ⟨_, rfl⟩
              have hmid1 := HMID.out.go_on (w2 := w1) (by rw [hw1]; exact (Below.refl _ _).alloc (Nat.le_refl _) _)
              have hblk : w1.heap[wr.heap.size]? = some (.cells #[.int .i64 pos, .int .i64 sym, .int .i64 add] 110 (0, 0)) := by rw [hw1]; exact heap_alloc_new wr _
              rw [← hw1]
              clear hw1 hst
              obtain ⟨b9, hb9⟩ : ∃ b9, b9 = wr.heap.size := ⟨_, rfl⟩
              rw [← hb9] at hblk ⊢
              clear hb9 hl0
              obtain ⟨y0, y1, y2, y3, yz⟩ := blk4 hmid1.box
              have c9 := cell_of_row w1 b9 0 _ _ _ hblk
              have c91 := cell_of_row w1 b9 1 _ _ _ hblk
              have c92 := cell_of_row w1 b9 2 _ _ _ hblk
              simp only [List.getElem?_toArray, List.getElem?_cons_zero, List.getElem?_cons_succ] at c9 c91 c92
              have HMID1 := Lib.hid hmid1
              have HBLK := Lib.hid hblk
              clear hmid1 hblk HMID HRG
              by_cases p1 : pos ≤ last
              · obtain rfl : t = false := HNO.out (by rw [HR.out, decide_eq_false (by omega)]; rfl)
                have q1 : decide (pos ≤ last) = true := decide_eq_true p1
                go_wp2_with fail
                go_ret
                exact ⟨rfl, HMID1.out.below⟩
              have q1 : decide (pos ≤ last) = false := decide_eq_false p1
              by_cases p2 : (n : Int) ≤ pos
              · obtain rfl : t = false := HNO.out (by rw [HR.out, decide_eq_false (p := pos < (n : Int)) (by omega)]; simp)
                have q2 : decide ((n : Int) ≤ pos) = true := decide_eq_true p2
                go_wp2_with fail
                go_ret
                exact ⟨rfl, HMID1.out.below⟩
              have q2 : decide ((n : Int) ≤ pos) = false := decide_eq_false p2
              obtain ⟨q, rfl⟩ := Int.eq_ofNat_of_zero_le (show 0 ≤ pos by omega)
              have hqn : q < n := by omega
              have hqi : (q : Int) < n := by omega
              obtain ⟨cc, cco, rfl, hcc, hword⟩ := (HO.out.below HMID1.out.below).word hqn
              obtain ⟨v, hv⟩ : ∃ v, v = o.code.getD q 0 := ⟨_, rfl⟩
              have hv0 : 0 ≤ v ∧ v ≤ 4294967295 := by rw [hv]; exact HO.out.u32 q
              rw [← hv] at hword
              have HV := Lib.hid hv
              clear hv
              have p1' : last < (q : Int) := by omega
              go_wp2_with fail
              refine (speaks_any v w1 hv0.1 hv0.2).mono ?_
              rintro e w2 ⟨rfl, hb⟩
              have hmid2 := HMID1.out.go_on hb
              have hblk2 := (hb.block _ (lt_of_block HBLK.out)).trans HBLK.out
              clear y0 y1 y2 y3 yz c9 c91 c92 hword
              obtain ⟨y0, y1, y2, y3, yz⟩ := blk4 hmid2.box
              have c9 := cell_of_row w2 b9 0 _ _ _ hblk2
              have c91 := cell_of_row w2 b9 1 _ _ _ hblk2
              have c92 := cell_of_row w2 b9 2 _ _ _ hblk2
              simp only [List.getElem?_toArray, List.getElem?_cons_zero, List.getElem?_cons_succ] at c9 c91 c92
              have HMID2 := Lib.hid hmid2
              clear hb hmid2 hblk2 HMID1 HBLK
              by_cases p3 : speaksB v = true
              · by_cases p4 : sym < 0
                · obtain rfl : t = false := HNO.out (by rw [HR.out, decide_eq_false (p := 0 ≤ sym) (by omega)]; simp)
                  have q4 : decide (sym < 0) = true := decide_eq_true p4
                  go_wp2_with fail
                  go_ret
                  exact ⟨rfl, HMID2.out.below⟩
                have q4 : decide (sym < 0) = false := decide_eq_false p4
                by_cases p5 : (k : Int) ≤ sym
                · obtain rfl : t = false := HNO.out (by rw [HR.out, decide_eq_false (p := sym < (k : Int)) (by omega)]; simp)
                  have q5 : decide ((k : Int) ≤ sym) = true := decide_eq_true p5
                  go_wp2_with fail
                  go_ret
                  exact ⟨rfl, HMID2.out.below⟩
                have q5 : decide ((k : Int) ≤ sym) = false := decide_eq_false p5
                by_cases p6 : add < 0
                · obtain rfl : t = false := HNO.out (by rw [HR.out, decide_eq_false (p := 0 ≤ add) (by omega)]; simp)
                  have q6 : decide (add < 0) = true := decide_eq_true p6
                  go_wp2_with fail
                  go_ret
                  exact ⟨rfl, HMID2.out.below⟩
                have q6 : decide (add < 0) = false := decide_eq_false p6
                by_cases p7 : 6000 < add
                · obtain rfl : t = false := HNO.out (by rw [HR.out, decide_eq_false (p := add ≤ 6000) (by omega)]; simp)
                  have q7 : decide (6000 < add) = true := decide_eq_true p7
                  go_wp2_with fail
                  go_ret
                  exact ⟨rfl, HMID2.out.below⟩
                have q7 : decide (6000 < add) = false := decide_eq_false p7
                have HOK : Hid (relOk o.code o.syms.length last ⟨q, sym, add⟩ = true) := by
                  show relOk _ _ _ _ = true
                  rw [HR.out, Int.toNat_natCast, ← HV.out, p3, decide_eq_true (p := last < (q : Int)) (by omega), decide_eq_true (p := (q : Int) < (n : Int)) (by omega), decide_eq_true (p := 0 ≤ sym) (by omega), decide_eq_true (p := sym < (k : Int)) (by omega), decide_eq_true (p := 0 ≤ add) (by omega), decide_eq_true (p := add ≤ 6000) (by omega)]
                  rfl
                clear p1 p2 p4 p5 p6 p7
                go_wp2_with fail
                go_roundg (r - (j + 1))
                case measure => have := HG.out; omega
                case rel => exact ⟨j + 1, q, hjr, rfl, by go_num, rfl, ⟨HMID2.out.below, HMID2.out.box, relsGo_next hj' HMID2.out.go (by have h := HOK.out; rw [HMID2.out.lasts, HX.out] at h; exact h), by rw [lastOf_next hj', ← HX.out], by omega⟩⟩
              · have p3' : speaksB v = false := by simpa using p3
                obtain rfl : t = false := HNO.out (by rw [HR.out, Int.toNat_natCast, ← HV.out, p3']; simp)
                clear p3
                go_wp2_with fail
                go_ret
                exact ⟨rfl, HMID2.out.below⟩
            · obtain rfl : j = r := by omega
              obtain rfl : t = true := by
                rw [← HT.out]
                refine mayB_yes HF.out HALL2.out ?_
                have := HMID.out.go
                rwa [List.take_of_length_le (by rw [HO.out.rl]; omega)] at this
              go_wp2_with fail
              go_ret
              exact ⟨rfl, HMID.out.below⟩
        · obtain rfl : t = false := by
            rw [← HT.out]
            exact mayB_sums HALL.out (by rw [HO.out.nl, HO.out.dl]; omega)
          have q1 : (c != (n : Int)) = false := by simpa using hcn
          have q2 : (e' != (d : Int)) = true := bne_iff_ne.2 hed
          clear hcn hed
          go_wp2_with fail
          go_quiet (fail)
          go_wp2_with fail
          go_ret
          exact ⟨rfl, ⟨HBW.out.os, HBW.out.tape, HBW.out.output, HBW.out.size, HBW.out.block⟩⟩
      · obtain rfl : t = false := by
          rw [← HT.out]
          exact mayB_sums HALL.out (by rw [HO.out.nl, HO.out.dl]; omega)
        have q1 : (c != (n : Int)) = true := bne_iff_ne.2 hcn
        clear hcn
        go_wp2_with fail
        go_quiet (fail)
        go_wp2_with fail
        go_ret
        exact ⟨rfl, ⟨HBW.out.os, HBW.out.tape, HBW.out.output, HBW.out.size, HBW.out.block⟩⟩
end

end Go.Proofs.Ythnehhidlaggeaa
