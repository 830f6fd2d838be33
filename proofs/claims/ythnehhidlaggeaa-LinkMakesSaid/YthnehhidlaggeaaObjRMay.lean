/- scarfjointref17.May: the walk. -/
import Derived.Test.YthnehhidlaggeaaObjMay
import Derived.Test.YthnehhidlaggeaaNames3
import Derived.Test.YthnehhidlaggeaaRdec
import Derived.IntWalk
namespace Go.Proofs.Ythnehhidlaggeaa
set_option linter.unusedVariables false
set_option linter.unusedSimpArgs false
open Go.RowKit Ob

theorem take_out_no {c d : Int} {s : Sym} (h : s.kind = 3 ∨ s.kind = 4) (hn : ¬ (s.pos = 0 ∧ s.size = 0 ∧ s.frame = 0 ∧ s.static = false)) : take c d s = none := by
  unfold take; rw [if_pos h, if_neg hn]
theorem take_out_yes {c d : Int} {s : Sym} (h : s.kind = 3 ∨ s.kind = 4) (hn : s.pos = 0 ∧ s.size = 0 ∧ s.frame = 0 ∧ s.static = false) : take c d s = some (c, d) := by
  unfold take; rw [if_pos h, if_pos hn]
theorem take_size_no {c d : Int} {s : Sym} (h : ¬ (s.kind = 3 ∨ s.kind = 4)) (hn : s.size < 1 ∨ 16000 < s.size) : take c d s = none := by
  unfold take; rw [if_neg h, if_pos hn]
theorem take_1_no {c d : Int} {s : Sym} (h : s.kind = 1) (hs : ¬ (s.size < 1 ∨ 16000 < s.size)) (hn : ¬ (s.pos = c ∧ 0 ≤ s.frame ∧ s.frame ≤ 16000)) : take c d s = none := by
  unfold take; rw [if_neg (by omega), if_neg hs, if_pos h, if_neg hn]
theorem take_1_yes {c d : Int} {s : Sym} (h : s.kind = 1) (hs : ¬ (s.size < 1 ∨ 16000 < s.size)) (hn : s.pos = c ∧ 0 ≤ s.frame ∧ s.frame ≤ 16000) : take c d s = some (c + s.size, d) := by
  unfold take; rw [if_neg (by omega), if_neg hs, if_pos h, if_pos hn]
theorem take_2_no {c d : Int} {s : Sym} (h : ¬ (s.kind = 3 ∨ s.kind = 4)) (hs : ¬ (s.size < 1 ∨ 16000 < s.size)) (h1 : s.kind ≠ 1) (hn : ¬ (s.kind = 2 ∧ s.pos = d ∧ s.frame = 0)) : take c d s = none := by
  unfold take
  rw [if_neg h, if_neg hs, if_neg h1]
  by_cases h2 : s.kind = 2
  · rw [if_pos h2, if_neg (fun e => hn ⟨h2, e.1, e.2⟩)]
  · rw [if_neg h2]
theorem take_2_yes {c d : Int} {s : Sym} (hs : ¬ (s.size < 1 ∨ 16000 < s.size)) (hn : s.kind = 2 ∧ s.pos = d ∧ s.frame = 0) : take c d s = some (c, d + s.size) := by
  unfold take; rw [if_neg (by omega), if_neg hs, if_neg (by omega), if_pos hn.1, if_pos hn.2]

/-- behind k symbols -/
structure RSymMid (w wr : World) (oc : Array Value) (o : Ob.Obj) (k : Nat) (c d : Int) : Prop where
  below : Below w.heap.size w wr
  box : wr.heap[w.heap.size]? = some (.cells oc 60 (0, 0))
  go : symsGo [] 0 0 (o.syms.take k) = some (c, d)
  sums : 0 ≤ c ∧ c ≤ 16000 * k ∧ 0 ≤ d ∧ d ≤ 16000 * k
theorem RSymMid.go_on {w wr w2 : World} {oc : Array Value} {o : Ob.Obj} {k : Nat} {c d : Int} (h : RSymMid w wr oc o k c d) (hb : Below wr.heap.size wr w2) : RSymMid w w2 oc o k c d :=
  ⟨h.below.trans (hb.mono h.below.size), (hb.block _ (lt_of_block h.box)).trans h.box, h.go, h.sums⟩
theorem RSymMid.next {w wr : World} {oc : Array Value} {o : Ob.Obj} {k : Nat} {c d c2 d2 : Int} (h : RSymMid w wr oc o k c d) (hk : k < o.syms.length) (hs : symOk (names (o.syms.take k)) c d o.syms[k] = some (c2, d2)) : RSymMid w wr oc o (k + 1) c2 d2 :=
  ⟨h.below, h.box, symsGo_next hk h.go hs, by have := take_le (symOk_take hs); have := h.sums; omega⟩
theorem dec_told (v : Int) : ∃ d0 d1 d2 d3 d4 is, Cp.decV (Cp.dec v) = .agg #[.int .i64 d0, .int .i64 d1, .int .i64 d2, .int .i64 d3, .int .i64 d4] ∧ (Cp.dec v).isSome = is ∧ speaksB v = (is && (d0 == 2 || d0 == 19 || d0 == 20 || d0 == 21) && (d4 == 0)) := by
  unfold speaksB
  rcases Cp.dec v with _ | ⟨op, a, b, c, i⟩
  · exact ⟨0, 0, 0, 0, 0, false, rfl, rfl, rfl⟩
  · exact ⟨op, a, b, c, i, true, rfl, rfl, by simp⟩
theorem drewN_below (w : World) (n : Nat) : Below w.heap.size w (w.drewN n) := ⟨rfl, rfl, rfl, Nat.le_refl _, fun _ _ => rfl⟩

section
variable (o : Ob.Obj) (pc pd ps pr : Option Addr) (n kn d kd m km r kr : Nat) (w : World)
set_option maxRecDepth 100000 in
set_option maxHeartbeats 2000000 in
/-- too many of one kind -/
theorem rmayo_many (ho : ObjAt w pc pd ps pr n d m r o) (hf : ¬ few o) :
    Calls Try.prog 26 #[objV pc pd ps pr n kn d kd m km r kr] w fun e w' => e = .returned (.bool false) ∧ Below w.heap.size w w' := by
  have hn := ho.nl
  have hd := ho.dl
  have hm := ho.ml
  have hr := ho.rl
  have nb := ho.nb
  have db := ho.db
  have mb := ho.mb
  have rb := ho.rb
  have hx : 6000 < n ∨ 16000 < d ∨ 400 < m ∨ 6000 < r := by
    unfold few at hf
    omega
  clear ho hf hn hd hm hr
  unfold objV
  by_cases h1 : 6000 < n
  · clear hx
    go_enter Try.func26, Try.ntmps26
    go_wp2_with fail
    go_ret
    exact ⟨rfl, (Below.refl _ _).alloc (Nat.le_refl _) _⟩
  have d1 : decide (6000 < (n : Int)) = false := decide_eq_false (by omega)
  by_cases h2 : 16000 < d
  · clear hx h1
    go_enter Try.func26, Try.ntmps26
    go_wp2_with fail
    go_ret
    exact ⟨rfl, (Below.refl _ _).alloc (Nat.le_refl _) _⟩
  have d2 : decide (16000 < (d : Int)) = false := decide_eq_false (by omega)
  by_cases h3 : 400 < m
  · clear hx h1 h2
    go_enter Try.func26, Try.ntmps26
    go_wp2_with fail
    go_ret
    exact ⟨rfl, (Below.refl _ _).alloc (Nat.le_refl _) _⟩
  have d3 : decide (400 < (m : Int)) = false := decide_eq_false (by omega)
  have h4 : 6000 < r := by omega
  clear hx h1 h2 h3
  go_enter Try.func26, Try.ntmps26
  go_wp2_with fail
  go_ret
  exact ⟨rfl, (Below.refl _ _).alloc (Nat.le_refl _) _⟩

set_option maxRecDepth 100000 in
set_option maxHeartbeats 8000000 in
theorem rmayo_few (ho : ObjAt w pc pd ps pr n d m r o) (hf : few o) :
    Calls Try.prog 26 #[objV pc pd ps pr n kn d kd m km r kr] w fun e w' => e = .returned (.bool (mayB o)) ∧ Below w.heap.size w w' := by
  obtain ⟨t, ht⟩ : ∃ t, mayB o = t := ⟨_, rfl⟩
  rw [ht]
  have HT := Lib.hid ht
  have HO := Lib.hid ho
  have HF := Lib.hid hf
  have b1 : n ≤ 6000 := by have := ho.nl; unfold few at hf; omega
  have b2 : d ≤ 16000 := by have := ho.dl; unfold few at hf; omega
  have b3 : m ≤ 400 := by have := ho.ml; unfold few at hf; omega
  have b4 : r ≤ 6000 := by have := ho.rl; unfold few at hf; omega
  have d1 : decide (6000 < (n : Int)) = false := decide_eq_false (by omega)
  have d2 : decide (16000 < (d : Int)) = false := decide_eq_false (by omega)
  have d3 : decide (400 < (m : Int)) = false := decide_eq_false (by omega)
  have d4 : decide (6000 < (r : Int)) = false := decide_eq_false (by omega)
  clear ht ho hf
  unfold objV
  go_enter Try.func26, Try.ntmps26
  go_wp2_with fail
  clear d1 d2 d3 d4
  obtain ⟨w0, hw0⟩ : ∃ w0, w0 = w.alloc (.cells #[.slice pc n kn, .slice pd d kd, .slice ps m km, .slice pr r kr] 60) := ⟨_, rfl⟩
  have HM0 : Hid (RSymMid w w0 #[.slice pc n kn, .slice pd d kd, .slice ps m km, .slice pr r kr] o 0 0 0) := by
    show RSymMid _ _ _ _ _ _ _
    rw [hw0]
    exact ⟨(Below.refl _ _).alloc (Nat.le_refl _) _, heap_alloc_new w _, rfl, by omega⟩
  rw [← hw0]
  clear hw0
  go_loopg [5, 3, 4] m (fun gk i cv dv wr => ∃ (k : Nat) (c d' : Int), k ≤ m ∧ gk = m - k ∧ i = .int .i64 k ∧ cv = .int .i64 c ∧ dv = .int .i64 d' ∧ RSymMid w wr #[.slice pc n kn, .slice pd d kd, .slice ps m km, .slice pr r kr] o k c d')
  case atStart => exact ⟨0, 0, 0, by omega, rfl, rfl, rfl, rfl, HM0.out⟩
  case round =>
    obtain ⟨k, c, e', hk, hgk, rfl, rfl, rfl, hmid⟩ := hrel
    have HG := Lib.hid hgk
    have hl0 := lt_of_block hmid.box
    obtain ⟨y0, y1, y2, y3, yz⟩ := blk4 hmid.box
    have HMID := Lib.hid hmid
    clear hgk hmid HM0
    by_cases hlt : k < m
    · obtain ⟨c0, co, rfl, hc0, hk', hrange⟩ := (HO.out.below HMID.out.below).sym hlt
      obtain ⟨s, hs⟩ : ∃ s, s = o.syms[k] := ⟨_, rfl⟩
      rw [← hs] at hrange
      have hin : SymIn s := by rw [hs]; exact HO.out.symIn _ (List.getElem_mem hk')
      obtain ⟨i1, i2, ⟨i3, i4⟩, ⟨i5, i6⟩, ⟨i7, i8⟩, ⟨i9, i10⟩⟩ := hin
      have HRG := Lib.hid hrange
      have HS := Lib.hid hs
      clear hrange hs
      have hst : ∀ w : World, (storeCells ⟨w.heap.size, 0, none⟩ [.string s.name, .int .i64 s.kind, .bool s.static, .int .i64 s.pos, .int .i64 s.size, .string s.sign, .int .i64 s.frame] 0).run Try.prog (w.alloc (.cells #[.string ⟨#[]⟩, .int .i64 0, .bool false, .int .i64 0, .int .i64 0, .string ⟨#[]⟩, .int .i64 0] 106)) = .ok () (w.alloc (.cells #[.string s.name, .int .i64 s.kind, .bool s.static, .int .i64 s.pos, .int .i64 s.size, .string s.sign, .int .i64 s.frame] 106)) :=
        fun w => run_storeCells_new (P := Try.prog) w 106 #[.string ⟨#[]⟩, .int .i64 0, .bool false, .int .i64 0, .int .i64 0, .string ⟨#[]⟩, .int .i64 0] #[.string s.name, .int .i64 s.kind, .bool s.static, .int .i64 s.pos, .int .i64 s.size, .string s.sign, .int .i64 s.frame] (by kernel_rfl) rfl (by kernel_rfl)
      go_wp2_with (refine wpList_load_mid (by rfl) 106 (.tmp 45) (by rfl) c0 (co + k * 7) (by rfl) [.string s.name, .int .i64 s.kind, .bool s.static, .int .i64 s.pos, .int .i64 s.size, .string s.sign, .int .i64 s.frame] _ HRG.out Try.underlying106 (by rfl) (by kernel_rfl) ?_)
      obtain ⟨w1, hw1⟩ : ∃ w1, w1 = wr.alloc (.cells #[.string s.name, .int .i64 s.kind, .bool s.static, .int .i64 s.pos, .int .i64 s.size, .string s.sign, .int .i64 s.frame] 106) := ⟨_, rfl⟩
      have hmid1 := HMID.out.go_on (w2 := w1) (by rw [hw1]; exact (Below.refl _ _).alloc (Nat.le_refl _) _)
      have hblk : w1.heap[wr.heap.size]? = some (.cells #[.string s.name, .int .i64 s.kind, .bool s.static, .int .i64 s.pos, .int .i64 s.size, .string s.sign, .int .i64 s.frame] 106 (0, 0)) := by rw [hw1]; exact heap_alloc_new wr _
      rw [← hw1]
      clear hw1 hst y0 y1 y2 y3 yz
      obtain ⟨b6, hb6⟩ : ∃ b6, b6 = wr.heap.size := ⟨_, rfl⟩
      rw [← hb6] at hblk ⊢
      clear hb6 hl0 HMID
      obtain ⟨sn, hsn⟩ : ∃ sn, (names (o.syms.take k)).contains s.name.data.toList = sn := ⟨_, rfl⟩
      have HMID1 := Lib.hid hmid1
      have HBLK := Lib.hid hblk
      have HSN := Lib.hid hsn
      clear hmid1 hblk hsn
      have HNO : Hid (symOk (names (o.syms.take k)) c e' s = none → t = false) := by
        intro hno
        rw [← HT.out]
        exact mayB_sym hk' HMID1.out.go (by rw [← HS.out]; exact hno)
      refine (rname_any s.name w1 i1).mono ?_
      rintro e w2 ⟨rfl, hb⟩
      have hmid2 := HMID1.out.go_on hb
      have hblk2 := (hb.block _ (lt_of_block HBLK.out)).trans HBLK.out
      have HMID2 := Lib.hid hmid2
      have HBLK2 := Lib.hid hblk2
      have c6 := cell_of_row w2 b6 0 _ _ _ hblk2
      have c61 := cell_of_row w2 b6 1 _ _ _ hblk2
      have c62 := cell_of_row w2 b6 2 _ _ _ hblk2
      have c63 := cell_of_row w2 b6 3 _ _ _ hblk2
      have c64 := cell_of_row w2 b6 4 _ _ _ hblk2
      have c65 := cell_of_row w2 b6 5 _ _ _ hblk2
      have c66 := cell_of_row w2 b6 6 _ _ _ hblk2
      simp only [List.getElem?_toArray, List.getElem?_cons_zero, List.getElem?_cons_succ] at c6 c61 c62 c63 c64 c65 c66
      clear hb hmid2 hblk2 HMID1 HBLK
      by_cases hnm : nameB s.name.data.toList = true
      · by_cases hsg : signB s.sign.data.toList = true
        · go_wp2_with fail
          refine (sign_any s.sign w2 i2).mono ?_
          rintro e w' ⟨rfl, rfl⟩
          go_wp2_with fail
          clear c6 c61 c62 c63 c64 c65 c66
          have HNM := Lib.hid hnm
          have HSG := Lib.hid hsg
          clear hnm hsg
          go_loopg [7] k (fun gj jv wx => ∃ (j : Nat), j ≤ k ∧ gj = k - j ∧ jv = .int .i64 j ∧ Below w2.heap.size w2 wx ∧ ∀ i (h : i < o.syms.length), i < j → o.syms[i].name.data.toList ≠ s.name.data.toList)
          case atStart => exact ⟨0, by omega, rfl, rfl, Below.refl _ _, fun _ _ h => absurd h (by omega)⟩
          case round =>
            obtain ⟨j, hj, hgj, rfl, hbx, hne⟩ := hrel
            have HGJ := Lib.hid hgj
            have HNE := Lib.hid hne
            have hmx := HMID2.out.go_on hbx
            have hblkx := (hbx.block _ (lt_of_block HBLK2.out)).trans HBLK2.out
            obtain ⟨y0, y1, y2, y3, yz⟩ := blk4 hmx.box
            have c6 := cell_of_row wr b6 0 _ _ _ hblkx
            have c61 := cell_of_row wr b6 1 _ _ _ hblkx
            have c62 := cell_of_row wr b6 2 _ _ _ hblkx
            have c63 := cell_of_row wr b6 3 _ _ _ hblkx
            have c64 := cell_of_row wr b6 4 _ _ _ hblkx
            have c65 := cell_of_row wr b6 5 _ _ _ hblkx
            have c66 := cell_of_row wr b6 6 _ _ _ hblkx
            simp only [List.getElem?_toArray, List.getElem?_cons_zero, List.getElem?_cons_succ] at c6 c61 c62 c63 c64 c65 c66
            have HMX := Lib.hid hmx
            have HBX := Lib.hid hbx
            clear hgj hne hmx hblkx hbx
            by_cases hjk : j < k
            · obtain ⟨c9, co9, e9, hc9, hj', hrange⟩ := (HO.out.below HMX.out.below).sym (show j < m by omega)
              injection e9 with e9
              injection e9 with e9 e10 e11
              subst e9 e10
              have hcell := hrange 0 (.string o.syms[j].name) rfl
              obtain ⟨x, hx⟩ : ∃ x, x = o.syms[j].name := ⟨_, rfl⟩
              rw [Nat.add_zero, ← hx] at hcell
              have HX := Lib.hid hx
              clear hrange hx e11
              by_cases he : x.data.toList = s.name.data.toList
              · have hq : (x.toList == s.name.toList) = true := by rw [ByteArray.toList_eq, ByteArray.toList_eq, he]; simp
                obtain rfl : t = false := HNO.out (by
                  have : (names (o.syms.take k)).contains s.name.data.toList = true := by
                    rw [List.contains_iff_mem, ← he, HX.out]
                    unfold names
                    exact List.mem_map.2 ⟨o.syms[j], List.mem_take_iff_getElem.2 ⟨j, by omega, rfl⟩, rfl⟩
                  unfold symOk
                  rw [this]
                  simp)
                clear he
                go_wp2_with fail
                go_quiet (fail)
                go_wp2_with fail
                go_ret
                exact ⟨rfl, HMX.out.below.trans ((drewN_below _ _).mono HMX.out.below.size)⟩
              · have hq : (x.toList == s.name.toList) = false := by rw [ByteArray.toList_eq, ByteArray.toList_eq]; exact beq_eq_false_iff_ne.2 he
                have HE := Lib.hid he
                clear he
                go_wp2_with fail
                go_quiet (fail)
                go_wp2_with fail
                go_roundg (k - (j + 1))
                case measure => have := HGJ.out; omega
                case rel => exact ⟨j + 1, by omega, rfl, by go_num, HBX.out.trans ((drewN_below _ _).mono HBX.out.size), fun i h hi => by
                  by_cases e : i = j
                  · subst e
                    rw [← HX.out]
                    exact HE.out
                  · exact HNE.out i h (by omega)⟩
            · obtain rfl : j = k := by omega
              have HSO : Hid (symOk (names (o.syms.take j)) c e' s = take c e' s) := by
                show symOk _ _ _ _ = _
                have : (names (o.syms.take j)).contains s.name.data.toList = false := by
                  rw [Bool.eq_false_iff]
                  intro h
                  rw [List.contains_iff_mem] at h
                  unfold names at h
                  obtain ⟨y, hy, e⟩ := List.mem_map.1 h
                  obtain ⟨i, hi, rfl⟩ := List.mem_take_iff_getElem.1 hy
                  exact HNE.out i (by omega) (by omega) e
                unfold symOk
                rw [HNM.out, this, HSG.out]
                rfl
              by_cases hk34 : s.kind = 3 ∨ s.kind = 4
              · have qk : (s.kind == 3 || s.kind == 4) = true := by rw [Bool.or_eq_true, beq_iff_eq, beq_iff_eq]; exact hk34
                have qk3 : (s.kind == 3) = true ∨ (s.kind == 3) = false ∧ (s.kind == 4) = true := by
                  rcases hk34 with e | e
                  · exact .inl (beq_iff_eq.2 e)
                  · exact .inr ⟨beq_eq_false_iff_ne.2 (by omega), beq_iff_eq.2 e⟩
                have HK34 := Lib.hid hk34
                clear hk34 qk
                by_cases p0 : s.pos = 0
                · by_cases p1 : s.size = 0
                  · by_cases p2 : s.frame = 0
                    · by_cases p3 : s.static = false
                      · have q0 : (s.pos != 0) = false := by simpa using p0
                        have q1 : (s.size != 0) = false := by simpa using p1
                        have q2 : (s.frame != 0) = false := by simpa using p2
                        have HT2 : Hid (take c e' s = some (c, e')) := take_out_yes HK34.out ⟨p0, p1, p2, p3⟩
                        clear p0 p1 p2
                        rcases qk3 with qa | ⟨qa, qb⟩
                        · have hnx := HMX.out.next hk' (by rw [← HS.out]; exact HSO.out.trans HT2.out)
                          have HNX := Lib.hid hnx
                          clear hnx HT2
                          go_wp2_with fail
                          go_roundg (m - (j + 1))
                          case measure => have := HG.out; omega
                          case rel => exact ⟨j + 1, _, _, hlt, rfl, by go_num, rfl, rfl, HNX.out⟩
                        · have hnx := HMX.out.next hk' (by rw [← HS.out]; exact HSO.out.trans HT2.out)
                          have HNX := Lib.hid hnx
                          clear hnx HT2
                          go_wp2_with fail
                          go_roundg (m - (j + 1))
                          case measure => have := HG.out; omega
                          case rel => exact ⟨j + 1, _, _, hlt, rfl, by go_num, rfl, rfl, HNX.out⟩
                      · have q0 : (s.pos != 0) = false := by simpa using p0
                        have q1 : (s.size != 0) = false := by simpa using p1
                        have q2 : (s.frame != 0) = false := by simpa using p2
                        have q3 : s.static = true := by simpa using p3
                        have HT2 : Hid (take c e' s = none) := take_out_no HK34.out (fun e => p3 e.2.2.2)
                        clear p0 p1 p2 p3
                        obtain rfl : t = false := HNO.out (HSO.out.trans HT2.out)
                        rcases qk3 with qa | ⟨qa, qb⟩
                        · go_wp2_with fail
                          go_ret
                          exact ⟨rfl, HMX.out.below⟩
                        · go_wp2_with fail
                          go_ret
                          exact ⟨rfl, HMX.out.below⟩
                    · have q0 : (s.pos != 0) = false := by simpa using p0
                      have q1 : (s.size != 0) = false := by simpa using p1
                      have q2 : (s.frame != 0) = true := bne_iff_ne.2 p2
                      have HT2 : Hid (take c e' s = none) := take_out_no HK34.out (fun e => p2 e.2.2.1)
                      clear p0 p1 p2
                      obtain rfl : t = false := HNO.out (HSO.out.trans HT2.out)
                      rcases qk3 with qa | ⟨qa, qb⟩
                      · go_wp2_with fail
                        go_ret
                        exact ⟨rfl, HMX.out.below⟩
                      · go_wp2_with fail
                        go_ret
                        exact ⟨rfl, HMX.out.below⟩
                  · have q0 : (s.pos != 0) = false := by simpa using p0
                    have q1 : (s.size != 0) = true := bne_iff_ne.2 p1
                    have HT2 : Hid (take c e' s = none) := take_out_no HK34.out (fun e => p1 e.2.1)
                    clear p0 p1
                    obtain rfl : t = false := HNO.out (HSO.out.trans HT2.out)
                    rcases qk3 with qa | ⟨qa, qb⟩
                    · go_wp2_with fail
                      go_ret
                      exact ⟨rfl, HMX.out.below⟩
                    · go_wp2_with fail
                      go_ret
                      exact ⟨rfl, HMX.out.below⟩
                · have q0 : (s.pos != 0) = true := bne_iff_ne.2 p0
                  have HT2 : Hid (take c e' s = none) := take_out_no HK34.out (fun e => p0 e.1)
                  clear p0
                  obtain rfl : t = false := HNO.out (HSO.out.trans HT2.out)
                  rcases qk3 with qa | ⟨qa, qb⟩
                  · go_wp2_with fail
                    go_ret
                    exact ⟨rfl, HMX.out.below⟩
                  · go_wp2_with fail
                    go_ret
                    exact ⟨rfl, HMX.out.below⟩
              have qa : (s.kind == 3) = false := beq_eq_false_iff_ne.2 (by omega)
              have qb : (s.kind == 4) = false := beq_eq_false_iff_ne.2 (by omega)
              have HK34 := Lib.hid hk34
              clear hk34
              by_cases p1 : s.size < 1
              · have q1 : decide (s.size < 1) = true := decide_eq_true p1
                obtain rfl : t = false := HNO.out (HSO.out.trans (take_size_no HK34.out (.inl p1)))
                go_wp2_with fail
                go_ret
                exact ⟨rfl, HMX.out.below⟩
              have q1 : decide (s.size < 1) = false := decide_eq_false p1
              by_cases p2 : 16000 < s.size
              · have q2 : decide (16000 < s.size) = true := decide_eq_true p2
                obtain rfl : t = false := HNO.out (HSO.out.trans (take_size_no HK34.out (.inr p2)))
                go_wp2_with fail
                go_ret
                exact ⟨rfl, HMX.out.below⟩
              have q2 : decide (16000 < s.size) = false := decide_eq_false p2
              have HSZ : Hid (¬ (s.size < 1 ∨ 16000 < s.size)) := by
                show ¬ _
                omega
              have hsum := HMX.out.sums
              by_cases hk1 : s.kind = 1
              · have q3 : (s.kind == 1) = true := beq_iff_eq.2 hk1
                have HK1 := Lib.hid hk1
                clear hk1
                by_cases p3 : s.pos = c
                · have q4 : (s.pos != c) = false := by simpa using p3
                  by_cases p4 : s.frame < 0
                  · have q5 : decide (s.frame < 0) = true := decide_eq_true p4
                    obtain rfl : t = false := HNO.out (HSO.out.trans (take_1_no HK1.out HSZ.out (by omega)))
                    clear p3
                    go_wp2_with fail
                    go_ret
                    exact ⟨rfl, HMX.out.below⟩
                  have q5 : decide (s.frame < 0) = false := decide_eq_false p4
                  by_cases p5 : 16000 < s.frame
                  · have q6 : decide (16000 < s.frame) = true := decide_eq_true p5
                    obtain rfl : t = false := HNO.out (HSO.out.trans (take_1_no HK1.out HSZ.out (by omega)))
                    clear p3
                    go_wp2_with fail
                    go_ret
                    exact ⟨rfl, HMX.out.below⟩
                  have q6 : decide (16000 < s.frame) = false := decide_eq_false p5
                  have HT2 : Hid (take c e' s = some (c + s.size, e')) := take_1_yes HK1.out HSZ.out ⟨p3, by omega, by omega⟩
                  clear p3
                  have hnx := HMX.out.next hk' (by rw [← HS.out]; exact HSO.out.trans HT2.out)
                  have HNX := Lib.hid hnx
                  clear hnx HT2
                  go_wp2_with fail
                  go_roundg (m - (j + 1))
                  case measure => have := HG.out; omega
                  case rel => exact ⟨j + 1, _, _, hlt, rfl, by go_num, rfl, rfl, HNX.out⟩
                · have q4 : (s.pos != c) = true := bne_iff_ne.2 p3
                  obtain rfl : t = false := HNO.out (HSO.out.trans (take_1_no HK1.out HSZ.out (fun e => p3 e.1)))
                  clear p3
                  go_wp2_with fail
                  go_ret
                  exact ⟨rfl, HMX.out.below⟩
              have q3 : (s.kind == 1) = false := beq_eq_false_iff_ne.2 hk1
              have HK1 := Lib.hid hk1
              clear hk1
              by_cases hk2 : s.kind = 2
              · have q4 : (s.kind != 2) = false := by simpa using hk2
                by_cases p3 : s.pos = e'
                · have q5 : (s.pos != e') = false := by simpa using p3
                  by_cases p4 : s.frame = 0
                  · have q6 : (s.frame != 0) = false := by simpa using p4
                    have HT2 : Hid (take c e' s = some (c, e' + s.size)) := take_2_yes HSZ.out ⟨hk2, p3, p4⟩
                    clear p3 p4 hk2
                    have hnx := HMX.out.next hk' (by rw [← HS.out]; exact HSO.out.trans HT2.out)
                    have HNX := Lib.hid hnx
                    clear hnx HT2
                    go_wp2_with fail
                    go_roundg (m - (j + 1))
                    case measure => have := HG.out; omega
                    case rel => exact ⟨j + 1, _, _, hlt, rfl, by go_num, rfl, rfl, HNX.out⟩
                  · have q6 : (s.frame != 0) = true := bne_iff_ne.2 p4
                    obtain rfl : t = false := HNO.out (HSO.out.trans (take_2_no HK34.out HSZ.out HK1.out (fun e => p4 e.2.2)))
                    clear p3 p4 hk2
                    go_wp2_with fail
                    go_ret
                    exact ⟨rfl, HMX.out.below⟩
                · have q5 : (s.pos != e') = true := bne_iff_ne.2 p3
                  obtain rfl : t = false := HNO.out (HSO.out.trans (take_2_no HK34.out HSZ.out HK1.out (fun e => p3 e.2.1)))
                  clear p3 hk2
                  go_wp2_with fail
                  go_ret
                  exact ⟨rfl, HMX.out.below⟩
              have q4 : (s.kind != 2) = true := bne_iff_ne.2 hk2
              obtain rfl : t = false := HNO.out (HSO.out.trans (take_2_no HK34.out HSZ.out HK1.out (fun e => hk2 e.1)))
              clear hk2
              go_wp2_with fail
              go_ret
              exact ⟨rfl, HMX.out.below⟩
        · have hsg' : signB s.sign.data.toList = false := by simpa using hsg
          obtain rfl : t = false := HNO.out (by unfold symOk; rw [hsg', Bool.and_false]; rfl)
          clear hsg
          go_wp2_with fail
          refine (sign_any s.sign w2 i2).mono ?_
          rintro e w' ⟨rfl, rfl⟩
          go_wp2_with fail
          go_ret
          exact ⟨rfl, HMID2.out.below⟩
      · have hnm' : nameB s.name.data.toList = false := by simpa using hnm
        obtain rfl : t = false := HNO.out (by unfold symOk; rw [hnm']; rfl)
        clear hnm
        go_wp2_with fail
        go_ret
        exact ⟨rfl, HMID2.out.below⟩
    · obtain rfl : k = m := by omega
      have hall : symsGo [] 0 0 o.syms = some (c, e') := by
        have := HMID.out.go
        rwa [List.take_of_length_le (by rw [HO.out.ml]; omega)] at this
      have HALL := Lib.hid hall
      clear hall
      by_cases hcn : c = n
      · by_cases hed : e' = d
        · have HALL2 : Hid (symsGo [] 0 0 o.syms = some ((o.code.length : Int), (o.data.length : Int))) := by
            show symsGo [] 0 0 o.syms = _
            rw [HALL.out, hcn, hed, HO.out.nl, HO.out.dl]
          have q1 : (c != (n : Int)) = false := by simpa using hcn
          have q2 : (e' != (d : Int)) = false := by simpa using hed
          clear hcn hed HALL
          have hm0 : RelMid w wr #[.slice pc n kn, .slice pd d kd, .slice ps k km, .slice pr r kr] o 0 (-1) := ⟨HMID.out.below, HMID.out.box, rfl, rfl, by omega⟩
          have HM0 := Lib.hid hm0
          clear hm0
          go_wp2_with fail
          clear q1 q2 y0 y1 y2 y3 yz HMID hl0
          go_loopg [8] r (fun gk i wx => ∃ (j : Nat) (last : Int), j ≤ r ∧ gk = r - j ∧ i = .int .i64 j ∧ RelMid w wx #[.slice pc n kn, .slice pd d kd, .slice ps k km, .slice pr r kr] o j last)
          case atStart => exact ⟨0, -1, by omega, rfl, rfl, HM0.out⟩
          case round =>
            obtain ⟨j, last, hj, hgj, rfl, hmid⟩ := hrel
            have HGJ := Lib.hid hgj
            have HMID := Lib.hid hmid
            have hlast := hmid.ge
            obtain ⟨y0, y1, y2, y3, yz⟩ := blk4 hmid.box
            clear hgj hmid HM0
            by_cases hjr : j < r
            · obtain ⟨c1, co1, rfl, hc1, hj', hrange⟩ := (HO.out.below HMID.out.below).rel hjr
              obtain ⟨x, hx⟩ : ∃ x, x = o.rels[j] := ⟨_, rfl⟩
              rw [← hx] at hrange
              have hin : RelIn x := by rw [hx]; exact HO.out.relIn _ (List.getElem_mem hj')
              obtain ⟨pos, sym, add⟩ := x
              obtain ⟨⟨i1, i2⟩, ⟨i3, i4⟩, ⟨i5, i6⟩⟩ := hin
              simp only at i1 i2 i3 i4 i5 i6
              have HRG := Lib.hid hrange
              have HX := Lib.hid hx
              clear hrange hx
              have HNO : Hid (relOk o.code o.syms.length last ⟨pos, sym, add⟩ = false → t = false) := by
                intro hno
                rw [← HT.out]
                refine mayB_rel hj' ?_
                rw [← HX.out, ← HMID.out.lasts]
                exact hno
              have HR : Hid (relOk o.code o.syms.length last ⟨pos, sym, add⟩ = (decide (last < pos) && decide (pos < n) && speaksB (o.code.getD pos.toNat 0) && decide (0 ≤ sym) && decide (sym < k) && decide (0 ≤ add) && decide (add ≤ 6000))) := by
                show relOk _ _ _ _ = _
                unfold relOk
                rw [HO.out.nl, HO.out.ml]
              have hst : ∀ w : World, (storeCells ⟨w.heap.size, 0, none⟩ [.int .i64 pos, .int .i64 sym, .int .i64 add] 0).run Try.prog (w.alloc (.cells #[.int .i64 0, .int .i64 0, .int .i64 0] 110)) = .ok () (w.alloc (.cells #[.int .i64 pos, .int .i64 sym, .int .i64 add] 110)) :=
                fun w => run_storeCells_new (P := Try.prog) w 110 #[.int .i64 0, .int .i64 0, .int .i64 0] #[.int .i64 pos, .int .i64 sym, .int .i64 add] (by kernel_rfl) rfl (by kernel_rfl)
              have hl0 := lt_of_block HMID.out.box
              go_upto_region 34 with (refine wpList_load_mid (by rfl) 110 (.tmp 165) (by rfl) c1 (co1 + j * 3) (by rfl) [.int .i64 pos, .int .i64 sym, .int .i64 add] _ HRG.out Try.underlying110 (by rfl) (by kernel_rfl) ?_)
              obtain ⟨w1, hw1⟩ : ∃ w1, w1 = wr.alloc (.cells #[.int .i64 pos, .int .i64 sym, .int .i64 add] 110) := ⟨_, rfl⟩
              have hmid1 := HMID.out.go_on (w2 := w1) (by rw [hw1]; exact (Below.refl _ _).alloc (Nat.le_refl _) _)
              have hblk : w1.heap[wr.heap.size]? = some (.cells #[.int .i64 pos, .int .i64 sym, .int .i64 add] 110 (0, 0)) := by rw [hw1]; exact heap_alloc_new wr _
              rw [← hw1]
              clear hw1 hst
              obtain ⟨b9, hb9⟩ : ∃ b9, b9 = wr.heap.size := ⟨_, rfl⟩
              rw [← hb9] at hblk ⊢
              clear hb9 hl0 y0 y1 y2 y3 yz
              obtain ⟨y0, y1, y2, y3, yz⟩ := blk4 hmid1.box
              have c9 := cell_of_row w1 b9 0 _ _ _ hblk
              have c91 := cell_of_row w1 b9 1 _ _ _ hblk
              have c92 := cell_of_row w1 b9 2 _ _ _ hblk
              simp only [List.getElem?_toArray, List.getElem?_cons_zero, List.getElem?_cons_succ] at c9 c91 c92
              have HMID1 := Lib.hid hmid1
              have HBLK := Lib.hid hblk
              clear hmid1 hblk HMID HRG
              have hlj : j = 0 → last = -1 := fun e => by
                have := HMID1.out.lasts
                rw [e, List.take_zero] at this
                exact this
              obtain ⟨bad, hbad⟩ : ∃ bad, bad = !(decide (last < pos) && decide (pos < (n : Int))) := ⟨_, rfl⟩
              have HBAD := Lib.hid hbad
              have HLJ := Lib.hid hlj
              clear hbad hlj
              go_cut [193] from 167 to 193 (fun v wx => v = .bool bad ∧ ∃ q, wx = w1.drewN q)
              case first =>
                by_cases p0 : pos < 0
                · have hb : bad = true := by rw [HBAD.out, decide_eq_false (p := last < pos) (by omega)]; rfl
                  have q0 : decide (pos < 0) = true := decide_eq_true p0
                  subst hb
                  go_quiet (fail)
                  go_wp2_with fail
                  go_meet
                  exact ⟨rfl, _, rfl⟩
                have q0 : decide (pos < 0) = false := decide_eq_false p0
                by_cases p2 : (n : Int) ≤ pos
                · have hb : bad = true := by rw [HBAD.out, decide_eq_false (p := pos < (n : Int)) (by omega)]; simp
                  have q2 : decide ((n : Int) ≤ pos) = true := decide_eq_true p2
                  subst hb
                  go_quiet (fail)
                  go_wp2_with fail
                  go_meet
                  exact ⟨rfl, _, rfl⟩
                have q2 : decide ((n : Int) ≤ pos) = false := decide_eq_false p2
                by_cases hj0 : j = 0
                · have hb : bad = false := by
                    have := HLJ.out hj0
                    rw [HBAD.out, decide_eq_true (p := last < pos) (by omega), decide_eq_true (p := pos < (n : Int)) (by omega)]; rfl
                  have q4 : decide (0 < j) = false := decide_eq_false (by omega)
                  subst hb
                  clear hj0 p0 p2
                  go_quiet (fail)
                  go_wp2_with fail
                  go_meet
                  exact ⟨rfl, _, rfl⟩
                obtain ⟨c7, co7, e7, hc7, hi', hrange⟩ := (HO.out.below HMID1.out.below).rel (show j - 1 < r by omega)
                injection e7 with e7
                injection e7 with e7 e8 e9
                subst e7 e8
                have hl1 : last = o.rels[j - 1].pos := by
                  have h := HMID1.out.lasts
                  have e := lastOf_next hi'
                  rw [show j - 1 + 1 = j by omega] at e
                  exact h.trans e
                have hcell := hrange 0 (.int .i64 o.rels[j - 1].pos) rfl
                rw [Nat.add_zero, ← hl1] at hcell
                clear hrange e9 hl1
                have hi0 : (0 : Int) ≤ (j : Int) - 1 := by omega
                have hi1 : (1 : Int) ≤ (j : Int) := by omega
                have hir : (j : Int) - 1 < r := by omega
                have hwr : IntKind.i64.wrap ((j : Int) - 1) = (j : Int) - 1 := IntWalk.i64_in _ (by omega)
                have hit : ((j : Int) - 1).toNat = j - 1 := by omega
                have q4 : decide (0 < j) = true := decide_eq_true (by omega)
                clear hj0
                by_cases hql : pos ≤ last
                · have hb : bad = true := by rw [HBAD.out, decide_eq_false (p := last < pos) (by omega)]; rfl
                  have q5 : decide (pos ≤ last) = true := decide_eq_true hql
                  subst hb
                  clear p0 p2
                  go_quiet (fail)
                  go_wp2_with fail
                  go_meet
                  exact ⟨rfl, _, rfl⟩
                · have hb : bad = false := by rw [HBAD.out, decide_eq_true (p := last < pos) (by omega), decide_eq_true (p := pos < (n : Int)) (by omega)]; rfl
                  have q3 : decide (pos ≤ last) = false := decide_eq_false hql
                  subst hb
                  clear p0 p2 hql
                  go_quiet (fail)
                  go_wp2_with fail
                  go_meet
                  exact ⟨rfl, _, rfl⟩
              case rest =>
                obtain ⟨hv193, nq, hwq⟩ := hcut
                have hbq : Below w1.heap.size w1 wc := by rw [hwq]; exact drewN_below _ _
                have hmid3 := HMID1.out.go_on hbq
                have hblk3 := (hbq.block _ (lt_of_block HBLK.out)).trans HBLK.out
                clear hwq hbq y0 y1 y2 y3 yz c9 c91 c92
                have HMID3 := Lib.hid hmid3
                have HBLK3 := Lib.hid hblk3
                clear hmid3 hblk3
                rcases hbb : bad with _ | _
                · rw [hbb] at hv193 HBAD
                  clear hbb
                  subst hv193
                  have hg := HBAD.out
                  have hpl : last < pos := by
                    by_cases e : last < pos
                    · exact e
                    · rw [decide_eq_false e] at hg; cases hg
                  have hpn : pos < (n : Int) := by
                    by_cases e : pos < (n : Int)
                    · exact e
                    · rw [decide_eq_false e, Bool.and_false] at hg; cases hg
                  clear hg
                  have HLQ := Lib.hid hpl
                  obtain ⟨q, rfl⟩ := Int.eq_ofNat_of_zero_le (show 0 ≤ pos by omega)
                  have hqn : q < n := by omega
                  obtain ⟨cc, cco, epc, hcc, hword⟩ := (HO.out.below HMID3.out.below).word hqn
                  obtain ⟨v, hv⟩ : ∃ v, v = o.code.getD q 0 := ⟨_, rfl⟩
                  have hv0 : 0 ≤ v ∧ v ≤ 4294967295 := by rw [hv]; exact HO.out.u32 q
                  rw [← hv] at hword
                  have HV := Lib.hid hv
                  clear hv hpl
                  subst epc
                  obtain ⟨y0, y1, y2, y3, yz⟩ := blk4 HMID3.out.box
                  have c9 := cell_of_row wc b9 0 _ _ _ HBLK3.out
                  have c91 := cell_of_row wc b9 1 _ _ _ HBLK3.out
                  have c92 := cell_of_row wc b9 2 _ _ _ HBLK3.out
                  simp only [List.getElem?_toArray, List.getElem?_cons_zero, List.getElem?_cons_succ] at c9 c91 c92
                  obtain ⟨d0, d1, d2, d3, d4, is, hdv, his, hsp⟩ := dec_told v
                  have H : Hid (∀ w', Calls Try.prog 12 #[.int .u32 v] w' fun e w'' => e = .returned (.tuple #[.agg #[.int .i64 d0, .int .i64 d1, .int .i64 d2, .int .i64 d3, .int .i64 d4], .bool is]) ∧ Below w'.heap.size w' w'') := fun w' => by
                    rw [← hdv, ← his]
                    exact rdecode_any v w' hv0.1 hv0.2
                  have HSP := Lib.hid hsp
                  clear hdv his hsp hv0
                  have hst : ∀ w : World, (storeCells ⟨w.heap.size, 0, none⟩ [.int .i64 d0, .int .i64 d1, .int .i64 d2, .int .i64 d3, .int .i64 d4] 0).run Try.prog (w.alloc (.cells #[.int .i64 0, .int .i64 0, .int .i64 0, .int .i64 0, .int .i64 0] 24)) = .ok () (w.alloc (.cells #[.int .i64 d0, .int .i64 d1, .int .i64 d2, .int .i64 d3, .int .i64 d4] 24)) := fun w => run_storeCells_new (P := Try.prog) w 24 #[.int .i64 0, .int .i64 0, .int .i64 0, .int .i64 0, .int .i64 0] #[.int .i64 d0, .int .i64 d1, .int .i64 d2, .int .i64 d3, .int .i64 d4] (by kernel_rfl) rfl (by kernel_rfl)
                  go_wp2_with fail
                  refine (H.out wc).mono ?_
                  rintro e w4 ⟨rfl, hb4⟩
                  have hmid4 := HMID3.out.go_on hb4
                  have hblk4 := (hb4.block _ (lt_of_block HBLK3.out)).trans HBLK3.out
                  clear y0 y1 y2 y3 yz c9 c91 c92 hword HMID3 HBLK3 hb4 H
                  have HMID4 := Lib.hid hmid4
                  have HBLK4 := Lib.hid hblk4
                  clear hmid4 hblk4
                  go_upto_region 37 with fail
                  obtain ⟨w5, hw5⟩ : ∃ w5, w5 = w4.alloc (.cells #[.int .i64 d0, .int .i64 d1, .int .i64 d2, .int .i64 d3, .int .i64 d4] 24) := ⟨_, rfl⟩
                  have hb5 : Below w4.heap.size w4 w5 := by rw [hw5]; exact (Below.refl _ _).alloc (Nat.le_refl _) _
                  have hi5 : w5.heap[w4.heap.size]? = some (.cells #[.int .i64 d0, .int .i64 d1, .int .i64 d2, .int .i64 d3, .int .i64 d4] 24 (0, 0)) := by rw [hw5]; exact heap_alloc_new w4 _
                  have hmid5 := HMID4.out.go_on hb5
                  have hblk5 := (hb5.block _ (lt_of_block HBLK4.out)).trans HBLK4.out
                  rw [← hw5]
                  obtain ⟨b10, hb10⟩ : ∃ b10, b10 = w4.heap.size := ⟨_, rfl⟩
                  rw [← hb10] at hi5 ⊢
                  clear hw5 hb5 hb10 hst HMID4 HBLK4
                  obtain ⟨y0, y1, y2, y3, yz⟩ := blk4 hmid5.box
                  obtain ⟨x0, x1, x2, x3, x4, xz⟩ := blk5 hi5
                  have c9 := cell_of_row w5 b9 0 _ _ _ hblk5
                  have c91 := cell_of_row w5 b9 1 _ _ _ hblk5
                  have c92 := cell_of_row w5 b9 2 _ _ _ hblk5
                  simp only [List.getElem?_toArray, List.getElem?_cons_zero, List.getElem?_cons_succ] at c9 c91 c92
                  have HMID5 := Lib.hid hmid5
                  clear hmid5 hblk5 hi5
                  obtain ⟨og, hog⟩ : ∃ og, og = (d0 == 2 || d0 == 19 || d0 == 20 || d0 == 21) := ⟨_, rfl⟩
                  have HOG := Lib.hid hog
                  clear hog
                  go_cut [12] from 204 to 221 (fun v wx => v = .bool og ∧ w5 = wx)
                  case first =>
                    by_cases e1 : d0 = 2
                    · have hb : og = true := by rw [HOG.out, e1]; rfl
                      have t1 : (d0 == 2) = true := by rw [e1]; rfl
                      subst hb
                      clear e1
                      go_wp2_with fail
                      go_meet
                      exact ⟨rfl, rfl⟩
                    have t1 : (d0 == 2) = false := beq_eq_false_iff_ne.2 e1
                    by_cases e2 : d0 = 19
                    · have hb : og = true := by rw [HOG.out, e2]; rfl
                      have t2 : (d0 == 19) = true := by rw [e2]; rfl
                      subst hb
                      clear e1 e2
                      go_wp2_with fail
                      go_meet
                      exact ⟨rfl, rfl⟩
                    have t2 : (d0 == 19) = false := beq_eq_false_iff_ne.2 e2
                    by_cases e3 : d0 = 20
                    · have hb : og = true := by rw [HOG.out, e3]; rfl
                      have t3 : (d0 == 20) = true := by rw [e3]; rfl
                      subst hb
                      clear e1 e2 e3
                      go_wp2_with fail
                      go_meet
                      exact ⟨rfl, rfl⟩
                    have t3 : (d0 == 20) = false := beq_eq_false_iff_ne.2 e3
                    obtain ⟨t4b, t4⟩ : ∃ t4b, (d0 == 21) = t4b := ⟨_, rfl⟩
                    have hb : og = t4b := by rw [HOG.out, t1, t2, t3, t4]; rfl
                    subst hb
                    clear e1 e2 e3
                    go_wp2_with fail
                    go_meet
                    exact ⟨rfl, rfl⟩
                  case rest =>
                    obtain ⟨rfl, rfl⟩ := hcut
                    obtain ⟨good, hgood⟩ : ∃ good, good = (is && og && (d4 == 0) && decide (0 ≤ sym) && decide (sym < (k : Int)) && decide (0 ≤ add) && decide (add ≤ 6000)) := ⟨_, rfl⟩
                    have HGOOD := Lib.hid hgood
                    clear hgood
                    go_upto_region 38 with fail
                    go_cut [255] from 222 to 255 (fun v wx => v = .bool (!good) ∧ w5 = wx)
                    case first =>
                      cases is
                      · have hb : good = false := by rw [HGOOD.out]; rfl
                        subst hb
                        go_wp2_with fail
                        go_meet
                        exact ⟨rfl, rfl⟩
                      cases og
                      · have hb : good = false := by rw [HGOOD.out]; rfl
                        subst hb
                        go_wp2_with fail
                        go_meet
                        exact ⟨rfl, rfl⟩
                      by_cases p3 : d4 = 0
                      rotate_left
                      · have hb : good = false := by rw [HGOOD.out, beq_eq_false_iff_ne.2 p3]; simp
                        have q3 : (d4 != 0) = true := bne_iff_ne.2 p3
                        subst hb
                        clear p3
                        go_wp2_with fail
                        go_meet
                        exact ⟨rfl, rfl⟩
                      have q3 : (d4 != 0) = false := by simpa using p3
                      by_cases p4 : sym < 0
                      · have hb : good = false := by rw [HGOOD.out, decide_eq_false (p := 0 ≤ sym) (by omega)]; simp
                        have q4 : decide (sym < 0) = true := decide_eq_true p4
                        subst hb
                        clear p3
                        go_wp2_with fail
                        go_meet
                        exact ⟨rfl, rfl⟩
                      have q4 : decide (sym < 0) = false := decide_eq_false p4
                      by_cases p5 : (k : Int) ≤ sym
                      · have hb : good = false := by rw [HGOOD.out, decide_eq_false (p := sym < (k : Int)) (by omega)]; simp
                        have q5 : decide ((k : Int) ≤ sym) = true := decide_eq_true p5
                        subst hb
                        clear p3
                        go_wp2_with fail
                        go_meet
                        exact ⟨rfl, rfl⟩
                      have q5 : decide ((k : Int) ≤ sym) = false := decide_eq_false p5
                      by_cases p6 : add < 0
                      · have hb : good = false := by rw [HGOOD.out, decide_eq_false (p := 0 ≤ add) (by omega)]; simp
                        have q6 : decide (add < 0) = true := decide_eq_true p6
                        subst hb
                        clear p3
                        go_wp2_with fail
                        go_meet
                        exact ⟨rfl, rfl⟩
                      have q6 : decide (add < 0) = false := decide_eq_false p6
                      by_cases p7 : 6000 < add
                      · have hb : good = false := by rw [HGOOD.out, decide_eq_false (p := add ≤ 6000) (by omega)]; simp
                        have q7 : decide (6000 < add) = true := decide_eq_true p7
                        subst hb
                        clear p3
                        go_wp2_with fail
                        go_meet
                        exact ⟨rfl, rfl⟩
                      have q7 : decide (6000 < add) = false := decide_eq_false p7
                      have hb : good = true := by
                        rw [HGOOD.out, p3, decide_eq_true (p := 0 ≤ sym) (by omega), decide_eq_true (p := sym < (k : Int)) (by omega), decide_eq_true (p := 0 ≤ add) (by omega), decide_eq_true (p := add ≤ 6000) (by omega)]
                        rfl
                      subst hb
                      clear p3 p4 p5 p6 p7
                      go_wp2_with fail
                      go_meet
                      exact ⟨rfl, rfl⟩
                    case rest =>
                      obtain ⟨rfl, rfl⟩ := hcut
                      have HOK : Hid (relOk o.code o.syms.length last ⟨q, sym, add⟩ = good) := by
                        show relOk _ _ _ _ = _
                        rw [HR.out, Int.toNat_natCast, ← HV.out, HSP.out, ← HOG.out, decide_eq_true (p := last < (q : Int)) HLQ.out, decide_eq_true (p := (q : Int) < (n : Int)) (by omega), HGOOD.out, Bool.true_and, Bool.true_and]
                      cases good
                      · obtain rfl : t = false := HNO.out HOK.out
                        go_wp2_with fail
                        go_ret
                        exact ⟨rfl, HMID5.out.below⟩
                      · go_wp2_with fail
                        go_roundg (r - (j + 1))
                        case measure => have := HGJ.out; omega
                        case rel => exact ⟨j + 1, q, hjr, rfl, by go_num, ⟨HMID5.out.below, HMID5.out.box, relsGo_next hj' HMID5.out.go (by have h := HOK.out; rw [HMID5.out.lasts, HX.out] at h; exact h), by rw [lastOf_next hj', ← HX.out], by omega⟩⟩
                · rw [hbb] at hv193 HBAD
                  clear hbb
                  subst hv193
                  obtain rfl : t = false := HNO.out (by
                    have hg := HBAD.out
                    rw [HR.out]
                    rcases h1 : decide (last < pos) with _ | _
                    · rfl
                    · rcases h2 : decide (pos < (n : Int)) with _ | _
                      · simp
                      · rw [h1, h2] at hg; cases hg)
                  go_wp2_with fail
                  go_ret
                  exact ⟨rfl, HMID3.out.below⟩
            · obtain rfl : j = r := by omega
              obtain rfl : t = true := by
                rw [← HT.out]
                refine mayB_yes HF.out HALL2.out ?_
                have := HMID.out.go
                rwa [List.take_of_length_le (by rw [HO.out.rl]; omega)] at this
              go_wp2_with fail
              go_ret
              exact ⟨rfl, HMID.out.below⟩
        · as_aux_lemma =>
            obtain rfl : t = false := by
              rw [← HT.out]
              exact mayB_sums HALL.out (by rw [HO.out.nl, HO.out.dl]; omega)
            have q1 : (c != (n : Int)) = false := by simpa using hcn
            have q2 : (e' != (d : Int)) = true := bne_iff_ne.2 hed
            clear hcn hed
            go_wp2_with fail
            go_ret
            exact ⟨rfl, HMID.out.below⟩
      · as_aux_lemma =>
          obtain rfl : t = false := by
            rw [← HT.out]
            exact mayB_sums HALL.out (by rw [HO.out.nl, HO.out.dl]; omega)
          have q1 : (c != (n : Int)) = true := bne_iff_ne.2 hcn
          clear hcn
          go_wp2_with fail
          go_ret
          exact ⟨rfl, HMID.out.below⟩
end

end Go.Proofs.Ythnehhidlaggeaa
