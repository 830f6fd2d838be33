/- object.Put: the walk. -/
import Derived.Test.YthnehhidlaggeaaObjMay
import Derived.Test.YthnehhidlaggeaaObjNum
import Derived.Deep.RegionHeld3
namespace Go.Proofs.Ythnehhidlaggeaa
set_option linter.unusedVariables false
set_option linter.unusedSimpArgs false
open Go.RowKit Ob

/-- a block of another type is kept -/
theorem Wrote.keep {w w' : World} {B pw : Nat} {v v' : Value} {bs : List UInt8} (h : Wrote w w' pw v v') (hW : WrAt w B pw v bs) {k : Nat} {cs : Array Value} {t : TypeId} {fz : Nat × Nat} (hk : w.heap[k]? = some (.cells cs t fz)) (h1 : 5 ≠ t) (h2 : 103 ≠ t) : w'.heap[k]? = some (.cells cs t fz) := by
  refine (h.block k (lt_of_block hk) ?_ (own_ne hW.row hk h1)).trans hk
  intro e
  rw [e] at hk
  have hb := hW.box
  rw [hk] at hb
  injection hb with hb
  injection hb with _ ht
  exact h2 ht.symm
/-- in the midst of Put -/
structure PutMid (w wr : World) (oc : Array Value) (pw : Nat) (v : Value) (bs : List UInt8) (L : Nat) : Prop where
  below : Below w.heap.size w wr
  box : wr.heap[w.heap.size]? = some (.cells oc 60 (0, 0))
  wr : WrAt wr (w.heap.size + 1) pw v bs
  pw : w.heap.size < pw
  len : bs.length ≤ L
theorem PutMid.lt {w wr : World} {oc : Array Value} {pw : Nat} {v : Value} {bs : List UInt8} {L : Nat} (h : PutMid w wr oc pw v bs L) : pw < wr.heap.size := lt_of_block h.wr.box
theorem PutMid.alloc {w wr : World} {oc : Array Value} {pw : Nat} {v : Value} {bs : List UInt8} {L : Nat} (h : PutMid w wr oc pw v bs L) (x : Go.Obj) : PutMid w (wr.alloc x) oc pw v bs L :=
  ⟨h.below.alloc (by have := h.below.size; omega) _, (Below.heap_alloc _ _ _ (lt_of_block h.box)).trans h.box, h.wr.alloc _, h.pw, h.len⟩
theorem PutMid.drewN {w wr : World} {oc : Array Value} {pw : Nat} {v : Value} {bs : List UInt8} {L : Nat} (h : PutMid w wr oc pw v bs L) (n : Nat) : PutMid w (wr.drewN n) oc pw v bs L :=
  ⟨⟨h.below.os, h.below.tape, h.below.output, h.below.size, h.below.block⟩, h.box, ⟨h.wr.box, h.wr.row⟩, h.pw, h.len⟩
theorem PutMid.wrote {w wr w2 : World} {oc : Array Value} {pw : Nat} {v v2 : Value} {bs b2 : List UInt8} {L L2 : Nat} (h : PutMid w wr oc pw v bs L) (hw : Wrote wr w2 pw v v2) (hat : WrAt w2 (w.heap.size + 1) pw v2 b2) (hl : b2.length ≤ L2) : PutMid w w2 oc pw v2 b2 L2 := by
  refine ⟨⟨hw.os.trans h.below.os, hw.tape.trans h.below.tape, hw.output.trans h.below.output, Nat.le_trans h.below.size hw.size, fun k hk => ?_⟩, hw.keep h.wr h.box (by decide) (by decide), hat, h.pw, hl⟩
  have := h.pw
  have := h.below.size
  refine (hw.block k (by omega) (by omega) (fun e => ?_)).trans (h.below.block k hk)
  have := (h.wr.row.lt k e.symm).1
  omega
theorem PutMid.as {w wr : World} {oc : Array Value} {pw : Nat} {v : Value} {bs b2 : List UInt8} {L L2 : Nat} (h : PutMid w wr oc pw v bs L) (e : b2 = bs) (hl : L ≤ L2) : PutMid w wr oc pw v b2 L2 := by
  subst e
  exact ⟨h.below, h.box, h.wr, h.pw, Nat.le_trans h.len hl⟩
theorem ints_at {w : World} {b : Nat} {vals : List Int} {cs : Array Value} {t : TypeId} (h : w.heap[b]? = some (.cells cs t (0, 0))) (hc : cs = (vals.map (Value.int .i64)).toArray) : ∀ j (h : j < vals.length), w.cell? ⟨b, j, none⟩ = some (.int .i64 vals[j]) := by
  intro j hj
  rw [cell_of_row w b j _ _ _ h, hc]
  simp [hj]
/-- numbers, laid behind a fresh array -/
theorem put_nums {w wr : World} {oc : Array Value} {pw : Nat} {v : Value} {bs : List UInt8} {L : Nat} (h : PutMid w wr oc pw v bs L) (vals : List Int) (cs : Array Value) (n b : Nat) (hb : wr.heap.size = b) (hc : cs = (vals.map (Value.int .i64)).toArray) (hn : vals.length = n) (hL : L + 4 * n ≤ 1000000000) :
    Calls Try.prog 42 #[.pointer (some ⟨pw, 0, none⟩), .slice (some ⟨b, 0, none⟩) n n] (wr.alloc (.cells cs 3)) fun e w' => e = .returned (.tuple #[]) ∧ ∃ v', Wrote (wr.alloc (.cells cs 3)) w' pw v v' ∧ PutMid w w' oc pw v' (bs ++ vals.flatMap be4) (L + 4 * n) := by
  subst hb
  have hp := h.lt
  have hl := h.len
  have hpw := h.pw
  refine (numbers_any (w.heap.size + 1) pw wr.heap.size n n v bs vals _ (h.wr.alloc _) (by omega) hn (by omega) ?_ (by simp) (ints_at (heap_alloc_new wr _) hc) (by omega)).mono ?_
  · intro e
    have := (h.wr.row.lt wr.heap.size e.symm).2
    omega
  · rintro e w1 ⟨rfl, v1, hw, hat⟩
    refine ⟨rfl, v1, hw, (h.alloc _).wrote hw hat ?_⟩
    have := flatMap_len be4 vals 4 (fun x _ => by rw [be4_len]; omega)
    rw [List.length_append]
    omega
theorem put_text {w wr : World} {oc : Array Value} {pw : Nat} {v : Value} {bs : List UInt8} {L : Nat} (h : PutMid w wr oc pw v bs L) (s : ByteArray) (hL : L + 4 + s.size ≤ 1000000000) :
    Calls Try.prog 43 #[.pointer (some ⟨pw, 0, none⟩), .string s] wr fun e w' => e = .returned (.tuple #[]) ∧ ∃ v', Wrote wr w' pw v v' ∧ PutMid w w' oc pw v' (bs ++ be4 s.size ++ s.data.toList) (L + 4 + s.size) := by
  have hp := h.lt
  have hl := h.len
  have hpw := h.pw
  refine (wtext_any (w.heap.size + 1) pw v bs s wr h.wr (by omega) (by omega) (by omega)).mono ?_
  rintro e w1 ⟨rfl, v1, hw, hat⟩
  refine ⟨rfl, v1, hw, h.wrote hw hat ?_⟩
  simp only [List.length_append, be4_len, size_data]
  omega

section
variable (o : Ob.Obj) (pc pd ps pr : Option Addr) (n kn d kd m km r kr : Nat) (mx : Int) (w : World)
theorem omay_any (ho : ObjAt w pc pd ps pr n d m r o) (hmx : w.cell? ⟨0, 0, none⟩ = some (.int .i64 mx)) :
    Calls Try.prog 25 #[objV pc pd ps pr n kn d kd m km r kr] w fun e w' => e = .returned (.bool (mayB o)) ∧ Below w.heap.size w w' := by
  by_cases hf : few o
  · exact omay_few o pc pd ps pr n kn d kd m km r kr mx w ho hf hmx
  · rw [mayB_few hf]
    exact omay_many o pc pd ps pr n kn d kd m km r kr w ho hf

set_option maxRecDepth 100000 in
set_option maxHeartbeats 2000000 in
/-- an object that may not be -/
theorem oput_no (ho : ObjAt w pc pd ps pr n d m r o) (hmx : w.cell? ⟨0, 0, none⟩ = some (.int .i64 mx)) (hb : mayB o = false) :
    Calls Try.prog 23 #[objV pc pd ps pr n kn d kd m km r kr] w fun e w' => e = .returned (.tuple #[.slice none 0 0, .int .i64 2]) ∧ Below w.heap.size w w' := by
  have hb0 : Below w.heap.size w (w.alloc (.cells #[.slice pc n kn, .slice pd d kd, .slice ps m km, .slice pr r kr] 60)) := (Below.refl _ _).alloc (Nat.le_refl _) _
  have hlt := lt_of_cell hmx
  have H := Lib.hid (omay_any o pc pd ps pr n kn d kd m km r kr mx _ (ho.below hb0) ((hb0.cell (p := ⟨0, 0, none⟩) hlt).trans hmx))
  rw [hb] at H
  have HB0 := Lib.hid hb0
  clear hb hb0 ho hmx
  unfold objV at H ⊢
  go_enter Try.func23, Try.ntmps23
  go_wp2_with fail
  refine H.out.mono ?_
  rintro e w1 ⟨rfl, hb⟩
  have HB := Lib.hid hb
  clear hb
  go_wp2_with fail
  go_ret2
  exact ⟨rfl, HB0.out.trans (HB.out.mono HB0.out.size)⟩

set_option maxRecDepth 100000 in
set_option maxHeartbeats 8000000 in
theorem oput_yes (ho : ObjAt w pc pd ps pr n d m r o) (hmx : w.cell? ⟨0, 0, none⟩ = some (.int .i64 mx)) (hb : mayB o = true) :
    Calls Try.prog 23 #[objV pc pd ps pr n kn d kd m km r kr] w fun e w' => ∃ v, e = .returned (.tuple #[v, .int .i64 0]) ∧ Below w.heap.size w w' ∧ w'.ownsRow w.heap.size 5 1 v (putB o).length ((putB o).map u8V) := by
  have hfine := mayB_fine hb
  have hb0 : Below w.heap.size w (w.alloc (.cells #[.slice pc n kn, .slice pd d kd, .slice ps m km, .slice pr r kr] 60)) := (Below.refl _ _).alloc (Nat.le_refl _) _
  have hlt := lt_of_cell hmx
  have b1 : n ≤ 6000 := by have := ho.nl; have := hfine.few; unfold few at this; omega
  have b2 : d ≤ 16000 := by have := ho.dl; have := hfine.few; unfold few at this; omega
  have b3 : m ≤ 400 := by have := ho.ml; have := hfine.few; unfold few at this; omega
  have b4 : r ≤ 6000 := by have := ho.rl; have := hfine.few; unfold few at this; omega
  have H := Lib.hid (omay_any o pc pd ps pr n kn d kd m km r kr mx _ (ho.below hb0) ((hb0.cell (p := ⟨0, 0, none⟩) hlt).trans hmx))
  rw [hb] at H
  have HB0 := Lib.hid hb0
  have HO := Lib.hid ho
  have HF := Lib.hid hfine
  clear hb hb0 ho hmx hfine
  unfold objV at H ⊢
  go_enter Try.func23, Try.ntmps23
  go_wp2_with fail
  refine H.out.mono ?_
  rintro e w1 ⟨rfl, hb⟩
  have hbox := (hb.block w.heap.size (by simp)).trans (heap_alloc_new w _)
  obtain ⟨y0, y1, y2, y3, yz⟩ := blk4 hbox
  have hp1 : w.heap.size < w1.heap.size := lt_of_block hbox
  have hmid : PutMid w (w1.alloc (.cells #[.slice none 0 0] 103)) #[.slice pc n kn, .slice pd d kd, .slice ps m km, .slice pr r kr] w1.heap.size (.slice none 0 0) [] 0 := by
    refine ⟨(HB0.out.trans (hb.mono HB0.out.size)).alloc (by omega) _, (Below.heap_alloc _ _ _ hp1).trans hbox, ⟨heap_alloc_new w1 _, World.ownsRow_nil _ _ _ _⟩, hp1, Nat.le_refl _⟩
  have HMID := Lib.hid hmid
  clear hb hbox hmid
  go_wp2_with fail
  refine (put_nums HMID.out [(n : Int)] _ 1 _ (by simp) rfl rfl (by omega)).mono ?_
  rintro e wa ⟨rfl, va, hwa, hma⟩
  clear y0 y1 y2 y3 yz hwa HMID
  obtain ⟨y0, y1, y2, y3, yz⟩ := blk4 hma.box
  obtain ⟨pw, hpw⟩ : ∃ pw, pw = w1.heap.size := ⟨_, rfl⟩
  rw [← hpw] at hma ⊢
  have HMA := Lib.hid hma
  clear hma hpw H hp1
  go_wp2_with fail
  go_loopg [27] n (fun gk i wr => ∃ (k : Nat) (v : Value), k ≤ n ∧ gk = n - k ∧ i = .int .i64 k ∧ PutMid w wr #[.slice pc n kn, .slice pd d kd, .slice ps m km, .slice pr r kr] pw v (be4 n ++ (o.code.take k).flatMap be4) (4 + 4 * k))
  case atStart => exact ⟨0, _, by omega, rfl, rfl, HMA.out.as (by simp) (by omega)⟩
  case round =>
    obtain ⟨k, v1, hk, hgk, rfl, hmid⟩ := hrel
    have HG := Lib.hid hgk
    have hl0 := hmid.lt
    obtain ⟨y0, y1, y2, y3, yz⟩ := blk4 hmid.box
    have HM := Lib.hid hmid
    clear hgk hmid HMA
    by_cases hlt : k < n
    · obtain ⟨cc, cco, epc, hcc, hword⟩ := (HO.out.below HM.out.below).word hlt
      have hki : (k : Int) < n := by omega
      obtain ⟨x, hx⟩ : ∃ x, x = o.code.getD k 0 := ⟨_, rfl⟩
      have hx0 : 0 ≤ x ∧ x ≤ 4294967295 := by rw [hx]; exact HO.out.u32 k
      obtain ⟨hx1, hx2⟩ := hx0
      rw [← hx] at hword
      have HX := Lib.hid hx
      clear hx
      subst epc
      go_wp2_with fail
      refine (put_nums HM.out [x] _ 1 _ rfl rfl rfl (by omega)).mono ?_
      rintro e wb ⟨rfl, vb, hwb, hmb⟩
      have HMB := Lib.hid hmb
      clear hwb hmb y0 y1 y2 y3 yz hword
      go_wp2_with fail
      go_roundg (n - (k + 1))
      case measure => have := HG.out; omega
      case rel => exact ⟨k + 1, vb, hlt, rfl, by go_num, HMB.out.as (by
        have hkc : k < o.code.length := by rw [HO.out.nl]; exact hlt
        rw [flatMap_snoc be4 o.code k hkc, HX.out, List.append_assoc, List.flatMap_singleton, List.getD_eq_getElem?_getD, List.getElem?_eq_getElem hkc]
        simp) (by omega)⟩
    · obtain rfl : n = k := by omega
      have hma := HM.out.as (b2 := be4 n ++ o.code.flatMap be4) (by rw [List.take_of_length_le (by rw [HO.out.nl]; omega)]) (Nat.le_refl _)
      have HMZ := Lib.hid hma
      clear hma HM hlt HG hk
      go_wp2_with fail
      refine (put_nums HMZ.out [(d : Int)] _ 1 _ rfl rfl rfl (by omega)).mono ?_
      rintro e wa ⟨rfl, va, hwa, hma⟩
      clear y0 y1 y2 y3 yz hwa HMZ hl0
      obtain ⟨y0, y1, y2, y3, yz⟩ := blk4 hma.box
      have HMA : Hid (PutMid w wa #[.slice pc n kn, .slice pd d kd, .slice ps m km, .slice pr r kr] pw va (be4 n ++ o.code.flatMap be4 ++ be4 d) 30000) := hma.as (by simp) (by omega)
      clear hma
      go_wp2_with fail
      go_loopg [46] d (fun gk i wr => ∃ (k : Nat) (v : Value), k ≤ d ∧ gk = d - k ∧ i = .int .i64 k ∧ PutMid w wr #[.slice pc n kn, .slice pd d kd, .slice ps m km, .slice pr r kr] pw v (be4 n ++ o.code.flatMap be4 ++ be4 d ++ (o.data.take k).flatMap be4) (30000 + 4 * k))
      case atStart => exact ⟨0, _, by omega, rfl, rfl, HMA.out.as (by simp) (by omega)⟩
      case round =>
        obtain ⟨k, v1, hk, hgk, rfl, hmid⟩ := hrel
        have HG := Lib.hid hgk
        have hl0 := hmid.lt
        obtain ⟨y0, y1, y2, y3, yz⟩ := blk4 hmid.box
        have HM := Lib.hid hmid
        clear hgk hmid HMA
        by_cases hlt : k < d
        · obtain ⟨cc, cco, epc, hcc, hword⟩ := (HO.out.below HM.out.below).datum hlt
          have hki : (k : Int) < d := by omega
          obtain ⟨x, hx⟩ : ∃ x, x = o.data.getD k 0 := ⟨_, rfl⟩
          have hx0 : -2147483648 ≤ x ∧ x ≤ 2147483647 := by rw [hx]; exact HO.out.i32 k
          obtain ⟨hx1, hx2⟩ := hx0
          rw [← hx] at hword
          have HX := Lib.hid hx
          clear hx
          subst epc
          go_wp2_with fail
          refine (put_nums HM.out [x] _ 1 _ rfl rfl rfl (by omega)).mono ?_
          rintro e wb ⟨rfl, vb, hwb, hmb⟩
          have HMB := Lib.hid hmb
          clear hwb hmb y0 y1 y2 y3 yz hword
          go_wp2_with fail
          go_roundg (d - (k + 1))
          case measure => have := HG.out; omega
          case rel => exact ⟨k + 1, vb, hlt, rfl, by go_num, HMB.out.as (by
            have hkc : k < o.data.length := by rw [HO.out.dl]; exact hlt
            rw [flatMap_snoc be4 o.data k hkc, HX.out, List.append_assoc, List.flatMap_singleton, List.getD_eq_getElem?_getD, List.getElem?_eq_getElem hkc]
            simp) (by omega)⟩
        · obtain rfl : d = k := by omega
          have hma := HM.out.as (b2 := be4 n ++ o.code.flatMap be4 ++ be4 d ++ o.data.flatMap be4) (by rw [List.take_of_length_le (by rw [HO.out.dl]; omega)]) (Nat.le_refl _)
          have HMZ := Lib.hid hma
          clear hma HM hlt HG hk
          go_wp2_with fail
          refine (put_nums HMZ.out [(m : Int)] _ 1 _ rfl rfl rfl (by omega)).mono ?_
          rintro e wa ⟨rfl, va, hwa, hma⟩
          clear y0 y1 y2 y3 yz hwa HMZ hl0
          obtain ⟨y0, y1, y2, y3, yz⟩ := blk4 hma.box
          have HMA : Hid (PutMid w wa #[.slice pc n kn, .slice pd d kd, .slice ps m km, .slice pr r kr] pw va (be4 n ++ o.code.flatMap be4 ++ be4 d ++ o.data.flatMap be4 ++ be4 m) 100000) := hma.as (by simp) (by omega)
          clear hma
          go_wp2_with fail
          go_loopg [65] m (fun gk i wr => ∃ (k : Nat) (v : Value), k ≤ m ∧ gk = m - k ∧ i = .int .i64 k ∧ PutMid w wr #[.slice pc n kn, .slice pd d kd, .slice ps m km, .slice pr r kr] pw v (be4 n ++ o.code.flatMap be4 ++ be4 d ++ o.data.flatMap be4 ++ be4 m ++ (o.syms.take k).flatMap symBytes) (100000 + 2060 * k))
          case atStart => exact ⟨0, _, by omega, rfl, rfl, HMA.out.as (by simp) (by omega)⟩
          case round =>
            obtain ⟨k, v1, hk, hgk, rfl, hmid⟩ := hrel
            have HG := Lib.hid hgk
            have hl0 := hmid.lt
            obtain ⟨y0, y1, y2, y3, yz⟩ := blk4 hmid.box
            have HM := Lib.hid hmid
            clear hgk hmid HMA
            by_cases hlt : k < m
            · obtain ⟨c0, co, rfl, hc0, hk', hrange⟩ := (HO.out.below HM.out.below).sym hlt
              obtain ⟨s, hs⟩ : ∃ s, s = o.syms[k] := ⟨_, rfl⟩
              rw [← hs] at hrange
              have hin : SymIn s := by rw [hs]; exact HO.out.symIn _ (List.getElem_mem hk')
              have hfs : SymFine s := by rw [hs]; exact HF.out.syms _ (List.getElem_mem hk')
              obtain ⟨f1, f2, ⟨f3, f4⟩, ⟨f5, f6⟩, ⟨f7, f8⟩, ⟨f9, f10⟩⟩ := hfs
              have HRG := Lib.hid hrange
              have HS := Lib.hid hs
              clear hrange hs hin
              have hst : ∀ w : World, (storeCells ⟨w.heap.size, 0, none⟩ [.string s.name, .int .i64 s.kind, .bool s.static, .int .i64 s.pos, .int .i64 s.size, .string s.sign, .int .i64 s.frame] 0).run Try.prog (w.alloc (.cells #[.string ⟨#[]⟩, .int .i64 0, .bool false, .int .i64 0, .int .i64 0, .string ⟨#[]⟩, .int .i64 0] 106)) = .ok () (w.alloc (.cells #[.string s.name, .int .i64 s.kind, .bool s.static, .int .i64 s.pos, .int .i64 s.size, .string s.sign, .int .i64 s.frame] 106)) :=
                fun w => run_storeCells_new (P := Try.prog) w 106 #[.string ⟨#[]⟩, .int .i64 0, .bool false, .int .i64 0, .int .i64 0, .string ⟨#[]⟩, .int .i64 0] #[.string s.name, .int .i64 s.kind, .bool s.static, .int .i64 s.pos, .int .i64 s.size, .string s.sign, .int .i64 s.frame] (by kernel_rfl) rfl (by kernel_rfl)
              go_wp2_with (refine wpList_load_mid (by rfl) 106 (.tmp 67) (by rfl) c0 (co + k * 7) (by rfl) [.string s.name, .int .i64 s.kind, .bool s.static, .int .i64 s.pos, .int .i64 s.size, .string s.sign, .int .i64 s.frame] _ HRG.out Try.underlying106 (by rfl) (by kernel_rfl) ?_)
              obtain ⟨w2, hw2⟩ : ∃ w2, w2 = wr.alloc (.cells #[.string s.name, .int .i64 s.kind, .bool s.static, .int .i64 s.pos, .int .i64 s.size, .string s.sign, .int .i64 s.frame] 106) := ⟨_, rfl⟩
              have hmid2 : PutMid w w2 #[.slice pc n kn, .slice pd d kd, .slice (some ⟨c0, co, none⟩) m km, .slice pr r kr] pw v1 (be4 n ++ o.code.flatMap be4 ++ be4 d ++ o.data.flatMap be4 ++ be4 m ++ (o.syms.take k).flatMap symBytes) (100000 + 2060 * k) := by rw [hw2]; exact HM.out.alloc _
              have hblk : w2.heap[wr.heap.size]? = some (.cells #[.string s.name, .int .i64 s.kind, .bool s.static, .int .i64 s.pos, .int .i64 s.size, .string s.sign, .int .i64 s.frame] 106 (0, 0)) := by rw [hw2]; exact heap_alloc_new wr _
              rw [← hw2]
              clear hw2 hst y0 y1 y2 y3 yz
              obtain ⟨b6, hb6⟩ : ∃ b6, b6 = wr.heap.size := ⟨_, rfl⟩
              rw [← hb6] at hblk ⊢
              clear hb6 hl0 HM HRG
              have c6 := cell_of_row w2 b6 0 _ _ _ hblk
              have c61 := cell_of_row w2 b6 1 _ _ _ hblk
              have c62 := cell_of_row w2 b6 2 _ _ _ hblk
              have c63 := cell_of_row w2 b6 3 _ _ _ hblk
              have c64 := cell_of_row w2 b6 4 _ _ _ hblk
              have c65 := cell_of_row w2 b6 5 _ _ _ hblk
              have c66 := cell_of_row w2 b6 6 _ _ _ hblk
              simp only [List.getElem?_toArray, List.getElem?_cons_zero, List.getElem?_cons_succ] at c6 c61 c62 c63 c64 c65 c66
              have HM2 := Lib.hid hmid2
              have HB2 := Lib.hid hblk
              clear hmid2 hblk
              go_wp2_with fail
              refine (put_text HM2.out s.name (by omega)).mono ?_
              rintro e w3 ⟨rfl, v3, hw3, hmid3⟩
              have hblk := hw3.keep HM2.out.wr HB2.out (by decide) (by decide)
              clear c6 c61 c62 c63 c64 c65 c66 hw3 HM2 HB2
              have c6 := cell_of_row w3 b6 0 _ _ _ hblk
              have c61 := cell_of_row w3 b6 1 _ _ _ hblk
              have c62 := cell_of_row w3 b6 2 _ _ _ hblk
              have c63 := cell_of_row w3 b6 3 _ _ _ hblk
              have c64 := cell_of_row w3 b6 4 _ _ _ hblk
              have c65 := cell_of_row w3 b6 5 _ _ _ hblk
              have c66 := cell_of_row w3 b6 6 _ _ _ hblk
              simp only [List.getElem?_toArray, List.getElem?_cons_zero, List.getElem?_cons_succ] at c6 c61 c62 c63 c64 c65 c66
              have hf0 : 0 ≤ flagI s.static ∧ flagI s.static ≤ 1 := by unfold flagI; split <;> omega
              have HM3 := Lib.hid hmid3
              have HB3 := Lib.hid hblk
              clear hmid3 hblk
              go_wp2_with fail
              go_region_held3 (fun w' => w'.cell? ⟨b6, 1, none⟩ = some (.int .i64 s.kind) ∧ w'.cell? ⟨b6, 2, none⟩ = some (.bool s.static) ∧ w'.cell? ⟨b6, 3, none⟩ = some (.int .i64 s.pos) ∧ w'.cell? ⟨b6, 4, none⟩ = some (.int .i64 s.size)) (go_keep) (first | (go_at_call 44; refine (flag_any _ _).mono ?_; rintro e w' ⟨rfl, rfl⟩) | (go_at_call 42; refine (put_nums (HM3.out.drewN 1) [s.kind, flagI s.static, s.pos, s.size] _ 4 _ rfl rfl rfl (by omega)).mono ?_; rintro e w4 ⟨rfl, v4, hw4, hmid4⟩; have hblk := hw4.keep ((HM3.out.drewN 1).alloc _).wr ((Below.heap_alloc _ _ _ (lt_of_block HB3.out)).trans HB3.out) (by decide) (by decide); have d6 := cell_of_row w4 b6 0 _ _ _ hblk; have d61 := cell_of_row w4 b6 1 _ _ _ hblk; have d62 := cell_of_row w4 b6 2 _ _ _ hblk; have d63 := cell_of_row w4 b6 3 _ _ _ hblk; have d64 := cell_of_row w4 b6 4 _ _ _ hblk; have d65 := cell_of_row w4 b6 5 _ _ _ hblk; have d66 := cell_of_row w4 b6 6 _ _ _ hblk; simp only [List.getElem?_toArray, List.getElem?_cons_zero, List.getElem?_cons_succ] at d6 d61 d62 d63 d64 d65 d66; have HM4 := Lib.hid hmid4; have HB4 := Lib.hid hblk; clear hmid4 hblk hw4))
              clear c6 c61 c62 c63 c64 c65 c66 HM3 HB3
              go_wp2_with fail
              refine (put_text HM4.out s.sign (by omega)).mono ?_
              rintro e w5 ⟨rfl, v5, hw5, hmid5⟩
              have hblk := hw5.keep HM4.out.wr HB4.out (by decide) (by decide)
              clear d6 d61 d62 d63 d64 d65 d66 hw5 HM4 HB4
              have c6 := cell_of_row w5 b6 0 _ _ _ hblk
              have c61 := cell_of_row w5 b6 1 _ _ _ hblk
              have c62 := cell_of_row w5 b6 2 _ _ _ hblk
              have c63 := cell_of_row w5 b6 3 _ _ _ hblk
              have c64 := cell_of_row w5 b6 4 _ _ _ hblk
              have c65 := cell_of_row w5 b6 5 _ _ _ hblk
              have c66 := cell_of_row w5 b6 6 _ _ _ hblk
              simp only [List.getElem?_toArray, List.getElem?_cons_zero, List.getElem?_cons_succ] at c6 c61 c62 c63 c64 c65 c66
              have HM5 := Lib.hid hmid5
              clear hmid5 hblk
              go_wp2_with fail
              refine (put_nums HM5.out [s.frame] _ 1 _ rfl rfl rfl (by omega)).mono ?_
              rintro e w6 ⟨rfl, v6, hw6, hmid6⟩
              have HM6 := Lib.hid hmid6
              clear hw6 hmid6 HM5 c6 c61 c62 c63 c64 c65 c66
              go_wp2_with fail
              go_roundg (m - (k + 1))
              case measure => have := HG.out; omega
              case rel => exact ⟨k + 1, v6, hlt, rfl, by go_num, HM6.out.as (by
                rw [flatMap_snoc symBytes o.syms k hk', ← HS.out]
                unfold symBytes
                simp) (by omega)⟩
            · obtain rfl : m = k := by omega
              have hma := HM.out.as (b2 := be4 n ++ o.code.flatMap be4 ++ be4 d ++ o.data.flatMap be4 ++ be4 m ++ o.syms.flatMap symBytes) (by rw [List.take_of_length_le (by rw [HO.out.ml]; omega)]) (Nat.le_refl _)
              have HMZ := Lib.hid hma
              clear hma HM hlt HG hk
              go_wp2_with fail
              refine (put_nums HMZ.out [(r : Int)] _ 1 _ rfl rfl rfl (by omega)).mono ?_
              rintro e wa ⟨rfl, va, hwa, hma⟩
              clear y0 y1 y2 y3 yz hwa HMZ hl0
              obtain ⟨y0, y1, y2, y3, yz⟩ := blk4 hma.box
              have HMA : Hid (PutMid w wa #[.slice pc n kn, .slice pd d kd, .slice ps m km, .slice pr r kr] pw va (be4 n ++ o.code.flatMap be4 ++ be4 d ++ o.data.flatMap be4 ++ be4 m ++ o.syms.flatMap symBytes ++ be4 r) 1000000) := hma.as (by simp) (by omega)
              clear hma
              go_wp2_with fail
              go_loopg [104] r (fun gk i wr => ∃ (k : Nat) (v : Value), k ≤ r ∧ gk = r - k ∧ i = .int .i64 k ∧ PutMid w wr #[.slice pc n kn, .slice pd d kd, .slice ps m km, .slice pr r kr] pw v (be4 n ++ o.code.flatMap be4 ++ be4 d ++ o.data.flatMap be4 ++ be4 m ++ o.syms.flatMap symBytes ++ be4 r ++ (o.rels.take k).flatMap relBytes) (1000000 + 12 * k))
              case atStart => exact ⟨0, _, by omega, rfl, rfl, HMA.out.as (by simp) (by omega)⟩
              case round =>
                obtain ⟨k, v1, hk, hgk, rfl, hmid⟩ := hrel
                have HG := Lib.hid hgk
                have hl0 := hmid.lt
                obtain ⟨y0, y1, y2, y3, yz⟩ := blk4 hmid.box
                have HM := Lib.hid hmid
                clear hgk hmid HMA
                by_cases hlt : k < r
                · obtain ⟨c0, co, rfl, hc0, hk', hrange⟩ := (HO.out.below HM.out.below).rel hlt
                  obtain ⟨x, hx⟩ : ∃ x, x = o.rels[k] := ⟨_, rfl⟩
                  rw [← hx] at hrange
                  have hfx : RelFine x := by rw [hx]; exact HF.out.rels _ (List.getElem_mem hk')
                  obtain ⟨⟨f1, f2⟩, ⟨f3, f4⟩, ⟨f5, f6⟩⟩ := hfx
                  have HRG := Lib.hid hrange
                  have HX := Lib.hid hx
                  clear hrange hx
                  have hst : ∀ w : World, (storeCells ⟨w.heap.size, 0, none⟩ [.int .i64 x.pos, .int .i64 x.sym, .int .i64 x.add] 0).run Try.prog (w.alloc (.cells #[.int .i64 0, .int .i64 0, .int .i64 0] 110)) = .ok () (w.alloc (.cells #[.int .i64 x.pos, .int .i64 x.sym, .int .i64 x.add] 110)) :=
                    fun w => run_storeCells_new (P := Try.prog) w 110 #[.int .i64 0, .int .i64 0, .int .i64 0] #[.int .i64 x.pos, .int .i64 x.sym, .int .i64 x.add] (by kernel_rfl) rfl (by kernel_rfl)
                  go_upto_region 29 with (refine wpList_load_mid (by rfl) 110 (.tmp 106) (by rfl) c0 (co + k * 3) (by rfl) [.int .i64 x.pos, .int .i64 x.sym, .int .i64 x.add] _ HRG.out Try.underlying110 (by rfl) (by kernel_rfl) ?_)
                  obtain ⟨w2, hw2⟩ : ∃ w2, w2 = wr.alloc (.cells #[.int .i64 x.pos, .int .i64 x.sym, .int .i64 x.add] 110) := ⟨_, rfl⟩
                  have hmid2 : PutMid w w2 #[.slice pc n kn, .slice pd d kd, .slice ps m km, .slice (some ⟨c0, co, none⟩) r kr] pw v1 (be4 n ++ o.code.flatMap be4 ++ be4 d ++ o.data.flatMap be4 ++ be4 m ++ o.syms.flatMap symBytes ++ be4 r ++ (o.rels.take k).flatMap relBytes) (1000000 + 12 * k) := by rw [hw2]; exact HM.out.alloc _
                  have hblk : w2.heap[wr.heap.size]? = some (.cells #[.int .i64 x.pos, .int .i64 x.sym, .int .i64 x.add] 110 (0, 0)) := by rw [hw2]; exact heap_alloc_new wr _
                  rw [← hw2]
                  clear hw2 hst y0 y1 y2 y3 yz
                  obtain ⟨b9, hb9⟩ : ∃ b9, b9 = wr.heap.size := ⟨_, rfl⟩
                  rw [← hb9] at hblk ⊢
                  clear hb9 hl0 HM HRG
                  have c9 := cell_of_row w2 b9 0 _ _ _ hblk
                  have c91 := cell_of_row w2 b9 1 _ _ _ hblk
                  have c92 := cell_of_row w2 b9 2 _ _ _ hblk
                  simp only [List.getElem?_toArray, List.getElem?_cons_zero, List.getElem?_cons_succ] at c9 c91 c92
                  have HM2 := Lib.hid hmid2
                  clear hmid2 hblk
                  go_wp2_with fail
                  refine (put_nums HM2.out [x.pos, x.sym, x.add] _ 3 _ rfl rfl rfl (by omega)).mono ?_
                  rintro e w3 ⟨rfl, v3, hw3, hmid3⟩
                  have HM3 := Lib.hid hmid3
                  clear hw3 hmid3 HM2 c9 c91 c92
                  go_wp2_with fail
                  go_roundg (r - (k + 1))
                  case measure => have := HG.out; omega
                  case rel => exact ⟨k + 1, v3, hlt, rfl, by go_num, HM3.out.as (by
                    rw [flatMap_snoc relBytes o.rels k hk', ← HX.out]
                    unfold relBytes
                    simp) (by omega)⟩
                · obtain rfl : r = k := by omega
                  have hma := HM.out.as (b2 := putB o) (by
                    unfold putB
                    rw [List.take_of_length_le (by rw [HO.out.rl]; omega), HO.out.nl, HO.out.dl, HO.out.ml, HO.out.rl]) (Nat.le_refl _)
                  have hv1 := cell_of_row wr pw 0 _ _ _ hma.wr.box
                  simp only [List.getElem?_toArray, List.getElem?_cons_zero] at hv1
                  have HMZ := Lib.hid hma
                  clear hma HM hlt HG hk
                  go_wp2_with fail
                  go_ret2
                  exact ⟨_, rfl, HMZ.out.below, HMZ.out.wr.row.1, HMZ.out.wr.row.2.imp id (fun ⟨g, cap, cur, h1, h2, h3⟩ => ⟨g, cap, cur, h1, by omega, h3⟩)⟩
end

end Go.Proofs.Ythnehhidlaggeaa
