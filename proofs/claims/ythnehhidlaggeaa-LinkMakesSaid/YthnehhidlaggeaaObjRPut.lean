/- scarfjointref17.Put: the walk. -/
import Derived.Test.YthnehhidlaggeaaObjRMay
import Derived.Test.YthnehhidlaggeaaObjPut
import Derived.Test.YthnehhidlaggeaaObjRNum
import Derived.Deep.RegionHeld3
import Derived.Lib.ConvBytes
namespace Go.Proofs.Ythnehhidlaggeaa
set_option linter.unusedVariables false
set_option linter.unusedSimpArgs false
open Go.RowKit Ob

theorem below_grown {w w2 : World} (hb : Below w.heap.size w w2) (row : Option Nat) : w.grownBy w2 row := ⟨hb.os, hb.tape, hb.output, hb.size, fun k hk _ => hb.block k hk⟩
theorem own_below {w w2 : World} {B : Nat} {v : Value} {n : Nat} {xs : List Value} (h : w.ownsRow B 5 1 v n xs) (hb : Below w.heap.size w w2) : w2.ownsRow B 5 1 v n xs := h.kept (below_grown hb none) (by cases hv : v.ownBlock <;> simp)
/-- in the midst of the reference's Put -/
structure RMid (w wr : World) (oc : Array Value) : Prop where
  below : Below w.heap.size w wr
  box : wr.heap[w.heap.size]? = some (.cells oc 60 (0, 0))
theorem RMid.go {w wr w2 : World} {oc : Array Value} (h : RMid w wr oc) (hb : Below wr.heap.size wr w2) : RMid w w2 oc :=
  ⟨h.below.trans (hb.mono h.below.size), (hb.block _ (lt_of_block h.box)).trans h.box⟩
theorem RMid.grown {w wr w2 : World} {oc : Array Value} {row : Option Nat} (h : RMid w wr oc) (hg : wr.grownBy w2 row) (hr : ∀ k, row = some k → w.heap.size + 1 ≤ k) : RMid w w2 oc := by
  refine ⟨h.below.grown hg h.below.size (fun k hk => by have := hr k hk; omega), (hg.block _ (lt_of_block h.box) (fun e => by have := hr _ e.symm; omega)).trans h.box⟩
/-- a row that is ready -/
structure Done (wr : World) (B : Nat) (v : Value) (l : List UInt8) : Prop where
  row : wr.ownsRow 0 5 1 v l.length (l.map u8V)
  lt : ∀ k, v.ownBlock = some k → k < B
theorem Done.go {wr w2 : World} {B : Nat} {v : Value} {l : List UInt8} (h : Done wr B v l) (hb : Below wr.heap.size wr w2) : Done w2 B v l := ⟨own_below h.row hb, h.lt⟩
theorem Done.grown {wr w2 : World} {B : Nat} {v : Value} {l : List UInt8} {row : Option Nat} (h : Done wr B v l) (hg : wr.grownBy w2 row) (hr : ∀ k, row = some k → B ≤ k) : Done w2 B v l :=
  ⟨h.row.kept hg (by
    rcases e : v.ownBlock with _ | k
    · exact .inl rfl
    · refine .inr fun e2 => ?_
      have h1 := h.lt k e
      have h2 := hr k e2.symm
      omega), h.lt⟩
theorem Done.of {wr : World} {B C : Nat} {v : Value} {l : List UInt8} (h : wr.ownsRow B 5 1 v l.length (l.map u8V)) (hC : wr.heap.size ≤ C) : Done wr C v l :=
  ⟨⟨h.1, h.2.imp id fun ⟨g, cap, cur, h1, h2, h3⟩ => ⟨g, cap, cur, h1, Nat.zero_le _, h3⟩⟩, fun k hk => by have := (h.lt k hk).2; omega⟩
/-- bytes that lie in memory -/
def BytesIn (w : World) (v : Value) (l : List UInt8) : Prop :=
  ∃ n cap a, v = .slice a n cap ∧ l.length = n ∧ ((n = 0 ∧ a = none) ∨ ∃ b off, a = some ⟨b, off, none⟩ ∧ b < w.heap.size ∧ ∀ i (h : i < l.length), w.cell? ⟨b, off + i, none⟩ = some (u8V l[i]))
theorem BytesIn.below {w w2 : World} {v : Value} {l : List UInt8} (h : BytesIn w v l) (hb : Below w.heap.size w w2) : BytesIn w2 v l := by
  obtain ⟨n, cap, a, rfl, hl, h⟩ := h
  refine ⟨n, cap, a, rfl, hl, h.imp id ?_⟩
  rintro ⟨b, off, rfl, hlt, hc⟩
  exact ⟨b, off, rfl, Nat.lt_of_lt_of_le hlt hb.size, fun i hi => (hb.cell (p := ⟨b, off + i, none⟩) hlt).trans (hc i hi)⟩
theorem BytesIn.run {w : World} {v : Value} {l : List UInt8} (h : BytesIn w v l) : (convert 61 9 v).run Try.prog w = .ok (.string (str l)) w := by
  obtain ⟨n, cap, a, rfl, hl, ⟨rfl, rfl⟩ | ⟨b, off, rfl, hlt, hc⟩⟩ := h
  · have : l = [] := List.eq_nil_of_length_eq_zero hl
    subst this
    exact run_convert_bytes_nil w _ _ Try.underlying61 Try.underlying5 0 cap _ Try.underlying9
  · exact run_str hl hc
theorem BytesIn.own {w : World} {B : Nat} {v : Value} {l : List UInt8} (h : w.ownsRow B 5 1 v l.length (l.map u8V)) : BytesIn w v l := by
  have hc := fun g => h.cells (g := g)
  have hlt := h.lt
  rcases h.2 with ⟨rfl, h0⟩ | ⟨g, cap, cur, rfl, _⟩
  · exact ⟨0, 0, none, rfl, h0, .inl ⟨rfl, rfl⟩⟩
  · refine ⟨_, cap, _, rfl, rfl, .inr ⟨g, 0, rfl, (hlt g rfl).2, fun i hi => ?_⟩⟩
    have := hc g rfl i (u8V l[i]) (by simp [hi])
    rw [Nat.zero_add]
    rwa [add_at] at this
theorem bytesWorld_below (w : World) (s : ByteArray) {B : Nat} (hB : B ≤ w.heap.size) : Below B w (Lib.bytesWorld w 5 s) :=
  ⟨rfl, rfl, rfl, by rw [Lib.bytesWorld_size]; omega, fun k hk => Lib.bytesWorld_at_old _ _ _ k (by omega)⟩
theorem bytesIn_new (w : World) (l : List UInt8) : BytesIn (Lib.bytesWorld w 5 (str l)) (.slice (some ⟨w.heap.size, 0, none⟩) (str l).size (grownCap w (str l).size 0 5)) l := by
  refine ⟨_, _, _, rfl, (str_size l).symm, .inr ⟨_, 0, rfl, by rw [Lib.bytesWorld_size]; omega, fun i hi => ?_⟩⟩
  rw [Nat.zero_add, Lib.bytesWorld_cell _ _ _ i (by rw [str_size]; exact hi), str_list, u8V, List.getD_eq_getElem?_getD, List.getElem?_eq_getElem hi]
  rfl
theorem free_be4 (x : Int) : be4 (Wd.free x) = be4 x := by
  unfold Wd.free
  split
  · exact be4_free x
  · rfl
theorem counted_str (n : Nat) (l : List UInt8) (w : World) (h1 : n ≤ 4294967295) (hl : l.length ≤ 1000000000) :
    Calls Try.prog 47 #[.int .i64 n, .string (str l)] w fun e w' => e = .returned (.string (str (be4 n ++ l))) ∧ Below w.heap.size w w' := counted_any n (str l) w h1 (by rw [str_size]; exact hl)

section
variable (o : Ob.Obj) (pc pd ps pr : Option Addr) (n kn d kd m km r kr : Nat) (w : World)
theorem rmayo_any (ho : ObjAt w pc pd ps pr n d m r o) :
    Calls Try.prog 26 #[objV pc pd ps pr n kn d kd m km r kr] w fun e w' => e = .returned (.bool (mayB o)) ∧ Below w.heap.size w w' := by
  by_cases hf : few o
  · exact rmayo_few o pc pd ps pr n kn d kd m km r kr w ho hf
  · rw [mayB_few hf]
    exact rmayo_many o pc pd ps pr n kn d kd m km r kr w ho hf

set_option maxRecDepth 100000 in
set_option maxHeartbeats 2000000 in
/-- an object that may not be -/
theorem roput_no (ho : ObjAt w pc pd ps pr n d m r o) (hb : mayB o = false) :
    Calls Try.prog 24 #[objV pc pd ps pr n kn d kd m km r kr] w fun e w' => e = .returned (.tuple #[.slice none 0 0, .int .i64 2]) ∧ Below w.heap.size w w' := by
  have hb0 : Below w.heap.size w (w.alloc (.cells #[.slice pc n kn, .slice pd d kd, .slice ps m km, .slice pr r kr] 60)) := (Below.refl _ _).alloc (Nat.le_refl _) _
  have H := Lib.hid (rmayo_any o pc pd ps pr n kn d kd m km r kr _ (ho.below hb0))
  rw [hb] at H
  have HB0 := Lib.hid hb0
  clear hb hb0 ho
  unfold objV at H ⊢
  go_enter Try.func24, Try.ntmps24
  go_wp2_with fail
  refine H.out.mono ?_
  rintro e w1 ⟨rfl, hb⟩
  have HB := Lib.hid hb
  clear hb
  go_wp2_with fail
  go_ret2
  exact ⟨rfl, HB0.out.trans (HB.out.mono HB0.out.size)⟩

set_option maxRecDepth 100000 in
set_option maxHeartbeats 8000000 in
theorem roput_yes (ho : ObjAt w pc pd ps pr n d m r o) (hb : mayB o = true) :
    Calls Try.prog 24 #[objV pc pd ps pr n kn d kd m km r kr] w fun e w' => ∃ v, e = .returned (.tuple #[v, .int .i64 0]) ∧ Below w.heap.size w w' ∧ BytesIn w' v (putB o) := by
  have hfine := mayB_fine hb
  have hb0 : Below w.heap.size w (w.alloc (.cells #[.slice pc n kn, .slice pd d kd, .slice ps m km, .slice pr r kr] 60)) := (Below.refl _ _).alloc (Nat.le_refl _) _
  have b1 : n ≤ 6000 := by have := ho.nl; have := hfine.few; unfold few at this; omega
  have b2 : d ≤ 16000 := by have := ho.dl; have := hfine.few; unfold few at this; omega
  have b3 : m ≤ 400 := by have := ho.ml; have := hfine.few; unfold few at this; omega
  have b4 : r ≤ 6000 := by have := ho.rl; have := hfine.few; unfold few at this; omega
  have H := Lib.hid (rmayo_any o pc pd ps pr n kn d kd m km r kr _ (ho.below hb0))
  rw [hb] at H
  have HB0 := Lib.hid hb0
  have HO := Lib.hid ho
  have HF := Lib.hid hfine
  obtain ⟨i0, hi0, hz0, hz1', hz2⟩ := info_parts Try.infoU8
  clear hb hb0 ho hfine
  unfold objV at H ⊢
  go_enter Try.func24, Try.ntmps24
  go_wp2_with fail
  refine H.out.mono ?_
  rintro e w1 ⟨rfl, hb⟩
  have hbox := (hb.block w.heap.size (by simp)).trans (heap_alloc_new w _)
  obtain ⟨y0, y1, y2, y3, yz⟩ := blk4 hbox
  have hp1 : w.heap.size < w1.heap.size := lt_of_block hbox
  have hmid : RMid w (w1.alloc (.cells #[] 5)) #[.slice pc n kn, .slice pd d kd, .slice ps m km, .slice pr r kr] :=
    ⟨(HB0.out.trans (hb.mono HB0.out.size)).alloc (by omega) _, (Below.heap_alloc _ _ _ hp1).trans hbox⟩
  have hrow : (w1.alloc (.cells #[] 5)).ownsRow (w.heap.size + 1) 5 1 (.slice (some ⟨w1.heap.size, 0, none⟩) 0 0) 0 [] := World.ownsRow_made w1 #[] 0 (by omega) (by unfold maxLen; omega) rfl
  have HMA := Lib.hid hmid
  have HRA := Lib.hid hrow
  clear hb hbox hmid hrow
  go_wp2_with fail
  go_loopg [4, 5] n (fun gk v i wr => ∃ k : Nat, k ≤ n ∧ gk = n - k ∧ i = .int .i64 k ∧ RMid w wr #[.slice pc n kn, .slice pd d kd, .slice ps m km, .slice pr r kr] ∧ (w.heap.size + 1) ≤ wr.heap.size ∧ wr.ownsRow (w.heap.size + 1) 5 1 v ((o.code.take k).flatMap be4).length (((o.code.take k).flatMap be4).map u8V))
  case atStart => exact ⟨0, by omega, rfl, rfl, HMA.out, by have := lt_of_block HMA.out.box; first | omega | (simp; omega), HRA.out⟩
  case round =>
    obtain ⟨k, hk, hgk, rfl, hmid, hB, hrow⟩ := hrel
    have HG := Lib.hid hgk
    have hl0 := lt_of_block hmid.box
    obtain ⟨y0, y1, y2, y3, yz⟩ := blk4 hmid.box
    have HM := Lib.hid hmid
    have HRW := Lib.hid hrow
    clear hgk hmid hrow HMA HRA
    by_cases hlt : k < n
    · obtain ⟨cc, cco, epc, hcc, hword⟩ := (HO.out.below HM.out.below).word hlt
      have hki : (k : Int) < n := by omega
      obtain ⟨x, hx⟩ : ∃ x, x = o.code.getD k 0 := ⟨_, rfl⟩
      have hx0 : 0 ≤ x ∧ x ≤ 4294967295 := by rw [hx]; exact HO.out.u32 k
      obtain ⟨hx1, hx2⟩ := hx0
      rw [← hx] at hword
      have HX := Lib.hid hx
      clear hx
      subst epc
      have hl1 : ((o.code.take k).flatMap be4).length ≤ 4 * k := by
        have := flat_len be4 o.code 4 k (fun x _ => by rw [be4_len]; omega)
        omega
      obtain ⟨bk, hbk⟩ : ∃ bk, bk = (o.code.take k).flatMap be4 := ⟨_, rfl⟩
      rw [← hbk] at hl1 HRW
      have HBK := Lib.hid hbk
      clear hbk
      go_wp2_with fail
      refine (four_any x _ hx1 hx2).mono ?_
      rintro e w3 ⟨rfl, hb3⟩
      have HB3 := Lib.hid hb3
      have HR := Lib.hid (own_below HRW.out hb3)
      have hl3 := hb3.size
      clear hb3 HRW y0 y1 y2 y3 yz hword
      go_wp2_with (at_builtin; refine wpList_append_own_src (by rfl) (.tmp 28) (.tmp 35) 61 9 (by rfl) (w.heap.size + 1) 5 i0 _ 1 1 Try.underlying61 hi0 hz0 hz1' hz2 (by rfl) (by decide) _ _ _ (by rfl) HR.out (.string (str (be4 x))) 4 ((be4 x).map u8V) (by rfl) (Src.ofString _ Try.underlying9 (str (be4 x))) (by unfold maxLen; omega) (by omega) (by omega) ?_; intro v' w4 hown hgr hor; have HOW := Lib.hid hown; have HGR := Lib.hid hgr; clear hown hgr hor)
      go_roundg (n - (k + 1))
      case measure => have := HG.out; omega
      case rel =>
        have hkc : k < o.code.length := by rw [HO.out.nl]; exact hlt
        have hnx : (o.code.take (k + 1)).flatMap be4 = bk ++ (be4 x) := by
          rw [flatMap_snoc be4 o.code k hkc, ← HBK.out, HX.out, List.getD_eq_getElem?_getD, List.getElem?_eq_getElem hkc]
          rfl
        refine ⟨k + 1, hlt, rfl, by go_num, (HM.out.go HB3.out).grown HGR.out (fun j hj => by have := (HR.out.lt j hj).1; omega), by have := HGR.out.size; omega, ?_⟩
        rw [hnx, List.length_append, List.map_append]
        exact HOW.out
    · obtain rfl : n = k := by omega
      have hfull := HRW.out
      rw [List.take_of_length_le (by rw [HO.out.nl]; omega)] at hfull
      have HFULL := Lib.hid hfull
      clear hfull hlt HG hk
      obtain ⟨B2, hB2⟩ : ∃ B2, B2 = wr.heap.size := ⟨_, rfl⟩
      have hba : Below wr.heap.size wr (wr.alloc (.cells #[] 5)) := (Below.refl _ _).alloc (Nat.le_refl _) _
      have hBle : B2 ≤ (wr.alloc (.cells #[] 5)).heap.size := by rw [hB2]; simp
      have hBg : w.heap.size + 1 ≤ B2 := by omega
      have HMA := Lib.hid (HM.out.go hba)
      have HRA : Hid ((wr.alloc (.cells #[] 5)).ownsRow B2 5 1 (.slice (some ⟨wr.heap.size, 0, none⟩) 0 0) 0 []) := World.ownsRow_made wr #[] 0 (by omega) (by unfold maxLen; omega) rfl
      have HD0 : Hid (Done (wr.alloc (.cells #[] 5)) B2 u4 (o.code.flatMap be4)) := (Done.of HFULL.out (by omega)).go hba
      clear hba hB2 HM HFULL hB
      go_wp2_with fail
      go_loopg [6, 7] d (fun gk v i wr => ∃ k : Nat, k ≤ d ∧ gk = d - k ∧ i = .int .i64 k ∧ RMid w wr #[.slice pc n kn, .slice pd d kd, .slice ps m km, .slice pr r kr] ∧ B2 ≤ wr.heap.size ∧ wr.ownsRow B2 5 1 v ((o.data.take k).flatMap be4).length (((o.data.take k).flatMap be4).map u8V) ∧ Done wr B2 u4 (o.code.flatMap be4))
      case atStart => exact ⟨0, by omega, rfl, rfl, HMA.out, by have := lt_of_block HMA.out.box; first | omega | (simp; omega), HRA.out, HD0.out⟩
      case round =>
        obtain ⟨k, hk, hgk, rfl, hmid, hB, hrow, hd0⟩ := hrel
        have HG := Lib.hid hgk
        have hl0 := lt_of_block hmid.box
        obtain ⟨y0, y1, y2, y3, yz⟩ := blk4 hmid.box
        have HM := Lib.hid hmid
        have HRW := Lib.hid hrow
        have HE0 := Lib.hid hd0
        clear hgk hmid hrow HMA HRA hd0 HD0
        by_cases hlt : k < d
        · obtain ⟨cc, cco, epc, hcc, hword⟩ := (HO.out.below HM.out.below).datum hlt
          have hki : (k : Int) < d := by omega
          obtain ⟨x, hx⟩ : ∃ x, x = o.data.getD k 0 := ⟨_, rfl⟩
          have hx0 : -2147483648 ≤ x ∧ x ≤ 2147483647 := by rw [hx]; exact HO.out.i32 k
          obtain ⟨hx1, hx2⟩ := hx0
          rw [← hx] at hword
          have HX := Lib.hid hx
          clear hx
          subst epc
          have hl1 : ((o.data.take k).flatMap be4).length ≤ 4 * k := by
            have := flat_len be4 o.data 4 k (fun x _ => by rw [be4_len]; omega)
            omega
          obtain ⟨bk, hbk⟩ : ∃ bk, bk = (o.data.take k).flatMap be4 := ⟨_, rfl⟩
          rw [← hbk] at hl1 HRW
          have HBK := Lib.hid hbk
          clear hbk
          go_wp2_with fail
          refine (free_any x _ hx1 hx2).mono ?_
          rintro e w' ⟨rfl, rfl⟩
          have hfr := Wd.free_bd x hx1 hx2
          go_wp2_with fail
          refine (four_any _ _ hfr.1 hfr.2).mono ?_
          rintro e w3 ⟨rfl, hb3⟩
          have HB3 := Lib.hid hb3
          have HR := Lib.hid (own_below HRW.out hb3)
          have hl3 := hb3.size
          clear hb3 HRW y0 y1 y2 y3 yz hword
          go_wp2_with (at_builtin; refine wpList_append_own_src (by rfl) (.tmp 51) (.tmp 53) 61 9 (by rfl) B2 5 i0 _ 1 1 Try.underlying61 hi0 hz0 hz1' hz2 (by rfl) (by decide) _ _ _ (by rfl) HR.out (.string (str (be4 (Wd.free x)))) 4 ((be4 (Wd.free x)).map u8V) (by rfl) (Src.ofString _ Try.underlying9 (str (be4 (Wd.free x)))) (by unfold maxLen; omega) (by omega) (by omega) ?_; intro v' w4 hown hgr hor; have HOW := Lib.hid hown; have HGR := Lib.hid hgr; clear hown hgr hor)
          go_roundg (d - (k + 1))
          case measure => have := HG.out; omega
          case rel =>
            have hkc : k < o.data.length := by rw [HO.out.dl]; exact hlt
            have hnx : (o.data.take (k + 1)).flatMap be4 = bk ++ (be4 (Wd.free x)) := by
              rw [flatMap_snoc be4 o.data k hkc, ← HBK.out, HX.out, List.getD_eq_getElem?_getD, List.getElem?_eq_getElem hkc]
              simp [free_be4]
            refine ⟨k + 1, hlt, rfl, by go_num, (HM.out.go HB3.out).grown HGR.out (fun j hj => by have := (HR.out.lt j hj).1; omega), by have := HGR.out.size; omega, ?_, (HE0.out.go HB3.out).grown HGR.out (fun j hj => (HR.out.lt j hj).1)⟩
            rw [hnx, List.length_append, List.map_append]
            exact HOW.out
        · obtain rfl : d = k := by omega
          have hfull := HRW.out
          rw [List.take_of_length_le (by rw [HO.out.dl]; omega)] at hfull
          have HFULL := Lib.hid hfull
          clear hfull hlt HG hk
          have hd6 := Done.of HFULL.out (Nat.le_refl wr.heap.size)
          have hd4 := HE0.out
          obtain ⟨B3, hB3⟩ : ∃ B3, B3 = wr.heap.size := ⟨_, rfl⟩
          rw [← hB3] at hd6
          have HD4 : Hid (Done wr B3 u4 (o.code.flatMap be4)) := ⟨hd4.row, fun k hk => by have := hd4.lt k hk; omega⟩
          have HD6 := Lib.hid hd6
          have HMA := Lib.hid HM.out
          clear hd4 hd6 HM HFULL HE0 hB hB3
          go_wp2_with fail
          go_loopg [9, 10] m (fun gk v i wr => ∃ k : Nat, k ≤ m ∧ gk = m - k ∧ i = .int .i64 k ∧ v = .string (str ((o.syms.take k).flatMap symBytes)) ∧ RMid w wr #[.slice pc n kn, .slice pd d kd, .slice ps m km, .slice pr r kr] ∧ Done wr B3 u4 (o.code.flatMap be4) ∧ Done wr B3 u6 (o.data.flatMap be4))
          case atStart => exact ⟨0, by omega, rfl, rfl, rfl, HMA.out, HD4.out, HD6.out⟩
          case round =>
            obtain ⟨k, hk, hgk, rfl, rfl, hmid, hd4, hd6⟩ := hrel
            have HG := Lib.hid hgk
            have hl0 := lt_of_block hmid.box
            obtain ⟨y0, y1, y2, y3, yz⟩ := blk4 hmid.box
            have HM := Lib.hid hmid
            have HE4 := Lib.hid hd4
            have HE6 := Lib.hid hd6
            clear hgk hmid hd4 hd6 HMA HD4 HD6
            by_cases hlt : k < m
            · obtain ⟨c0, co, rfl, hc0, hk', hrange⟩ := (HO.out.below HM.out.below).sym hlt
              obtain ⟨s, hs⟩ : ∃ s, s = o.syms[k] := ⟨_, rfl⟩
              rw [← hs] at hrange
              have hfs : SymFine s := by rw [hs]; exact HF.out.syms _ (List.getElem_mem hk')
              obtain ⟨f1, f2, ⟨f3, f4⟩, ⟨f5, f6⟩, ⟨f7, f8⟩, ⟨f9, f10⟩⟩ := hfs
              have HRG := Lib.hid hrange
              have HS := Lib.hid hs
              clear hrange hs
              have hl1 : ((o.syms.take k).flatMap symBytes).length ≤ 2048 * k := by
                have := flat_len symBytes o.syms 2048 k (fun x hx => symBytes_len (HF.out.syms x hx))
                omega
              obtain ⟨l0, hl0'⟩ : ∃ l0, l0 = ((o.syms.take k).flatMap symBytes) := ⟨_, rfl⟩
              rw [← hl0'] at hl1 ⊢
              have HL0 := Lib.hid hl0'
              clear hl0'
              have g1 : (be4 s.name.size ++ s.name.data.toList).length ≤ 20 := by rw [List.length_append, be4_len, size_data]; omega
              have g2 : (be4 s.sign.size ++ s.sign.data.toList).length ≤ 2004 := by rw [List.length_append, be4_len, size_data]; omega
              have a1 := fun w => run_str_add l0 (be4 s.name.size ++ s.name.data.toList) w (by omega)
              obtain ⟨l1, h1⟩ : ∃ l1, l1 = l0 ++ (be4 s.name.size ++ s.name.data.toList) := ⟨_, rfl⟩
              rw [← h1] at a1
              have q1 : l1.length ≤ 2048 * k + 20 := by rw [h1, List.length_append]; omega
              have H1 := Lib.hid h1
              clear h1 g1
              have a2 := fun w => run_str_add l1 (be4 s.kind) w (by rw [be4_len]; omega)
              obtain ⟨l2, h2⟩ : ∃ l2, l2 = l1 ++ be4 s.kind := ⟨_, rfl⟩
              rw [← h2] at a2
              have q2 : l2.length ≤ 2048 * k + 24 := by rw [h2, List.length_append, be4_len]; omega
              have H2 := Lib.hid h2
              clear h2
              have a3 := fun w => run_str_add l2 (be4 (flagI s.static)) w (by rw [be4_len]; omega)
              obtain ⟨l3, h3⟩ : ∃ l3, l3 = l2 ++ be4 (flagI s.static) := ⟨_, rfl⟩
              rw [← h3] at a3
              have q3 : l3.length ≤ 2048 * k + 28 := by rw [h3, List.length_append, be4_len]; omega
              have H3 := Lib.hid h3
              clear h3
              have a4 := fun w => run_str_add l3 (be4 s.pos) w (by rw [be4_len]; omega)
              obtain ⟨l4, h4⟩ : ∃ l4, l4 = l3 ++ be4 s.pos := ⟨_, rfl⟩
              rw [← h4] at a4
              have q4 : l4.length ≤ 2048 * k + 32 := by rw [h4, List.length_append, be4_len]; omega
              have H4 := Lib.hid h4
              clear h4
              have a5 := fun w => run_str_add l4 (be4 s.size) w (by rw [be4_len]; omega)
              obtain ⟨l5, h5⟩ : ∃ l5, l5 = l4 ++ be4 s.size := ⟨_, rfl⟩
              rw [← h5] at a5
              have q5 : l5.length ≤ 2048 * k + 36 := by rw [h5, List.length_append, be4_len]; omega
              have H5 := Lib.hid h5
              clear h5
              have a6 := fun w => run_str_add l5 (be4 s.sign.size ++ s.sign.data.toList) w (by omega)
              obtain ⟨l6, h6⟩ : ∃ l6, l6 = l5 ++ (be4 s.sign.size ++ s.sign.data.toList) := ⟨_, rfl⟩
              rw [← h6] at a6
              have q6 : l6.length ≤ 2048 * k + 2040 := by rw [h6, List.length_append]; omega
              have H6 := Lib.hid h6
              have a7 := fun w => run_str_add l6 (be4 s.frame) w (by rw [be4_len]; omega)
              obtain ⟨l7, h7⟩ : ∃ l7, l7 = l6 ++ be4 s.frame := ⟨_, rfl⟩
              rw [← h7] at a7
              have H7 := Lib.hid h7
              clear h6 h7 g2
              have hst : ∀ w : World, (storeCells ⟨w.heap.size, 0, none⟩ [.string s.name, .int .i64 s.kind, .bool s.static, .int .i64 s.pos, .int .i64 s.size, .string s.sign, .int .i64 s.frame] 0).run Try.prog (w.alloc (.cells #[.string ⟨#[]⟩, .int .i64 0, .bool false, .int .i64 0, .int .i64 0, .string ⟨#[]⟩, .int .i64 0] 106)) = .ok () (w.alloc (.cells #[.string s.name, .int .i64 s.kind, .bool s.static, .int .i64 s.pos, .int .i64 s.size, .string s.sign, .int .i64 s.frame] 106)) :=
                fun w => run_storeCells_new (P := Try.prog) w 106 #[.string ⟨#[]⟩, .int .i64 0, .bool false, .int .i64 0, .int .i64 0, .string ⟨#[]⟩, .int .i64 0] #[.string s.name, .int .i64 s.kind, .bool s.static, .int .i64 s.pos, .int .i64 s.size, .string s.sign, .int .i64 s.frame] (by kernel_rfl) rfl (by kernel_rfl)
              go_upto_region 19 with (refine wpList_load_mid (by rfl) 106 (.tmp 65) (by rfl) c0 (co + k * 7) (by rfl) [.string s.name, .int .i64 s.kind, .bool s.static, .int .i64 s.pos, .int .i64 s.size, .string s.sign, .int .i64 s.frame] _ HRG.out Try.underlying106 (by rfl) (by kernel_rfl) ?_)
              obtain ⟨w2, hw2⟩ : ∃ w2, w2 = wr.alloc (.cells #[.string s.name, .int .i64 s.kind, .bool s.static, .int .i64 s.pos, .int .i64 s.size, .string s.sign, .int .i64 s.frame] 106) := ⟨_, rfl⟩
              have hb2 : Below wr.heap.size wr w2 := by rw [hw2]; exact (Below.refl _ _).alloc (Nat.le_refl _) _
              have hmid2 := HM.out.go hb2
              have hblk : w2.heap[wr.heap.size]? = some (.cells #[.string s.name, .int .i64 s.kind, .bool s.static, .int .i64 s.pos, .int .i64 s.size, .string s.sign, .int .i64 s.frame] 106 (0, 0)) := by rw [hw2]; exact heap_alloc_new wr _
              have hd4 := HE4.out.go hb2
              have hd6 := HE6.out.go hb2
              rw [← hw2]
              clear hw2 hb2 hst y0 y1 y2 y3 yz
              obtain ⟨b6, hb6⟩ : ∃ b6, b6 = wr.heap.size := ⟨_, rfl⟩
              rw [← hb6] at hblk ⊢
              clear hb6 hl0 HM HRG HE4 HE6
              have HALL : Hid (RMid w w2 #[.slice pc n kn, .slice pd d kd, .slice (some ⟨c0, co, none⟩) m km, .slice pr r kr] ∧ Done w2 B3 u4 (o.code.flatMap be4) ∧ Done w2 B3 u6 (o.data.flatMap be4)) := ⟨hmid2, hd4, hd6⟩
              have c6 := cell_of_row w2 b6 0 _ _ _ hblk; have c61 := cell_of_row w2 b6 1 _ _ _ hblk; have c62 := cell_of_row w2 b6 2 _ _ _ hblk; have c63 := cell_of_row w2 b6 3 _ _ _ hblk; have c64 := cell_of_row w2 b6 4 _ _ _ hblk; have c65 := cell_of_row w2 b6 5 _ _ _ hblk; have c66 := cell_of_row w2 b6 6 _ _ _ hblk; simp only [List.getElem?_toArray, List.getElem?_cons_zero, List.getElem?_cons_succ] at c6 c61 c62 c63 c64 c65 c66
              have HBK := Lib.hid hblk
              clear hmid2 hd4 hd6 hblk
              go_upto_if 68 with fail
              go_cut [12] from 68 to 68 (fun v12 wx => v12 = .int .i64 (flagI s.static) ∧ w2 = wx)
              case first =>
                obtain ⟨sn, sk, st, sp, ss, sg, sf⟩ := s
                cases st
                all_goals
                  go_wp2_with fail
                  go_meet
                  exact ⟨rfl, rfl⟩
              case rest =>
                obtain ⟨rfl, rfl⟩ := hcut
                have hf0 : 0 ≤ flagI s.static ∧ flagI s.static ≤ 1 := by unfold flagI; split <;> omega
                obtain ⟨hf1, hf2⟩ := hf0
                have n1 : s.name.size ≤ 4294967295 := by omega
                have n2 : s.name.size ≤ 1000000000 := by omega
                have n3 : s.sign.size ≤ 4294967295 := by omega
                have n4 : s.sign.size ≤ 1000000000 := by omega
                go_upto_region 22 with fail
                go_region_held3 (fun w' => w'.cell? ⟨b6, 0, none⟩ = some (.string s.name) ∧ w'.cell? ⟨b6, 1, none⟩ = some (.int .i64 s.kind) ∧ w'.cell? ⟨b6, 2, none⟩ = some (.bool s.static) ∧ w'.cell? ⟨b6, 3, none⟩ = some (.int .i64 s.pos) ∧ w'.cell? ⟨b6, 4, none⟩ = some (.int .i64 s.size) ∧ w'.cell? ⟨b6, 5, none⟩ = some (.string s.sign) ∧ w'.cell? ⟨b6, 6, none⟩ = some (.int .i64 s.frame)) (go_keep) (first | (go_at_call 45; refine (four_any _ _ (by omega) (by omega)).mono ?_; rintro e w' ⟨rfl, hb⟩; have hbk := (hb.block _ (lt_of_block HBK.out)).trans HBK.out; have hall := And.intro (HALL.out.1.go ⟨hb.os, hb.tape, hb.output, hb.size, hb.block⟩) (And.intro (HALL.out.2.1.go ⟨hb.os, hb.tape, hb.output, hb.size, hb.block⟩) (HALL.out.2.2.go ⟨hb.os, hb.tape, hb.output, hb.size, hb.block⟩)); clear c6 c61 c62 c63 c64 c65 c66 HBK HALL hb; have c6 := cell_of_row _ b6 0 _ _ _ hbk; have c61 := cell_of_row _ b6 1 _ _ _ hbk; have c62 := cell_of_row _ b6 2 _ _ _ hbk; have c63 := cell_of_row _ b6 3 _ _ _ hbk; have c64 := cell_of_row _ b6 4 _ _ _ hbk; have c65 := cell_of_row _ b6 5 _ _ _ hbk; have c66 := cell_of_row _ b6 6 _ _ _ hbk; simp only [List.getElem?_toArray, List.getElem?_cons_zero, List.getElem?_cons_succ] at c6 c61 c62 c63 c64 c65 c66; have HBK := Lib.hid hbk; have HALL := Lib.hid hall; clear hbk hall) | (go_at_call 47; (with_reducible refine (counted_any s.name.size s.name _ n1 n2).mono ?_); rintro e w' ⟨rfl, hb⟩; have hbk := (hb.block _ (lt_of_block HBK.out)).trans HBK.out; have hall := And.intro (HALL.out.1.go ⟨hb.os, hb.tape, hb.output, hb.size, hb.block⟩) (And.intro (HALL.out.2.1.go ⟨hb.os, hb.tape, hb.output, hb.size, hb.block⟩) (HALL.out.2.2.go ⟨hb.os, hb.tape, hb.output, hb.size, hb.block⟩)); clear c6 c61 c62 c63 c64 c65 c66 HBK HALL hb; have c6 := cell_of_row _ b6 0 _ _ _ hbk; have c61 := cell_of_row _ b6 1 _ _ _ hbk; have c62 := cell_of_row _ b6 2 _ _ _ hbk; have c63 := cell_of_row _ b6 3 _ _ _ hbk; have c64 := cell_of_row _ b6 4 _ _ _ hbk; have c65 := cell_of_row _ b6 5 _ _ _ hbk; have c66 := cell_of_row _ b6 6 _ _ _ hbk; simp only [List.getElem?_toArray, List.getElem?_cons_zero, List.getElem?_cons_succ] at c6 c61 c62 c63 c64 c65 c66; have HBK := Lib.hid hbk; have HALL := Lib.hid hall; clear hbk hall) | (go_at_call 47; (with_reducible refine (counted_any s.sign.size s.sign _ n3 n4).mono ?_); rintro e w' ⟨rfl, hb⟩; have hbk := (hb.block _ (lt_of_block HBK.out)).trans HBK.out; have hall := And.intro (HALL.out.1.go ⟨hb.os, hb.tape, hb.output, hb.size, hb.block⟩) (And.intro (HALL.out.2.1.go ⟨hb.os, hb.tape, hb.output, hb.size, hb.block⟩) (HALL.out.2.2.go ⟨hb.os, hb.tape, hb.output, hb.size, hb.block⟩)); clear c6 c61 c62 c63 c64 c65 c66 HBK HALL hb; have c6 := cell_of_row _ b6 0 _ _ _ hbk; have c61 := cell_of_row _ b6 1 _ _ _ hbk; have c62 := cell_of_row _ b6 2 _ _ _ hbk; have c63 := cell_of_row _ b6 3 _ _ _ hbk; have c64 := cell_of_row _ b6 4 _ _ _ hbk; have c65 := cell_of_row _ b6 5 _ _ _ hbk; have c66 := cell_of_row _ b6 6 _ _ _ hbk; simp only [List.getElem?_toArray, List.getElem?_cons_zero, List.getElem?_cons_succ] at c6 c61 c62 c63 c64 c65 c66; have HBK := Lib.hid hbk; have HALL := Lib.hid hall; clear hbk hall))
                clear c6 c61 c62 c63 c64 c65 c66 HBK a1 a2 a3 a4 a5 a6 a7
                go_wp2_with fail
                go_roundg (m - (k + 1))
                case measure => have := HG.out; omega
                case rel =>
                  refine ⟨k + 1, hlt, rfl, by go_num, ?_, HALL.out.1, HALL.out.2.1, HALL.out.2.2⟩
                  rw [flatMap_snoc symBytes o.syms k hk', ← HS.out, ← HL0.out, H7.out, H6.out, H5.out, H4.out, H3.out, H2.out, H1.out]
                  unfold symBytes
                  simp
            · obtain rfl : m = k := by omega
              rw [List.take_of_length_le (by rw [HO.out.ml]; omega)]
              clear hlt HG hk
              have hd4 := Done.of HE4.out.row (Nat.le_refl _)
              have hd6 := Done.of HE6.out.row (Nat.le_refl _)
              obtain ⟨B4, hB4⟩ : ∃ B4, B4 = wr.heap.size := ⟨_, rfl⟩
              have hba : Below wr.heap.size wr (wr.alloc (.cells #[] 5)) := (Below.refl _ _).alloc (Nat.le_refl _) _
              have hBle : B4 ≤ (wr.alloc (.cells #[] 5)).heap.size := by rw [hB4]; simp
              have hBg : w.heap.size + 1 ≤ B4 := by omega
              have HMA := Lib.hid (HM.out.go hba)
              have HRA : Hid ((wr.alloc (.cells #[] 5)).ownsRow B4 5 1 (.slice (some ⟨wr.heap.size, 0, none⟩) 0 0) 0 []) := World.ownsRow_made wr #[] 0 (by omega) (by unfold maxLen; omega) rfl
              have HD0 : Hid (Done (wr.alloc (.cells #[] 5)) B4 u4 (o.code.flatMap be4)) := (Done.of HE4.out.row (by omega)).go hba
              have HD1 : Hid (Done (wr.alloc (.cells #[] 5)) B4 u6 (o.data.flatMap be4)) := (Done.of HE6.out.row (by omega)).go hba
              clear hd4 hd6 hba hB4 HM HE4 HE6
              go_wp2_with fail
              go_loopg [13, 14] r (fun gk v i wr => ∃ k : Nat, k ≤ r ∧ gk = r - k ∧ i = .int .i64 k ∧ RMid w wr #[.slice pc n kn, .slice pd d kd, .slice ps m km, .slice pr r kr] ∧ B4 ≤ wr.heap.size ∧ wr.ownsRow B4 5 1 v ((o.rels.take k).flatMap relBytes).length (((o.rels.take k).flatMap relBytes).map u8V) ∧ Done wr B4 u4 (o.code.flatMap be4) ∧ Done wr B4 u6 (o.data.flatMap be4))
              case atStart => exact ⟨0, by omega, rfl, rfl, HMA.out, hBle, HRA.out, HD0.out, HD1.out⟩
              case round =>
                obtain ⟨k, hk, hgk, rfl, hmid, hB, hrow, hd4, hd6⟩ := hrel
                have HG := Lib.hid hgk
                have hl0 := lt_of_block hmid.box
                obtain ⟨y0, y1, y2, y3, yz⟩ := blk4 hmid.box
                have HM := Lib.hid hmid
                have HRW := Lib.hid hrow
                have HE4 := Lib.hid hd4
                have HE6 := Lib.hid hd6
                clear hgk hmid hrow hd4 hd6 HMA HRA HD0 HD1
                by_cases hlt : k < r
                · obtain ⟨c0, co, rfl, hc0, hk', hrange⟩ := (HO.out.below HM.out.below).rel hlt
                  obtain ⟨x, hx⟩ : ∃ x, x = o.rels[k] := ⟨_, rfl⟩
                  rw [← hx] at hrange
                  have hfx : RelFine x := by rw [hx]; exact HF.out.rels _ (List.getElem_mem hk')
                  obtain ⟨⟨f1, f2⟩, ⟨f3, f4⟩, ⟨f5, f6⟩⟩ := hfx
                  have HRG := Lib.hid hrange
                  have HX := Lib.hid hx
                  clear hrange hx
                  have hl1 : ((o.rels.take k).flatMap relBytes).length ≤ 12 * k := by
                    have := flat_len relBytes o.rels 12 k (fun x _ => by rw [relBytes_len]; omega)
                    omega
                  obtain ⟨bk, hbk⟩ : ∃ bk, bk = ((o.rels.take k).flatMap relBytes) := ⟨_, rfl⟩
                  rw [← hbk] at hl1 HRW
                  have HBS := Lib.hid hbk
                  clear hbk
                  have p1 : (bk ++ be4 x.pos).length ≤ 12 * k + 4 := by rw [List.length_append, be4_len]; omega
                  have p2 : (bk ++ be4 x.pos ++ be4 x.sym).length ≤ 12 * k + 8 := by rw [List.length_append, be4_len]; omega
                  have hst : ∀ w : World, (storeCells ⟨w.heap.size, 0, none⟩ [.int .i64 x.pos, .int .i64 x.sym, .int .i64 x.add] 0).run Try.prog (w.alloc (.cells #[.int .i64 0, .int .i64 0, .int .i64 0] 110)) = .ok () (w.alloc (.cells #[.int .i64 x.pos, .int .i64 x.sym, .int .i64 x.add] 110)) :=
                    fun w => run_storeCells_new (P := Try.prog) w 110 #[.int .i64 0, .int .i64 0, .int .i64 0] #[.int .i64 x.pos, .int .i64 x.sym, .int .i64 x.add] (by kernel_rfl) rfl (by kernel_rfl)
                  go_upto_region 28 with (refine wpList_load_mid (by rfl) 110 (.tmp 114) (by rfl) c0 (co + k * 3) (by rfl) [.int .i64 x.pos, .int .i64 x.sym, .int .i64 x.add] _ HRG.out Try.underlying110 (by rfl) (by kernel_rfl) ?_)
                  obtain ⟨w2, hw2⟩ : ∃ w2, w2 = wr.alloc (.cells #[.int .i64 x.pos, .int .i64 x.sym, .int .i64 x.add] 110) := ⟨_, rfl⟩
                  have hb2 : Below wr.heap.size wr w2 := by rw [hw2]; exact (Below.refl _ _).alloc (Nat.le_refl _) _
                  have hmid2 := HM.out.go hb2
                  have hblk : w2.heap[wr.heap.size]? = some (.cells #[.int .i64 x.pos, .int .i64 x.sym, .int .i64 x.add] 110 (0, 0)) := by rw [hw2]; exact heap_alloc_new wr _
                  have hd4 := HE4.out.go hb2
                  have hd6 := HE6.out.go hb2
                  have hrow := own_below HRW.out hb2
                  have hl2 : B4 ≤ w2.heap.size := by have := hb2.size; omega
                  rw [← hw2]
                  clear hw2 hb2 hst y0 y1 y2 y3 yz hB
                  obtain ⟨b9, hb9⟩ : ∃ b9, b9 = wr.heap.size := ⟨_, rfl⟩
                  rw [← hb9] at hblk ⊢
                  clear hb9 hl0 HM HRG HE4 HE6 HRW
                  have HALL : Hid (RMid w w2 #[.slice pc n kn, .slice pd d kd, .slice ps m km, .slice (some ⟨c0, co, none⟩) r kr] ∧ Done w2 B4 u4 (o.code.flatMap be4) ∧ Done w2 B4 u6 (o.data.flatMap be4)) := ⟨hmid2, hd4, hd6⟩
                  have c9 := cell_of_row w2 b9 0 _ _ _ hblk; have c91 := cell_of_row w2 b9 1 _ _ _ hblk; have c92 := cell_of_row w2 b9 2 _ _ _ hblk; simp only [List.getElem?_toArray, List.getElem?_cons_zero, List.getElem?_cons_succ] at c9 c91 c92
                  have HBK := Lib.hid hblk
                  have HRW := Lib.hid hrow
                  clear hmid2 hd4 hd6 hblk hrow
                  go_wp2_with fail
                  refine (four_any _ _ (by omega) (by omega)).mono ?_
                  rintro e w3 ⟨rfl, hb3⟩
                  have hR := own_below HRW.out hb3
                  have hbk := (hb3.block _ (lt_of_block HBK.out)).trans HBK.out
                  have hall := And.intro (HALL.out.1.go hb3) (And.intro (HALL.out.2.1.go hb3) (HALL.out.2.2.go hb3))
                  have hl3 : B4 ≤ w3.heap.size := by have := hb3.size; omega
                  clear c9 c91 c92 HRW HBK HALL hb3 hl2
                  have HR := Lib.hid hR
                  have HBK := Lib.hid hbk
                  have HALL := Lib.hid hall
                  clear hR hbk hall
                  go_wp2_with (at_builtin; refine wpList_append_own_src (by rfl) (.tmp 116) (.tmp 119) 61 9 (by rfl) B4 5 i0 _ 1 1 Try.underlying61 hi0 hz0 hz1' hz2 (by rfl) (by decide) _ _ _ (by rfl) HR.out (.string (str (be4 x.pos))) 4 ((be4 x.pos).map u8V) (by rfl) (Src.ofString _ Try.underlying9 (str (be4 x.pos))) (by unfold maxLen; omega) (by omega) (by omega) ?_; intro v1 w4 hown hgr hor; have hbk := (hgr.block _ (lt_of_block HBK.out) (own_ne HR.out HBK.out (by decide))).trans HBK.out; have hgb : ∀ k, _ = some k → B4 ≤ k := fun k hk => (HR.out.lt k hk).1; have hall := And.intro (HALL.out.1.grown hgr (fun k hk => Nat.le_trans hBg (hgb k hk))) (And.intro (HALL.out.2.1.grown hgr hgb) (HALL.out.2.2.grown hgr hgb)); have hl2 := Nat.le_trans hl3 hgr.size; rw [← List.map_append] at hown; clear HBK HALL HR hgb hgr hor hl3; have c9 := cell_of_row _ b9 0 _ _ _ hbk; have c91 := cell_of_row _ b9 1 _ _ _ hbk; have c92 := cell_of_row _ b9 2 _ _ _ hbk; simp only [List.getElem?_toArray, List.getElem?_cons_zero, List.getElem?_cons_succ] at c9 c91 c92; have HRW := Lib.hid hown; have HBK := Lib.hid hbk; have HALL := Lib.hid hall; clear hown hbk hall)
                  go_wp2_with fail
                  refine (four_any _ _ (by omega) (by omega)).mono ?_
                  rintro e w3 ⟨rfl, hb3⟩
                  have hR := own_below HRW.out hb3
                  have hbk := (hb3.block _ (lt_of_block HBK.out)).trans HBK.out
                  have hall := And.intro (HALL.out.1.go hb3) (And.intro (HALL.out.2.1.go hb3) (HALL.out.2.2.go hb3))
                  have hl3 : B4 ≤ w3.heap.size := by have := hb3.size; omega
                  clear c9 c91 c92 HRW HBK HALL hb3 hl2
                  have HR := Lib.hid hR
                  have HBK := Lib.hid hbk
                  have HALL := Lib.hid hall
                  clear hR hbk hall
                  go_wp2_with (at_builtin; refine wpList_append_own_src (by rfl) (.tmp 121) (.tmp 124) 61 9 (by rfl) B4 5 i0 _ 1 1 Try.underlying61 hi0 hz0 hz1' hz2 (by rfl) (by decide) _ _ _ (by rfl) HR.out (.string (str (be4 x.sym))) 4 ((be4 x.sym).map u8V) (by rfl) (Src.ofString _ Try.underlying9 (str (be4 x.sym))) (by unfold maxLen; omega) (by omega) (by omega) ?_; intro v2 w4 hown hgr hor; have hbk := (hgr.block _ (lt_of_block HBK.out) (own_ne HR.out HBK.out (by decide))).trans HBK.out; have hgb : ∀ k, _ = some k → B4 ≤ k := fun k hk => (HR.out.lt k hk).1; have hall := And.intro (HALL.out.1.grown hgr (fun k hk => Nat.le_trans hBg (hgb k hk))) (And.intro (HALL.out.2.1.grown hgr hgb) (HALL.out.2.2.grown hgr hgb)); have hl2 := Nat.le_trans hl3 hgr.size; rw [← List.map_append] at hown; clear HBK HALL HR hgb hgr hor hl3; have c9 := cell_of_row _ b9 0 _ _ _ hbk; have c91 := cell_of_row _ b9 1 _ _ _ hbk; have c92 := cell_of_row _ b9 2 _ _ _ hbk; simp only [List.getElem?_toArray, List.getElem?_cons_zero, List.getElem?_cons_succ] at c9 c91 c92; have HRW := Lib.hid hown; have HBK := Lib.hid hbk; have HALL := Lib.hid hall; clear hown hbk hall)
                  go_wp2_with fail
                  refine (four_any _ _ (by omega) (by omega)).mono ?_
                  rintro e w3 ⟨rfl, hb3⟩
                  have hR := own_below HRW.out hb3
                  have hbk := (hb3.block _ (lt_of_block HBK.out)).trans HBK.out
                  have hall := And.intro (HALL.out.1.go hb3) (And.intro (HALL.out.2.1.go hb3) (HALL.out.2.2.go hb3))
                  have hl3 : B4 ≤ w3.heap.size := by have := hb3.size; omega
                  clear c9 c91 c92 HRW HBK HALL hb3 hl2
                  have HR := Lib.hid hR
                  have HBK := Lib.hid hbk
                  have HALL := Lib.hid hall
                  clear hR hbk hall
                  go_wp2_with (at_builtin; refine wpList_append_own_src (by rfl) (.tmp 126) (.tmp 129) 61 9 (by rfl) B4 5 i0 _ 1 1 Try.underlying61 hi0 hz0 hz1' hz2 (by rfl) (by decide) _ _ _ (by rfl) HR.out (.string (str (be4 x.add))) 4 ((be4 x.add).map u8V) (by rfl) (Src.ofString _ Try.underlying9 (str (be4 x.add))) (by unfold maxLen; omega) (by omega) (by omega) ?_; intro v3 w4 hown hgr hor; have hbk := (hgr.block _ (lt_of_block HBK.out) (own_ne HR.out HBK.out (by decide))).trans HBK.out; have hgb : ∀ k, _ = some k → B4 ≤ k := fun k hk => (HR.out.lt k hk).1; have hall := And.intro (HALL.out.1.grown hgr (fun k hk => Nat.le_trans hBg (hgb k hk))) (And.intro (HALL.out.2.1.grown hgr hgb) (HALL.out.2.2.grown hgr hgb)); have hl2 := Nat.le_trans hl3 hgr.size; rw [← List.map_append] at hown; clear HBK HALL HR hgb hgr hor hl3; have c9 := cell_of_row _ b9 0 _ _ _ hbk; have c91 := cell_of_row _ b9 1 _ _ _ hbk; have c92 := cell_of_row _ b9 2 _ _ _ hbk; simp only [List.getElem?_toArray, List.getElem?_cons_zero, List.getElem?_cons_succ] at c9 c91 c92; have HRW := Lib.hid hown; have HBK := Lib.hid hbk; have HALL := Lib.hid hall; clear hown hbk hall)
                  go_roundg (r - (k + 1))
                  case measure => have := HG.out; omega
                  case rel =>
                    have hnx : (o.rels.take (k + 1)).flatMap relBytes = bk ++ be4 x.pos ++ be4 x.sym ++ be4 x.add := by
                      rw [flatMap_snoc relBytes o.rels k hk', ← HBS.out, ← HX.out]
                      unfold relBytes
                      simp
                    refine ⟨k + 1, hlt, rfl, by go_num, HALL.out.1, hl2, ?_, HALL.out.2.1, HALL.out.2.2⟩
                    have h := HRW.out
                    rw [hnx]
                    simpa [be4_len] using h
                · obtain rfl : r = k := by omega
                  rw [List.take_of_length_le (by rw [HO.out.rl]; omega)] at HRW
                  clear hlt HG hk
                  have e4 : (o.code.flatMap be4).length ≤ 24000 := by have := flatMap_len be4 o.code 4 (fun x _ => by rw [be4_len]; omega); rw [HO.out.nl] at this; omega
                  have e6 : (o.data.flatMap be4).length ≤ 64000 := by have := flatMap_len be4 o.data 4 (fun x _ => by rw [be4_len]; omega); rw [HO.out.dl] at this; omega
                  have e9 : (o.syms.flatMap symBytes).length ≤ 819200 := by have := flatMap_len symBytes o.syms 2048 (fun x hx => symBytes_len (HF.out.syms x hx)); rw [HO.out.ml] at this; omega
                  have e13 : (o.rels.flatMap relBytes).length ≤ 72000 := by have := flatMap_len relBytes o.rels 12 (fun x _ => by rw [relBytes_len]; omega); rw [HO.out.rl] at this; omega
                  have HALL : Hid (RMid w wr #[.slice pc n kn, .slice pd d kd, .slice ps m km, .slice pr r kr] ∧ Done wr B4 u4 (o.code.flatMap be4) ∧ Done wr B4 u6 (o.data.flatMap be4) ∧ wr.ownsRow B4 5 1 u13 (o.rels.flatMap relBytes).length ((o.rels.flatMap relBytes).map u8V)) := ⟨HM.out, HE4.out, HE6.out, HRW.out⟩
                  obtain ⟨d4, hd4⟩ : ∃ d4, d4 = o.code.flatMap be4 := ⟨_, rfl⟩
                  obtain ⟨d6, hd6⟩ : ∃ d6, d6 = o.data.flatMap be4 := ⟨_, rfl⟩
                  obtain ⟨l9, hl9⟩ : ∃ l9, l9 = o.syms.flatMap symBytes := ⟨_, rfl⟩
                  obtain ⟨d13, hd13⟩ : ∃ d13, d13 = o.rels.flatMap relBytes := ⟨_, rfl⟩
                  rw [← hd4, ← hd6, ← hd13] at HALL
                  rw [← hd4] at e4
                  rw [← hd6] at e6
                  rw [← hl9] at e9 ⊢
                  rw [← hd13] at e13
                  have Q4 := Lib.hid hd4
                  have Q6 := Lib.hid hd6
                  have Q9 := Lib.hid hl9
                  have Q13 := Lib.hid hd13
                  clear hd4 hd6 hl9 hd13 HM HE4 HE6 HRW y0 y1 y2 y3 yz hB hl0
                  have g1 : (be4 n ++ d4).length ≤ 24004 := by rw [List.length_append, be4_len]; omega
                  have g2 : (be4 d ++ d6).length ≤ 64004 := by rw [List.length_append, be4_len]; omega
                  have g3 : (be4 m ++ l9).length ≤ 819204 := by rw [List.length_append, be4_len]; omega
                  have g4 : (be4 r ++ d13).length ≤ 72004 := by rw [List.length_append, be4_len]; omega
                  have a2 := fun w => run_str_add (be4 n ++ d4) (be4 d ++ d6) w (by omega)
                  obtain ⟨s2, h2⟩ : ∃ s2, s2 = (be4 n ++ d4) ++ (be4 d ++ d6) := ⟨_, rfl⟩
                  rw [← h2] at a2
                  have q2 : s2.length ≤ 100000 := by rw [h2, List.length_append]; omega
                  have a3 := fun w => run_str_add s2 (be4 m ++ l9) w (by omega)
                  obtain ⟨s3, h3⟩ : ∃ s3, s3 = s2 ++ (be4 m ++ l9) := ⟨_, rfl⟩
                  rw [← h3] at a3
                  have q3 : s3.length ≤ 1000000 := by rw [h3, List.length_append]; omega
                  have a4 := fun w => run_str_add s3 (be4 r ++ d13) w (by omega)
                  obtain ⟨s4, h4⟩ : ∃ s4, s4 = s3 ++ (be4 r ++ d13) := ⟨_, rfl⟩
                  rw [← h4] at a4
                  have H2 := Lib.hid h2
                  have H3 := Lib.hid h3
                  have H4 := Lib.hid h4
                  have q4 : s4.length ≤ 2000000 := by rw [h4, List.length_append]; omega
                  clear h2 h3 h4 g1 g2 g3 g4
                  have n1 : n ≤ 4294967295 := by omega
                  have n2 : d4.length ≤ 1000000000 := by omega
                  have n3 : d ≤ 4294967295 := by omega
                  have n4 : d6.length ≤ 1000000000 := by omega
                  have n5 : m ≤ 4294967295 := by omega
                  have n6 : l9.length ≤ 1000000000 := by omega
                  have n7 : r ≤ 4294967295 := by omega
                  have n8 : d13.length ≤ 1000000000 := by omega
                  obtain ⟨y0, y1, y2, y3, yz⟩ := blk4 HALL.out.1.box; have k4 := run_str_own HALL.out.2.1.row; have k6 := run_str_own HALL.out.2.2.1.row; have k13 := run_str_own HALL.out.2.2.2
                  have k4d : (convert 61 9 u4).run Try.prog wr.drew = .ok (.string (str d4)) wr.drew := run_str_own (w := wr.drew) (B := 0) HALL.out.2.1.row
                  have k6d : (convert 61 9 u6).run Try.prog wr.drew = .ok (.string (str d6)) wr.drew := run_str_own (w := wr.drew) (B := 0) HALL.out.2.2.1.row
                  have k13d : (convert 61 9 u13).run Try.prog wr.drew = .ok (.string (str d13)) wr.drew := run_str_own (w := wr.drew) (B := B4) HALL.out.2.2.2
                  go_upto_region 31 with fail
                  go_region_held3 (fun w' => w'.cell? ⟨w.heap.size, 0, none⟩ = some (.slice pc n kn) ∧ w'.cell? ⟨w.heap.size, 1, none⟩ = some (.slice pd d kd) ∧ w'.cell? ⟨w.heap.size, 2, none⟩ = some (.slice ps m km) ∧ w'.cell? ⟨w.heap.size, 3, none⟩ = some (.slice pr r kr) ∧ (convert 61 9 u4).run Try.prog w' = .ok (.string (str d4)) w' ∧ (convert 61 9 u6).run Try.prog w' = .ok (.string (str d6)) w' ∧ (convert 61 9 u13).run Try.prog w' = .ok (.string (str d13)) w') (go_keep) (first | (go_at_call 47; (with_reducible refine (counted_str n d4 _ n1 n2).mono ?_); rintro e w' ⟨rfl, hb⟩; have hall := And.intro (HALL.out.1.go ⟨hb.os, hb.tape, hb.output, hb.size, hb.block⟩) (And.intro (HALL.out.2.1.go ⟨hb.os, hb.tape, hb.output, hb.size, hb.block⟩) (And.intro (HALL.out.2.2.1.go ⟨hb.os, hb.tape, hb.output, hb.size, hb.block⟩) (own_below HALL.out.2.2.2 ⟨hb.os, hb.tape, hb.output, hb.size, hb.block⟩))); clear y0 y1 y2 y3 yz k4 k6 k13 HALL hb; obtain ⟨y0, y1, y2, y3, yz⟩ := blk4 hall.1.box; have k4 := run_str_own hall.2.1.row; have k6 := run_str_own hall.2.2.1.row; have k13 := run_str_own hall.2.2.2; have HALL := Lib.hid hall; clear hall) | (go_at_call 47; (with_reducible refine (counted_str d d6 _ n3 n4).mono ?_); rintro e w' ⟨rfl, hb⟩; have hall := And.intro (HALL.out.1.go ⟨hb.os, hb.tape, hb.output, hb.size, hb.block⟩) (And.intro (HALL.out.2.1.go ⟨hb.os, hb.tape, hb.output, hb.size, hb.block⟩) (And.intro (HALL.out.2.2.1.go ⟨hb.os, hb.tape, hb.output, hb.size, hb.block⟩) (own_below HALL.out.2.2.2 ⟨hb.os, hb.tape, hb.output, hb.size, hb.block⟩))); clear y0 y1 y2 y3 yz k4 k6 k13 HALL hb; obtain ⟨y0, y1, y2, y3, yz⟩ := blk4 hall.1.box; have k4 := run_str_own hall.2.1.row; have k6 := run_str_own hall.2.2.1.row; have k13 := run_str_own hall.2.2.2; have HALL := Lib.hid hall; clear hall) | (go_at_call 47; (with_reducible refine (counted_str m l9 _ n5 n6).mono ?_); rintro e w' ⟨rfl, hb⟩; have hall := And.intro (HALL.out.1.go ⟨hb.os, hb.tape, hb.output, hb.size, hb.block⟩) (And.intro (HALL.out.2.1.go ⟨hb.os, hb.tape, hb.output, hb.size, hb.block⟩) (And.intro (HALL.out.2.2.1.go ⟨hb.os, hb.tape, hb.output, hb.size, hb.block⟩) (own_below HALL.out.2.2.2 ⟨hb.os, hb.tape, hb.output, hb.size, hb.block⟩))); clear y0 y1 y2 y3 yz k4 k6 k13 HALL hb; obtain ⟨y0, y1, y2, y3, yz⟩ := blk4 hall.1.box; have k4 := run_str_own hall.2.1.row; have k6 := run_str_own hall.2.2.1.row; have k13 := run_str_own hall.2.2.2; have HALL := Lib.hid hall; clear hall) | (go_at_call 47; (with_reducible refine (counted_str r d13 _ n7 n8).mono ?_); rintro e w' ⟨rfl, hb⟩; have hall := And.intro (HALL.out.1.go ⟨hb.os, hb.tape, hb.output, hb.size, hb.block⟩) (And.intro (HALL.out.2.1.go ⟨hb.os, hb.tape, hb.output, hb.size, hb.block⟩) (And.intro (HALL.out.2.2.1.go ⟨hb.os, hb.tape, hb.output, hb.size, hb.block⟩) (own_below HALL.out.2.2.2 ⟨hb.os, hb.tape, hb.output, hb.size, hb.block⟩))); clear y0 y1 y2 y3 yz k4 k6 k13 HALL hb; obtain ⟨y0, y1, y2, y3, yz⟩ := blk4 hall.1.box; have k4 := run_str_own hall.2.1.row; have k6 := run_str_own hall.2.2.1.row; have k13 := run_str_own hall.2.2.2; have HALL := Lib.hid hall; clear hall))
                  clear a2 a3 a4 k4 k6 k13 y0 y1 y2 y3 yz
                  have hcv := fun w => Lib.run_convert_string_bytes (P := Try.prog) w 9 61 5 (str s4) Try.underlying9 Try.underlying61 Try.underlying5
                  go_wp2_with fail
                  go_ret2
                  have h4 : s4 = putB o := by
                    rw [H4.out, H3.out, H2.out, Q4.out, Q6.out, Q9.out, Q13.out]
                    unfold putB
                    rw [HO.out.nl, HO.out.dl, HO.out.ml, HO.out.rl]
                    simp only [List.append_assoc]
                  rw [← h4]
                  exact ⟨_, rfl, HALL.out.1.below.trans (bytesWorld_below _ _ HALL.out.1.below.size), bytesIn_new _ s4⟩
end

end Go.Proofs.Ythnehhidlaggeaa
