/- The program's writer: numbers, text, flag: the walks. -/
import Derived.Test.YthnehhidlaggeaaMkit
import Derived.Test.YthnehhidlaggeaaAppSrc
import Derived.Test.YthnehhidlaggeaaObjBytes
import Derived.Outline
namespace Go.Proofs.Ythnehhidlaggeaa
set_option linter.unusedVariables false
set_option linter.unusedSimpArgs false
open Go.RowKit Ob

def u8V (b : UInt8) : Value := .int .u8 b.toNat
/-- what a call that lays bytes behind a pointer's box leaves as it was -/
structure Wrote (w w' : World) (pw : Nat) (v v' : Value) : Prop where
  os : w'.os = w.os
  tape : w'.tape = w.tape
  output : w'.output = w.output
  size : w.heap.size ≤ w'.heap.size
  block : ∀ k, k < w.heap.size → k ≠ pw → some k ≠ v.ownBlock → w'.heap[k]? = w.heap[k]?
  own : v'.ownBlock = v.ownBlock ∨ ∃ k, v'.ownBlock = some k ∧ w.heap.size ≤ k
theorem Wrote.refl (w : World) (pw : Nat) (v : Value) : Wrote w w pw v v := ⟨rfl, rfl, rfl, Nat.le_refl _, fun _ _ _ _ => rfl, .inl rfl⟩
theorem Wrote.trans {a b c : World} {pw : Nat} {u v x : Value} (h : Wrote a b pw u v) (g : Wrote b c pw v x) : Wrote a c pw u x := by
  refine ⟨g.os.trans h.os, g.tape.trans h.tape, g.output.trans h.output, Nat.le_trans h.size g.size, fun k h1 h2 h3 => (g.block k (Nat.lt_of_lt_of_le h1 h.size) h2 ?_).trans (h.block k h1 h2 h3), ?_⟩
  · rcases h.own with e | ⟨j, e, hj⟩
    · rw [e]; exact h3
    · rw [e]; intro he; injection he with he; omega
  · rcases g.own with e | ⟨j, e, hj⟩
    · rw [e]; exact h.own
    · exact .inr ⟨j, e, Nat.le_trans h.size hj⟩
theorem Wrote.alloc (w : World) (o : Go.Obj) (pw : Nat) (v : Value) : Wrote w (w.alloc o) pw v v :=
  ⟨rfl, rfl, rfl, by simp, fun k hk _ _ => Below.heap_alloc _ _ _ hk, .inl rfl⟩
/-- bytes that lie behind a pointer's box -/
structure WrAt (w : World) (B pw : Nat) (v : Value) (bs : List UInt8) : Prop where
  box : w.heap[pw]? = some (.cells #[v] 103 (0, 0))
  row : w.ownsRow B 5 1 v bs.length (bs.map u8V)

theorem WrAt.alloc {w : World} {B pw : Nat} {v : Value} {bs : List UInt8} (h : WrAt w B pw v bs) (o : Go.Obj) : WrAt (w.alloc o) B pw v bs :=
  ⟨(Below.heap_alloc _ _ _ (lt_of_block h.box)).trans h.box, h.row.alloc o⟩
theorem WrAt.ne {w : World} {B pw : Nat} {v : Value} {bs : List UInt8} (h : WrAt w B pw v bs) : some pw ≠ v.ownBlock := own_ne h.row h.box (by decide)
theorem setCell1 {w : World} {b : Nat} {t : TypeId} {u : Value} (h : w.heap[b]? = some (.cells #[u] t (0, 0))) (v : Value) : (w.setCell ⟨b, 0, none⟩ v).heap[b]? = some (.cells #[v] t (0, 0)) := by
  simp [World.setCell, Array.getElem?_modify, h]
theorem grown_box {w : World} {b : Nat} {v : Value} : w.grownBy (w.setCell ⟨b, 0, none⟩ v) (some b) :=
  ⟨rfl, rfl, rfl, by simp [World.setCell], fun k _ hk => Below.heap_setCell _ _ _ k (fun e => hk (by rw [e]))⟩
/-- an append, and its store -/
theorem WrAt.next {w wr w2 : World} {B pw m : Nat} {v v1 v' : Value} {bs new : List UInt8} (hwr : Wrote w wr pw v v1) (hat : WrAt wr B pw v1 bs) (hm : new.length = m)
    (hown : w2.ownsRow B 5 1 v' (bs.length + m) (bs.map u8V ++ new.map u8V)) (hgr : wr.grownBy w2 v1.ownBlock) (hor : v'.ownBlock = v1.ownBlock ∨ v'.ownBlock = some wr.heap.size) :
    Wrote w (w2.setCell ⟨pw, 0, none⟩ v') pw v v' ∧ WrAt (w2.setCell ⟨pw, 0, none⟩ v') B pw v' (bs ++ new) := by
  have hpw := lt_of_block hat.box
  have hbox2 : w2.heap[pw]? = some (.cells #[v1] 103 (0, 0)) := (hgr.block pw hpw hat.ne).trans hat.box
  have hne2 : some pw ≠ v'.ownBlock := own_ne hown hbox2 (by decide)
  have g2 := grown_box (w := w2) (b := pw) (v := v')
  refine ⟨hwr.trans ⟨hgr.os, hgr.tape, hgr.output, Nat.le_trans hgr.size g2.size, fun k h1 h2 h3 => ?_, ?_⟩, setCell1 hbox2 v', ?_⟩
  · rw [g2.block k (Nat.lt_of_lt_of_le h1 hgr.size) (by simpa using h2)]
    exact hgr.block k h1 h3
  · rcases hor with e | e
    · exact .inl e
    · exact .inr ⟨_, e, Nat.le_refl _⟩
  · rw [List.length_append, hm, List.map_append]
    exact hown.kept g2 (.inr (fun e => hne2 e.symm))
theorem lt_alloc {w : World} {b : Nat} (o : Go.Obj) (h : b < w.heap.size) : b < (w.alloc o).heap.size := by
  simp
  omega
theorem own_slice {w : World} {base : Nat} {e : TypeId} {size n : Nat} {v : Value} {xs : List Value} (h : w.ownsRow base e size v n xs) (hn : 0 < n) : ∃ g cap, v = .slice (some ⟨g, 0, none⟩) n cap := by
  rcases h.2 with ⟨_, h0⟩ | ⟨g, cap, _, rfl, _⟩
  · omega
  · exact ⟨g, cap, rfl⟩
theorem be4_cells (x : Int) : #[Value.int .u8 (x / 16777216 % 256), Value.int .u8 (x / 65536 % 256), Value.int .u8 (x / 256 % 256), Value.int .u8 (x % 256)] = ((be4 x).map u8V).toArray := by
  simp only [be4, List.map_cons, List.map_nil, u8V, byt_toNat]
theorem cells_list {w : World} {b : Nat} {t : TypeId} {xs : List Value} {cs : Array Value} (h : w.heap[b]? = some (.cells cs t (0, 0))) (hc : cs = xs.toArray) : ∀ j u, xs[j]? = some u → w.cell? ((⟨b, 0, none⟩ : Addr).add j) = some u := by
  intro j u hj
  rw [add_at, cell_of_row w b j _ _ _ h, hc, ← hj]
  simp
theorem u8V_one (l : List UInt8) : ∀ u ∈ l.map u8V, u.oneCell' = true := by
  intro u hu
  obtain ⟨b, _, rfl⟩ := List.mem_map.1 hu
  rfl
theorem Try.infoU8 : (Try.prog.info? 5).map (fun i => (i.zero, i.size, i.bytes)) = some (some (.int .u8 0), 1, 1) := by kernel_rfl

set_option maxRecDepth 100000 in
set_option maxHeartbeats 1000000 in
theorem numbers_any (B pw bl n c : Nat) (v : Value) (bs : List UInt8) (l : List Int) (w : World) (hW : WrAt w B pw v bs) (hB : B ≤ pw) (hn : l.length = n) (hb1 : bl ≠ pw) (hb2 : some bl ≠ v.ownBlock) (hbl : bl < w.heap.size)
    (hc : ∀ j (h : j < l.length), w.cell? ⟨bl, j, none⟩ = some (.int .i64 l[j])) (hlen : bs.length + 4 * n ≤ 1000000000) :
    Calls Try.prog 42 #[.pointer (some ⟨pw, 0, none⟩), .slice (some ⟨bl, 0, none⟩) n c] w fun e w' => e = .returned (.tuple #[]) ∧ ∃ v', Wrote w w' pw v v' ∧ WrAt w' B pw v' (bs ++ l.flatMap be4) := by
  have HC := Lib.hid hc
  have HW := Lib.hid hW
  have HN := Lib.hid hn
  have HB1 := Lib.hid hb1
  have HB2 := Lib.hid hb2
  have hpl := lt_of_block hW.box
  have hn4 : n ≤ 1000000000 := by omega
  clear hc hW hn hb1 hb2
  go_enter Try.func42, Try.ntmps42
  go_wp2_with fail
  go_loopg [8] n (fun gk i wr => ∃ (k : Nat) (v1 : Value), k ≤ n ∧ gk = n - k ∧ i = .int .i64 k ∧ Wrote w wr pw v v1 ∧ WrAt wr B pw v1 (bs ++ (l.take k).flatMap be4))
  case atStart => exact ⟨0, v, by omega, rfl, rfl, Wrote.refl _ _ _, by simpa using HW.out⟩
  case round =>
    obtain ⟨k, v1, hk, hgk, rfl, hwr, hat⟩ := hrel
    have HG := Lib.hid hgk
    by_cases hlt : k < n
    · have hx : wr.cell? ⟨bl, k, none⟩ = some (.int .i64 (l[k]'(by rw [HN.out]; exact hlt))) := (World.cell?_of_block (hwr.block bl hbl HB1.out HB2.out)).trans (HC.out k _)
      obtain ⟨x, hxe⟩ : ∃ x, x = l[k]'(by rw [HN.out]; exact hlt) := ⟨_, rfl⟩
      rw [← hxe] at hx
      have hki : (k : Int) < n := by omega
      have hv1 := cell_of_row wr pw 0 _ _ _ hat.box
      simp only [List.getElem?_toArray, List.getElem?_cons_zero] at hv1
      have hz1 : ∀ o, wr.frozen? ⟨pw, o, none⟩ = false := fun o => by simp [World.frozen?, hat.box]
      have hpr := lt_of_block hat.box
      have HWR := Lib.hid hwr
      have HX := Lib.hid hxe
      clear hgk hwr hxe
      have hl1 : (bs ++ (l.take k).flatMap be4).length + 4 ≤ 1000000000 := by
        have := flat_len be4 l 4 k (fun x _ => by rw [be4_len]; omega)
        rw [List.length_append]
        omega
      obtain ⟨bk, hbk⟩ : ∃ bk, bk = bs ++ (l.take k).flatMap be4 := ⟨_, rfl⟩
      rw [← hbk] at hat hl1
      have HAT := Lib.hid hat
      have HBK := Lib.hid hbk
      clear hat hbk
      obtain ⟨i0, hi0, hz0, hz1', hz2⟩ := info_parts Try.infoU8
      go_wp2_with (at_builtin; refine wpList_append_own_src (by rfl) (.tmp 16) (.tmp 28) 61 61 (by rfl) B 5 i0 _ 1 1 Try.underlying61 hi0 hz0 hz1' hz2 (by rfl) (by decide) v1 _ _ (by rfl) (HAT.out.alloc _).row (.slice (some ⟨wr.heap.size, 0, none⟩) 4 4) 4 ((be4 x).map u8V) (by rfl) (Src.ofSlice _ Try.underlying61 _ 4 4 _ (by rfl) (cells_list (heap_alloc_new wr _) (be4_cells x)) (u8V_one _)) (by unfold maxLen; omega) (by omega) (Nat.le_of_lt (lt_alloc _ (by omega))) ?_; intro v' w2 hown hgr hor; obtain ⟨g3, cap3, rfl⟩ := own_slice hown (by omega); have hc2 : w2.cell? ⟨pw, 0, none⟩ = some v1 := (World.cell?_of_block (hgr.block pw (lt_alloc _ hpr) HAT.out.ne)).trans (cell_of_row _ pw 0 _ _ _ (HAT.out.alloc _).box); have hf2 : ∀ o, w2.frozen? ⟨pw, o, none⟩ = false := fun o => (by simp [World.frozen?, hgr.block pw (lt_alloc _ hpr) HAT.out.ne, (HAT.out.alloc _).box]); have HNX := Lib.hid (WrAt.next (HWR.out.trans (Wrote.alloc wr _ pw v1)) (HAT.out.alloc _) (be4_len x) hown hgr hor); clear hown hgr hor)
      go_roundg (n - (k + 1))
      case measure => have := HG.out; omega
      case rel =>
        obtain ⟨h1, h2⟩ := HNX.out
        refine ⟨k + 1, _, hlt, rfl, by go_num, h1, ?_⟩
        rw [flatMap_snoc be4 l k (by rw [HN.out]; exact hlt), ← HX.out, ← List.append_assoc, ← HBK.out]
        exact h2
    · obtain rfl : k = n := by omega
      have HWR := Lib.hid hwr
      have HAT := Lib.hid hat
      clear hgk hwr hat
      go_wp2_with fail
      go_end0
      refine ⟨rfl, v1, HWR.out, ?_⟩
      have h := HAT.out
      rwa [List.take_of_length_le (by rw [HN.out]; omega)] at h

set_option maxRecDepth 100000 in
set_option maxHeartbeats 1000000 in
theorem wtext_any (B pw : Nat) (v : Value) (bs : List UInt8) (s : ByteArray) (w : World) (hW : WrAt w B pw v bs) (hB : B ≤ pw) (hs : s.size ≤ 1000000000) (hlen : bs.length + 4 + s.size ≤ 1000000000) :
    Calls Try.prog 43 #[.pointer (some ⟨pw, 0, none⟩), .string s] w fun e w' => e = .returned (.tuple #[]) ∧ ∃ v', Wrote w w' pw v v' ∧ WrAt w' B pw v' (bs ++ be4 s.size ++ s.data.toList) := by
  have HW := Lib.hid hW
  have hpl := lt_of_block hW.box
  clear hW
  go_enter Try.func43, Try.ntmps43
  go_wp2_with fail
  refine (numbers_any B pw w.heap.size 1 1 v bs [(s.size : Int)] _ (HW.out.alloc _) hB rfl (by omega) ?hne (by simp) ?hc (by omega)).mono ?_
  case hne =>
    intro e
    have := (HW.out.row.lt w.heap.size e.symm).2
    omega
  case hc =>
    intro j hj
    obtain rfl : j = 0 := by simp at hj; exact hj
    exact cell_of_row _ _ 0 _ _ _ (heap_alloc_new w _)
  rintro e w1 ⟨rfl, v1, hwr, hat⟩
  have HWR := Lib.hid ((Wrote.alloc w _ pw v).trans hwr)
  have hpr := lt_of_block hat.box
  have hv1 := cell_of_row w1 pw 0 _ _ _ hat.box
  simp only [List.getElem?_toArray, List.getElem?_cons_zero] at hv1
  have hz1 : ∀ o, w1.frozen? ⟨pw, o, none⟩ = false := fun o => by simp [World.frozen?, hat.box]
  have hl1 : (bs ++ [(s.size : Int)].flatMap be4).length + s.size ≤ 1000000000 := by
    simp [be4_len]
    omega
  obtain ⟨bk, hbk⟩ : ∃ bk, bk = bs ++ [(s.size : Int)].flatMap be4 := ⟨_, rfl⟩
  have hbk4 : 4 ≤ bk.length := by rw [hbk]; simp [be4_len]
  rw [← hbk] at hat hl1
  have HAT := Lib.hid hat
  have HBK := Lib.hid hbk
  clear hwr hat hbk
  obtain ⟨i0, hi0, hz0, hz1', hz2⟩ := info_parts Try.infoU8
  go_wp2_with (at_builtin; refine wpList_append_own_src (by rfl) (.tmp 13) (.tmp 14) 61 9 (by rfl) B 5 i0 _ 1 1 Try.underlying61 hi0 hz0 hz1' hz2 (by rfl) (by decide) v1 _ _ (by rfl) HAT.out.row (.string s) s.size (s.data.toList.map u8V) (by rfl) (Src.ofString _ Try.underlying9 s) (by unfold maxLen; omega) (by omega) (by omega) ?_; intro v' w2 hown hgr hor; obtain ⟨g3, cap3, rfl⟩ := own_slice hown (by omega); have hc2 : w2.cell? ⟨pw, 0, none⟩ = some v1 := (World.cell?_of_block (hgr.block pw hpr HAT.out.ne)).trans (cell_of_row _ pw 0 _ _ _ HAT.out.box); have hf2 : ∀ o, w2.frozen? ⟨pw, o, none⟩ = false := fun o => (by simp [World.frozen?, hgr.block pw hpr HAT.out.ne, HAT.out.box]); have HNX := Lib.hid (WrAt.next HWR.out HAT.out (size_data s) hown hgr hor); clear hown hgr hor)
  go_end0
  obtain ⟨h1, h2⟩ := HNX.out
  refine ⟨rfl, _, h1, ?_⟩
  have e : bs ++ be4 s.size ++ s.data.toList = bk ++ s.data.toList := by rw [HBK.out]; rfl
  rw [e]
  exact h2
theorem flag_any (b : Bool) (w : World) : Calls Try.prog 44 #[.bool b] w fun e w' => e = .returned (.int .i64 (flagI b)) ∧ w = w' := by
  cases b
  all_goals
    go_enter Try.func44, Try.ntmps44
    go_wp2_with fail
    go_ret
    exact ⟨rfl, rfl⟩

end Go.Proofs.Ythnehhidlaggeaa
