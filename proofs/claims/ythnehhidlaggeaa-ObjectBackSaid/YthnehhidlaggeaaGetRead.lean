/- object.reader: take, number, count, text: the walks. -/
import Derived.Test.YthnehhidlaggeaaObjRPut
import Derived.Test.YthnehhidlaggeaaGetPlain
import Derived.Outline
namespace Go.Proofs.Ythnehhidlaggeaa
set_option linter.unusedVariables false
set_option linter.unusedSimpArgs false
open Go.RowKit Ob

theorem unfroz {w : World} {b : Nat} {c : Array Value} {t : TypeId} (h : w.heap[b]? = some (.cells c t (0, 0))) (o : Nat) : w.frozen? ⟨b, o, none⟩ = false := by simp [World.frozen?, h]
/-- what is thrown where bytes are none -/
def shorts : Ending := .panicked [{ v := .iface 121 (.agg #[]), recovered := false }]
/-- bytes of blocks below B -/
structure SlcAt (w : World) (B : Nat) (a : Option Addr) (n c : Nat) (l : List UInt8) : Prop where
  len : l.length = n
  cap : n ≤ c
  big : c ≤ 9223372036854775807
  loc : (a = none ∧ c = 0) ∨ ∃ b off, a = some ⟨b, off, none⟩ ∧ b < B ∧ ∀ i (h : i < l.length), w.cell? ⟨b, off + i, none⟩ = some (u8V l[i])
theorem SlcAt.below {w w2 : World} {B : Nat} {a : Option Addr} {n c : Nat} {l : List UInt8} (h : SlcAt w B a n c l) (hb : Below B w w2) : SlcAt w2 B a n c l :=
  ⟨h.len, h.cap, h.big, h.loc.imp id fun ⟨b, off, e, hlt, hc⟩ => ⟨b, off, e, hlt, fun i hi => (hb.cell (p := ⟨b, off + i, none⟩) hlt).trans (hc i hi)⟩⟩
theorem SlcAt.take {w : World} {B : Nat} {a : Option Addr} {n c k : Nat} {l : List UInt8} (h : SlcAt w B a n c l) (hk : k ≤ n) : SlcAt w B a k c (l.take k) := by
  have h1 := h.len
  have h2 := h.cap
  refine ⟨by rw [List.length_take]; omega, by omega, h.big, h.loc.imp id ?_⟩
  rintro ⟨b, off, e, hlt, hc⟩
  refine ⟨b, off, e, hlt, fun i hi => ?_⟩
  rw [List.length_take] at hi
  rw [hc i (by omega), List.getElem_take]
theorem SlcAt.drop {w : World} {B : Nat} {a : Option Addr} {n c k : Nat} {l : List UInt8} (h : SlcAt w B a n c l) (hk : k ≤ n) : SlcAt w B (a.map fun x => x.add k) (n - k) (c - k) (l.drop k) := by
  have h1 := h.len
  have h2 := h.cap
  have h3 := h.big
  refine ⟨by rw [List.length_drop]; omega, by omega, by omega, ?_⟩
  rcases h.loc with ⟨rfl, h0⟩ | ⟨b, off, rfl, hlt, hc⟩
  · exact .inl ⟨rfl, by omega⟩
  · refine .inr ⟨b, off + k, ?_, hlt, fun i hi => ?_⟩
    · rw [Option.map_some, show (⟨b, off, none⟩ : Addr).add k = ⟨b, off + k, none⟩ by unfold Addr.add; split <;> simp_all]
    · rw [List.length_drop] at hi
      rw [Nat.add_assoc, hc (k + i) (by omega), List.getElem_drop]
theorem SlcAt.empty {w : World} {B : Nat} {a : Option Addr} {c k : Nat} {l : List UInt8} (h : SlcAt w B a k c l) : SlcAt w B a 0 0 (l.drop k) := by
  have h1 := h.len
  refine ⟨by rw [List.length_drop]; omega, by omega, by omega, ?_⟩
  rcases h.loc with ⟨rfl, h0⟩ | ⟨b, off, rfl, hlt, hc⟩
  · exact .inl ⟨rfl, rfl⟩
  · exact .inr ⟨b, off, rfl, hlt, fun i hi => by rw [List.length_drop] at hi; omega⟩
/-- a store into a box of its own -/
theorem box_below {w : World} {B pr : Nat} {u v : Value} {t : TypeId} (hB : B ≤ pr) (hb : w.heap[pr]? = some (.cells #[u] t (0, 0))) : Below B w (w.setCell ⟨pr, 0, none⟩ v) := by
  have g := grown_box (w := w) (b := pr) (v := v)
  have := lt_of_block hb
  exact ⟨g.os, g.tape, g.output, by have := g.size; omega, fun k hk => g.block k (by omega) (by simp; omega)⟩
/-- a reader's box -/
def RdAt (w : World) (B pr : Nat) (l : List UInt8) : Prop :=
  B ≤ pr ∧ ∃ a n c, w.heap[pr]? = some (.cells #[.slice a n c] 124 (0, 0)) ∧ SlcAt w B a n c l

set_option maxRecDepth 100000 in
set_option maxHeartbeats 1000000 in
theorem take_short (B pr k : Nat) (l : List UInt8) (w : World) (h : RdAt w B pr l) (hk : l.length < k) (hk2 : k ≤ 4294967295) :
    Calls Try.prog 85 #[.pointer (some ⟨pr, 0, none⟩), .int .i64 k] w fun e w' => e = shorts ∧ w = w' := by
  obtain ⟨hB, a, n, c, hbox, hs⟩ := h
  have c0 := cell_of_row w pr 0 _ _ _ hbox
  simp only [List.getElem?_toArray, List.getElem?_cons_zero] at c0
  have z0 := unfroz hbox
  have hn := hs.len
  have hcap := hs.cap
  have hbig := hs.big
  rw [hn] at hk
  clear hs hbox hn
  go_enter Try.func85, Try.ntmps85
  go_wp2_with fail
  exact ⟨rfl, rfl, rfl⟩

set_option maxRecDepth 100000 in
set_option maxHeartbeats 1000000 in
theorem take_ok (B pr k : Nat) (l : List UInt8) (w : World) (h : RdAt w B pr l) (hk : k ≤ l.length) (hk2 : k ≤ 4294967295) :
    Calls Try.prog 85 #[.pointer (some ⟨pr, 0, none⟩), .int .i64 k] w fun e w' => ∃ a c, e = .returned (.slice a k c) ∧ SlcAt w' B a k c (l.take k) ∧ RdAt w' B pr (l.drop k) ∧ w.grownBy w' (some pr) := by
  obtain ⟨hB, a, n, c, hbox, hs⟩ := h
  have c0 := cell_of_row w pr 0 _ _ _ hbox
  simp only [List.getElem?_toArray, List.getElem?_cons_zero] at c0
  have z0 := unfroz hbox
  have hn := hs.len
  have hcap := hs.cap
  have hbig := hs.big
  rw [hn] at hk
  have hki : ¬ (n : Int) < k := by omega
  have hkn : decide ((n : Nat) < k) = false := decide_eq_false (by omega)
  have HS := Lib.hid hs
  have HBX := Lib.hid hbox
  clear hs hbox hn
  go_enter Try.func85, Try.ntmps85
  go_wp2_with fail
  · go_ret
    obtain rfl : c = k := by assumption
    obtain rfl : n = c := by omega
    have hb := box_below (v := .slice a (n - n) 0) hB HBX.out
    rw [Nat.sub_self] at hb ⊢
    exact ⟨_, _, rfl, (HS.out.take (Nat.le_refl _)).below hb, ⟨hB, _, _, _, setCell1 HBX.out _, HS.out.empty.below hb⟩, grown_box⟩
  · go_ret
    have hb := box_below (v := .slice (a.map fun x => x.add k) (n - k) (c - k)) hB HBX.out
    exact ⟨_, _, rfl, (HS.out.take hk).below hb, ⟨hB, _, _, _, setCell1 HBX.out _, (HS.out.drop hk).below hb⟩, grown_box⟩

theorem SlcAt.some {w : World} {B : Nat} {a : Option Addr} {n c : Nat} {l : List UInt8} (h : SlcAt w B a n c l) (hn : 0 < n) : ∃ b off, a = some ⟨b, off, none⟩ ∧ b < B ∧ ∀ i (h : i < l.length), w.cell? ⟨b, off + i, none⟩ = some (u8V l[i]) := by
  have h1 := h.cap
  rcases h.loc with ⟨rfl, h0⟩ | h
  · omega
  · exact h

theorem or_bytes (b0 b1 b2 b3 : UInt8) (l : List UInt8) : bits .or .u32 (bits .or .u32 (bits .or .u32 ((b0.toNat : Int) * 16777216) (b1.toNat * 65536)) (b2.toNat * 256)) b3.toNat = be32 (b0 :: b1 :: b2 :: b3 :: l) := by
  have u0 := b0.toNat_lt
  have u1 := b1.toNat_lt
  have u2 := b2.toNat_lt
  have u3 := b3.toNat_lt
  have e1 : bits .or .u32 ((b0.toNat : Int) * 16777216) (b1.toNat * 65536) = (b0.toNat : Int) * 16777216 + b1.toNat * 65536 := Cp.or32_add b0.toNat 24 _ _ (by omega) (by omega) (by omega) (by omega) (by omega) (by omega)
  have e2 : bits .or .u32 ((b0.toNat : Int) * 16777216 + b1.toNat * 65536) (b2.toNat * 256) = (b0.toNat : Int) * 16777216 + b1.toNat * 65536 + b2.toNat * 256 := Cp.or32_add (b0.toNat * 256 + b1.toNat) 16 _ _ (by omega) (by omega) (by omega) (by omega) (by omega) (by omega)
  have e3 : bits .or .u32 ((b0.toNat : Int) * 16777216 + b1.toNat * 65536 + b2.toNat * 256) b3.toNat = (b0.toNat : Int) * 16777216 + b1.toNat * 65536 + b2.toNat * 256 + b3.toNat := Cp.or32_add ((b0.toNat * 256 + b1.toNat) * 256 + b2.toNat) 8 _ _ (by omega) (by omega) (by omega) (by omega) (by omega) (by omega)
  rw [e1, e2, e3]
  unfold be32
  simp only [List.getD_cons_zero, List.getD_cons_succ]
  omega
theorem RdAt.draw {w : World} {B pr : Nat} {l : List UInt8} (h : RdAt w B pr l) (n : Nat) : RdAt (w.drewN n) B pr l := by
  obtain ⟨h1, a, n', c, h2, h3⟩ := h
  exact ⟨h1, a, n', c, h2, ⟨h3.len, h3.cap, h3.big, h3.loc⟩⟩
set_option maxRecDepth 100000 in
set_option maxHeartbeats 1000000 in
theorem number_short (B pr : Nat) (l : List UInt8) (w : World) (h : RdAt w B pr l) (hk : l.length < 4) :
    Calls Try.prog 83 #[.pointer (some ⟨pr, 0, none⟩)] w fun e w' => e = shorts ∧ w = w' := by
  have H := Lib.hid (take_short B pr 4 l w h hk (by omega))
  clear h
  go_enter Try.func83, Try.ntmps83
  go_wp2_with fail
  refine H.out.mono ?_
  rintro e w' ⟨rfl, rfl⟩
  exact ⟨rfl, rfl, rfl⟩

set_option maxRecDepth 100000 in
set_option maxHeartbeats 1000000 in
theorem number_ok (B pr : Nat) (b0 b1 b2 b3 : UInt8) (l : List UInt8) (w : World) (h : RdAt w B pr (b0 :: b1 :: b2 :: b3 :: l)) :
    Calls Try.prog 83 #[.pointer (some ⟨pr, 0, none⟩)] w fun e w' => e = .returned (.int .u32 (be32 (b0 :: b1 :: b2 :: b3 :: l))) ∧ RdAt w' B pr l ∧ w.grownBy w' (some pr) := by
  have H := Lib.hid (take_ok B pr 4 (b0 :: b1 :: b2 :: b3 :: l) w h (by simp) (by omega))
  clear h
  go_enter Try.func83, Try.ntmps83
  go_wp2_with fail
  refine H.out.mono ?_
  rintro e w1 ⟨a, c, rfl, hs, hr, hg⟩
  obtain ⟨b, off, rfl, hb, hc⟩ := hs.some (by omega)
  have c0 := hc 0 (by simp)
  have c1 := hc 1 (by simp)
  have c2 := hc 2 (by simp)
  have c3 := hc 3 (by simp)
  simp only [List.take_succ_cons, List.take_zero, List.getElem_cons_zero, List.getElem_cons_succ, u8V] at c0 c1 c2 c3
  rw [Nat.add_zero] at c0
  have HR := Lib.hid hr
  have HGR := Lib.hid hg
  have u0 := b0.toNat_lt
  have u1 := b1.toNat_lt
  have u2 := b2.toNat_lt
  have u3 := b3.toNat_lt
  clear hs hr hg hc H
  go_wp2_with fail
  go_quiet (fail)
  go_wp2_with fail
  go_ret
  refine ⟨?_, RdAt.draw HR.out nq, grown_drewN HGR.out nq⟩
  rw [← or_bytes]
  rfl

set_option maxRecDepth 100000 in
set_option maxHeartbeats 1000000 in
theorem number_any (B pr : Nat) (l : List UInt8) (w : World) (h : RdAt w B pr l) :
    Calls Try.prog 83 #[.pointer (some ⟨pr, 0, none⟩)] w fun e w' => (num l = none ∧ e = shorts ∧ w = w') ∨ ∃ x r, num l = some (x, r) ∧ e = .returned (.int .u32 x) ∧ RdAt w' B pr r ∧ w.grownBy w' (some pr) := by
  by_cases hk : l.length < 4
  · refine (number_short B pr l w h hk).mono ?_
    rintro e w' ⟨rfl, rfl⟩
    exact .inl ⟨if_pos hk, rfl, rfl⟩
  · match l, hk with
    | b0 :: b1 :: b2 :: b3 :: l, hk =>
      refine (number_ok B pr b0 b1 b2 b3 l w h).mono ?_
      rintro e w' ⟨rfl, h1, h2⟩
      exact .inr ⟨_, _, if_neg hk, rfl, h1, h2⟩
    | [], hk => simp at hk
    | [_], hk => simp at hk
    | [_, _], hk => simp at hk
    | [_, _, _], hk => simp at hk
/-- what a call of number tells: none; or a number -/
theorem number_none (B pr : Nat) (l : List UInt8) (w : World) (h : RdAt w B pr l) (hn : num l = none) :
    Calls Try.prog 83 #[.pointer (some ⟨pr, 0, none⟩)] w fun e w' => e = shorts ∧ w = w' := by
  refine (number_any B pr l w h).mono ?_
  rintro e w' (⟨_, h1, h2⟩ | ⟨x, r, h1, _⟩)
  · exact ⟨h1, h2⟩
  · rw [hn] at h1; cases h1
theorem number_some (B pr : Nat) (l r : List UInt8) (x : Int) (w : World) (h : RdAt w B pr l) (hn : num l = some (x, r)) :
    Calls Try.prog 83 #[.pointer (some ⟨pr, 0, none⟩)] w fun e w' => e = .returned (.int .u32 x) ∧ RdAt w' B pr r ∧ w.grownBy w' (some pr) := by
  refine (number_any B pr l w h).mono ?_
  rintro e w' (⟨h1, _⟩ | ⟨y, q, h1, h2⟩)
  · rw [hn] at h1; cases h1
  · rw [hn] at h1
    injection h1 with h1
    injection h1 with h1 h3
    subst h1 h3
    exact h2

set_option maxRecDepth 100000 in
set_option maxHeartbeats 1000000 in
theorem count_none (B pr least : Nat) (l : List UInt8) (w : World) (h : RdAt w B pr l) (h0 : 0 < least) (h1 : least ≤ 28) (hn : cnt least l = none) :
    Calls Try.prog 82 #[.pointer (some ⟨pr, 0, none⟩), .int .i64 least] w fun e w' => e = shorts ∧ w.grownBy w' (some pr) := by
  rcases e : num l with _ | ⟨x, r⟩
  · have H := Lib.hid (number_none B pr l w h e)
    clear h hn e
    go_enter Try.func82, Try.ntmps82
    go_wp2_with fail
    refine H.out.mono ?_
    rintro e w' ⟨rfl, rfl⟩
    exact ⟨rfl, rfl, ⟨rfl, rfl, rfl, Nat.le_refl _, fun _ _ _ => rfl⟩⟩
  · have hx := num_bd e
    have hr : r.length / least < x.toNat := by
      unfold cnt at hn
      rw [e] at hn
      simp only at hn
      split at hn
      · assumption
      · cases hn
    have H := Lib.hid (number_some B pr l r x w h e)
    clear h hn e
    go_enter Try.func82, Try.ntmps82
    go_wp2_with fail
    refine H.out.mono ?_
    rintro e w1 ⟨rfl, ⟨hB, a, n, c, hbox, hs⟩, hg⟩
    have c0 := cell_of_row w1 pr 0 _ _ _ hbox
    simp only [List.getElem?_toArray, List.getElem?_cons_zero] at c0
    have hn := hs.len
    have hcap := hs.cap
    have hbig := hs.big
    rw [hn] at hr
    obtain ⟨q, hq⟩ : ∃ q, q = n / least := ⟨_, rfl⟩
    have hqe : (n : Int) / (least : Int) = (q : Int) := by rw [hq]; rfl
    have hqn : q ≤ n := by rw [hq]; exact Nat.div_le_self _ _
    rw [← hq] at hr
    have hqx : (q : Int) < x := by omega
    have HG := Lib.hid hg
    clear hs hbox hn hg hr H hq
    go_wp2_with fail
    exact ⟨rfl, rfl, HG.out⟩

set_option maxRecDepth 100000 in
set_option maxHeartbeats 1000000 in
theorem count_some (B pr least k : Nat) (l r : List UInt8) (w : World) (h : RdAt w B pr l) (h0 : 0 < least) (h1 : least ≤ 28) (hn : cnt least l = some (k, r)) :
    Calls Try.prog 82 #[.pointer (some ⟨pr, 0, none⟩), .int .i64 least] w fun e w' => e = .returned (.int .i64 k) ∧ RdAt w' B pr r ∧ w.grownBy w' (some pr) := by
  obtain ⟨x, e, rfl, hr⟩ := cnt_num hn
  have hx := num_bd e
  have H := Lib.hid (number_some B pr l r x w h e)
  obtain ⟨y, rfl⟩ := Int.eq_ofNat_of_zero_le hx.1
  clear h hn e
  rw [Int.toNat_natCast] at hr ⊢
  go_enter Try.func82, Try.ntmps82
  go_wp2_with fail
  refine H.out.mono ?_
  rintro e w1 ⟨rfl, hrd, hg⟩
  have HRD := Lib.hid hrd
  obtain ⟨hB, a, n, c, hbox, hs⟩ := hrd
  have c0 := cell_of_row w1 pr 0 _ _ _ hbox
  simp only [List.getElem?_toArray, List.getElem?_cons_zero] at c0
  have hn := hs.len
  have hcap := hs.cap
  have hbig := hs.big
  rw [hn] at hr
  obtain ⟨q, hq⟩ : ∃ q, q = n / least := ⟨_, rfl⟩
  have hqe : (n : Int) / (least : Int) = (q : Int) := by rw [hq]; rfl
  have hqn : q ≤ n := by rw [hq]; exact Nat.div_le_self _ _
  rw [← hq] at hr
  have hqy : decide (q < y) = false := decide_eq_false (by omega)
  have HG := Lib.hid hg
  clear hs hbox hn hg H hq
  go_wp2_with fail
  go_ret
  exact ⟨rfl, HRD.out, HG.out⟩

/-- the closure that reads a text -/
theorem cnt_txt {l : List UInt8} : txt l = match cnt 1 l with | none => none | some (n, r) => some (r.take n, r.drop n) := by
  unfold txt cnt
  rcases num l with _ | ⟨x, r⟩
  · rfl
  · simp only [Nat.div_one]
    by_cases h : r.length < x.toNat
    · rw [if_pos h, if_pos h]
    · rw [if_neg h, if_neg h]

end Go.Proofs.Ythnehhidlaggeaa
