/- The image in its making, in memory: no walk. -/
import Derived.Test.YthnehhidlaggeaaLinkMem
import Derived.Test.YthnehhidlaggeaaLinkPlain
import Derived.Test.YthnehhidlaggeaaAppSrc
import Derived.Test.YthnehhidlaggeaaObjNum
import Derived.Maps.OwnSet
namespace Go.Proofs.Ythnehhidlaggeaa
set_option linter.unusedVariables false
set_option linter.unusedSimpArgs false
open Go.RowKit Ob

theorem own_apart2 {w : World} {b1 b2 : Nat} {e1 e2 : TypeId} {s1 s2 n1 n2 : Nat} {v1 v2 : Value} {x1 x2 : List Value} (h1 : w.ownsRow b1 e1 s1 v1 n1 x1) (h2 : w.ownsRow b2 e2 s2 v2 n2 x2) (hne : e1 ≠ e2) : v2.ownBlock = none ∨ v2.ownBlock ≠ v1.ownBlock := by
  rcases h2.2 with ⟨rfl, _⟩ | ⟨g, cap, cur, rfl, _, hg, _⟩
  · exact .inl rfl
  · exact .inr (own_ne h1 hg hne)
theorem own_off2 {w : World} {b : Nat} {e : TypeId} {s n : Nat} {v : Value} {xs : List Value} (h : w.ownsRow b e s v n xs) {k : Nat} {cs : Array Value} {t : TypeId} {fz : Nat × Nat} (hk : w.heap[k]? = some (.cells cs t fz)) (hne : e ≠ t) : v.ownBlock = none ∨ v.ownBlock ≠ some k :=
  .inr (fun e' => own_ne h hk hne e'.symm)
def u32s (l : List Int) : List Value := l.map (Value.int .u32)
def i32s (l : List Int) : List Value := l.map (Value.int .i32)
def rngs (l : List Rng) : List Value := l.flatMap rngCells
/-- results that are still 0, the image's box, its rows -/
structure ImAt (W0 w : World) (bi bm : Nat) (vc vd vr : Value) (mem : Int) (xc xd : List Int) (xr : List Rng) : Prop where
  hbi : bi = W0.heap.size
  hbm : bi + 1 < bm
  img : w.heap[bi]? = some (.cells #[.slice none 0 0, .slice none 0 0, .int .i64 0] 34 (0, 0))
  trb : w.heap[bi + 1]? = some (.cells #[.int .i64 0, .int .i64 0, .int .i64 0] 73 (0, 0))
  box : w.heap[bm]? = some (.cells #[vc, vd, .int .i64 mem] 34 (0, 0))
  rc : w.ownsRow (bi + 2) 22 1 vc xc.length (u32s xc)
  rd : w.ownsRow (bi + 2) 21 1 vd xd.length (i32s xd)
  rr : w.ownsRow (bi + 2) 77 5 vr xr.length (rngs xr)
  below : Below bi W0 w
theorem own_belowG {w w2 : World} {B n sz : Nat} {t : TypeId} {v : Value} {xs : List Value} (h : w.ownsRow B t sz v n xs) (hb : Below w.heap.size w w2) : w2.ownsRow B t sz v n xs :=
  h.kept (row := none) ⟨hb.os, hb.tape, hb.output, hb.size, fun k hk _ => hb.block k hk⟩ (by cases hv : v.ownBlock <;> simp)
theorem set_grown (w : World) (g j : Nat) (u : Value) : w.grownBy (w.setCell ⟨g, j, none⟩ u) (some g) :=
  ⟨rfl, rfl, rfl, by simp, fun k _ hk => heap_setCell_other w ⟨g, j, none⟩ k u (fun e => hk (by simp [e]))⟩
section
variable {W0 w : World} {bi bm : Nat} {vc vd vr : Value} {mem : Int} {xc xd : List Int} {xr : List Rng}
theorem ImAt.size (h : ImAt W0 w bi bm vc vd vr mem xc xd xr) : bm < w.heap.size := lt_of_block h.box
theorem ImAt.go {w2 : World} (h : ImAt W0 w bi bm vc vd vr mem xc xd xr) (hb : Below w.heap.size w w2) : ImAt W0 w2 bi bm vc vd vr mem xc xd xr := by
  have h1 := h.hbm
  have h2 := h.size
  exact ⟨h.hbi, h1, (hb.block _ (by omega)).trans h.img, (hb.block _ (by omega)).trans h.trb, (hb.block _ h2).trans h.box, own_belowG h.rc hb, own_belowG h.rd hb, own_belowG h.rr hb, h.below.trans (hb.mono (by omega))⟩
/-- one block that is none of these is written -/
theorem ImAt.other {w2 : World} {k : Nat} {cs : Array Value} {t : TypeId} {fz : Nat × Nat} (h : ImAt W0 w bi bm vc vd vr mem xc xd xr) (hk : w.heap[k]? = some (.cells cs t fz)) (hg : w.grownBy w2 (some k)) (hlt : bi + 1 < k) (hne : k ≠ bm) (t1 : 22 ≠ t) (t2 : 21 ≠ t) (t3 : 77 ≠ t) : ImAt W0 w2 bi bm vc vd vr mem xc xd xr := by
  have h1 := h.hbm
  have h2 := h.size
  exact ⟨h.hbi, h1, (hg.block _ (by omega) (by simp; omega)).trans h.img, (hg.block _ (by omega) (by simp; omega)).trans h.trb, (hg.block _ h2 (by simp; omega)).trans h.box,
    h.rc.kept hg (own_off2 h.rc hk t1), h.rd.kept hg (own_off2 h.rd hk t2), h.rr.kept hg (own_off2 h.rr hk t3), h.below.grown hg (by omega) (fun g e => by injection e with e; omega)⟩
/-- the code has grown, and lies in the box -/
theorem ImAt.setC {w2 : World} {v' : Value} {ys : List Int} (h : ImAt W0 w bi bm vc vd vr mem xc xd xr) (hown : w2.ownsRow (bi + 2) 22 1 v' (xc.length + ys.length) (u32s xc ++ u32s ys)) (hg : w.grownBy w2 vc.ownBlock) : ImAt W0 (w2.setCell ⟨bm, 0, none⟩ v') bi bm v' vd vr mem (xc ++ ys) xd xr := by
  have h1 := h.hbm
  have h2 := h.size
  have hrow : ∀ k, vc.ownBlock = some k → bi + 2 ≤ k := fun k e => (h.rc.lt k e).1
  have hbx := (hg.block bm h2 (own_ne h.rc h.box (by decide))).trans h.box
  have g := set_grown w2 bm 0 v'
  have hsz := hg.size
  refine ⟨h.hbi, h1, ?_, ?_, heap_setCell_same w2 bm 0 _ _ v' hbx, ?_, ?_, ?_, (h.below.grown hg (by omega) (fun k e => by have := hrow k e; omega)).grown g (by omega) (fun k e => by injection e with e; omega)⟩
  · rw [g.block _ (by omega) (by simp; omega), hg.block _ (by omega) (own_ne h.rc h.img (by decide))]; exact h.img
  · rw [g.block _ (by omega) (by simp; omega), hg.block _ (by omega) (own_ne h.rc h.trb (by decide))]; exact h.trb
  · rw [List.length_append]
    unfold u32s at hown ⊢
    rw [List.map_append]
    exact hown.kept g (own_off2 hown hbx (by decide))
  · have hd := h.rd.kept hg (own_apart2 h.rc h.rd (by decide))
    exact hd.kept g (own_off2 hd hbx (by decide))
  · have hd := h.rr.kept hg (own_apart2 h.rc h.rr (by decide))
    exact hd.kept g (own_off2 hd hbx (by decide))
/-- the data have grown, and lie in the box -/
theorem ImAt.setD {w2 : World} {v' : Value} {ys : List Int} (h : ImAt W0 w bi bm vc vd vr mem xc xd xr) (hown : w2.ownsRow (bi + 2) 21 1 v' (xd.length + ys.length) (i32s xd ++ i32s ys)) (hg : w.grownBy w2 vd.ownBlock) : ImAt W0 (w2.setCell ⟨bm, 1, none⟩ v') bi bm vc v' vr mem xc (xd ++ ys) xr := by
  have h1 := h.hbm
  have h2 := h.size
  have hrow : ∀ k, vd.ownBlock = some k → bi + 2 ≤ k := fun k e => (h.rd.lt k e).1
  have hbx := (hg.block bm h2 (own_ne h.rd h.box (by decide))).trans h.box
  have g := set_grown w2 bm 1 v'
  have hsz := hg.size
  refine ⟨h.hbi, h1, ?_, ?_, heap_setCell_same w2 bm 1 _ _ v' hbx, ?_, ?_, ?_, (h.below.grown hg (by omega) (fun k e => by have := hrow k e; omega)).grown g (by omega) (fun k e => by injection e with e; omega)⟩
  · rw [g.block _ (by omega) (by simp; omega), hg.block _ (by omega) (own_ne h.rd h.img (by decide))]; exact h.img
  · rw [g.block _ (by omega) (by simp; omega), hg.block _ (by omega) (own_ne h.rd h.trb (by decide))]; exact h.trb
  · have hd := h.rc.kept hg (own_apart2 h.rd h.rc (by decide))
    exact hd.kept g (own_off2 hd hbx (by decide))
  · rw [List.length_append]
    unfold i32s at hown ⊢
    rw [List.map_append]
    exact hown.kept g (own_off2 hown hbx (by decide))
  · have hd := h.rr.kept hg (own_apart2 h.rd h.rr (by decide))
    exact hd.kept g (own_off2 hd hbx (by decide))
/-- a range more -/
theorem ImAt.addR {w2 : World} {v' : Value} {x : Rng} (h : ImAt W0 w bi bm vc vd vr mem xc xd xr) (hown : w2.ownsRow (bi + 2) 77 5 v' (xr.length + 1) (rngs xr ++ rngCells x)) (hg : w.grownBy w2 vr.ownBlock) : ImAt W0 w2 bi bm vc vd v' mem xc xd (xr ++ [x]) := by
  have h1 := h.hbm
  have h2 := h.size
  have hrow : ∀ k, vr.ownBlock = some k → bi + 2 ≤ k := fun k e => (h.rr.lt k e).1
  refine ⟨h.hbi, h1, ?_, ?_, ?_, h.rc.kept hg (own_apart2 h.rr h.rc (by decide)), h.rd.kept hg (own_apart2 h.rr h.rd (by decide)), ?_, h.below.grown hg (by omega) (fun k e => by have := hrow k e; omega)⟩
  · rw [hg.block _ (by omega) (own_ne h.rr h.img (by decide))]; exact h.img
  · rw [hg.block _ (by omega) (own_ne h.rr h.trb (by decide))]; exact h.trb
  · rw [hg.block _ h2 (own_ne h.rr h.box (by decide))]; exact h.box
  · rw [List.length_append]
    unfold rngs at hown ⊢
    rw [List.flatMap_append]
    simpa using hown
/-- a word of the code is written -/
theorem ImAt.word {g cap : Nat} (h : ImAt W0 w bi bm (.slice (some ⟨g, 0, none⟩) xc.length cap) vd vr mem xc xd xr) (j : Nat) (n : Int) : ImAt W0 (w.setCell ⟨g, j, none⟩ (.int .u32 n)) bi bm (.slice (some ⟨g, 0, none⟩) xc.length cap) vd vr mem (xc.set j n) xd xr := by
  have h1 := h.hbm
  have h2 := h.size
  obtain ⟨hs, hg⟩ := h.rc.stored j (.int .u32 n)
  have hrow : (Value.slice (some ⟨g, 0, none⟩) xc.length cap).ownBlock = some g := rfl
  have hgl := h.rc.lt g rfl
  rw [← hrow] at hg
  refine ⟨h.hbi, h1, ?_, ?_, ?_, ?_, h.rd.kept hg (own_apart2 h.rc h.rd (by decide)), h.rr.kept hg (own_apart2 h.rc h.rr (by decide)), h.below.grown hg (by omega) (fun k e => by rw [hrow] at e; injection e with e; omega)⟩
  · rw [hg.block _ (by omega) (own_ne h.rc h.img (by decide))]; exact h.img
  · rw [hg.block _ (by omega) (own_ne h.rc h.trb (by decide))]; exact h.trb
  · rw [hg.block _ h2 (own_ne h.rc h.box (by decide))]; exact h.box
  · rw [List.length_set]
    unfold u32s at hs ⊢
    rw [List.map_set]
    exact hs
end

end Go.Proofs.Ythnehhidlaggeaa

/-! What an object's rows yield to an append; what a type's row says: no walk. -/
namespace Go.Proofs.Ythnehhidlaggeaa
set_option linter.unusedVariables false
set_option linter.unusedSimpArgs false
open Go.RowKit Ob

theorem lk_u32 : (Try.prog.info? 22).map (fun i => (i.zero, i.size, i.bytes)) = some (some (.int .u32 0), 1, 4) := by kernel_rfl
theorem lk_i32 : (Try.prog.info? 21).map (fun i => (i.zero, i.size, i.bytes)) = some (some (.int .i32 0), 1, 4) := by kernel_rfl
theorem lk_i64 : (Try.prog.info? 3).map (fun i => (i.zero, i.size, i.bytes)) = some (some (.int .i64 0), 1, 8) := by kernel_rfl
theorem lk_rng : (Try.prog.info? 77).map (fun i => (i.zero, i.size, i.bytes)) = some (some (.agg #[.string ⟨#[]⟩, .int .i64 0, .int .i64 0, .int .i64 0, .int .i64 0]), 5, 48) := by kernel_rfl

theorem src_slice {w : World} {k : IntKind} {p : Option Addr} {n kn : Nat} {l : List Int} {tx e' : TypeId} (hk : Try.prog.underlying tx = some (.slice e')) (h : SliceAt w k p l) (hl : l.length = n) :
    Src Try.prog 1 tx (.slice p n kn) n (l.map (Value.int k)) w := by
  have h1 : ∀ u ∈ l.map (Value.int k), u.oneCell' = true := fun u hu => by
    obtain ⟨_, _, rfl⟩ := List.mem_map.1 hu
    rfl
  rcases h with h0 | ⟨c, co, rfl, hc, hr⟩
  · obtain rfl : l = [] := List.eq_nil_of_length_eq_zero h0
    simp only [List.length_nil] at hl
    subst hl
    cases p with
    | none => exact Src.ofNil w hk kn
    | some a => exact Src.ofSlice w hk a 0 kn [] rfl (fun j u hu => by simp at hu) h1
  · refine Src.ofSlice w hk ⟨c, co, none⟩ n kn _ (by rw [List.length_map, Nat.mul_one, hl]) (fun j u hu => ?_) h1
    rw [Addr.add_lit]
    rw [List.getElem?_map] at hu
    cases e : l[j]? with
    | none => rw [e] at hu; cases hu
    | some x =>
      rw [e] at hu
      simp only [Option.map_some, Option.some.injEq] at hu
      obtain ⟨hj, hx⟩ := List.getElem?_eq_some_iff.1 e
      rw [hr j hj, ← hu, ← hx, List.getD_eq_getElem?_getD, List.getElem?_eq_getElem hj]
      rfl
theorem own_form {w : World} {b : Nat} {e : TypeId} {s n : Nat} {v : Value} {xs : List Value} (h : w.ownsRow b e s v n xs) : ∃ p c, v = .slice p n c := by
  rcases h.2 with ⟨rfl, rfl⟩ | ⟨g, cap, cur, rfl, _⟩
  · exact ⟨none, 0, rfl⟩
  · exact ⟨_, cap, rfl⟩
/-- five cells of a block, written anew -/
theorem set5 {w : World} {b : Nat} {t : TypeId} {x0 x1 x2 x3 x4 : Value} (y0 y1 y2 y3 y4 : Value) (h : w.heap[b]? = some (.cells #[x0, x1, x2, x3, x4] t (0, 0))) :
    (((((w.setCell ⟨b, 0, none⟩ y0).setCell ⟨b, 1, none⟩ y1).setCell ⟨b, 2, none⟩ y2).setCell ⟨b, 3, none⟩ y3).setCell ⟨b, 4, none⟩ y4).heap[b]? = some (.cells #[y0, y1, y2, y3, y4] t (0, 0)) := by
  have h0 := heap_setCell_same w b 0 _ _ y0 h
  have h1 := heap_setCell_same _ b 1 _ _ y1 h0
  have h2 := heap_setCell_same _ b 2 _ _ y2 h1
  have h3 := heap_setCell_same _ b 3 _ _ y3 h2
  have h4 := heap_setCell_same _ b 4 _ _ y4 h3
  exact h4
theorem set_last5 {w : World} {b : Nat} {t : TypeId} {x0 x1 x2 x3 x4 : Value} (y4 : Value) (h : w.heap[b]? = some (.cells #[x0, x1, x2, x3, x4] t (0, 0))) :
    (w.setCell ⟨b, 4, none⟩ y4).heap[b]? = some (.cells #[x0, x1, x2, x3, y4] t (0, 0)) := heap_setCell_same w b 4 _ _ y4 h
theorem ImAt.word_at {W0 w : World} {bi bm N g cap : Nat} {vd vr : Value} {mem : Int} {xc xd : List Int} {xr : List Rng} (h : ImAt W0 w bi bm (.slice (some ⟨g, 0, none⟩) N cap) vd vr mem xc xd xr) (hN : xc.length = N) (j : Nat) (n : Int) : ImAt W0 (w.setCell ⟨g, j, none⟩ (.int .u32 n)) bi bm (.slice (some ⟨g, 0, none⟩) N cap) vd vr mem (xc.set j n) xd xr := by
  subst hN
  exact h.word j n

end Go.Proofs.Ythnehhidlaggeaa

/-! The linker in memory: no walk. -/
namespace Go.Proofs.Ythnehhidlaggeaa
set_option linter.unusedVariables false
set_option linter.unusedSimpArgs false
open Go.RowKit Ob

def i64s (l : List Int) : List Value := l.map (Value.int .i64)
def heldR (v : Value) : Option (DataW Value × List MemPlace) := some (.held v, [])
def homeZ : Value := .agg #[.int .i64 0, .string ⟨#[]⟩, .int .i64 0, .bool false, .int .i64 0, .int .i64 0, .string ⟨#[]⟩, .int .i64 0]
theorem has_all (L : List (List UInt8 × Value)) (hn : (L.map Prod.fst).Nodup) (k : List UInt8) : Maps.has (putAll L) (.string k) = (L.lookup k).isSome := by
  have h := fun z => putAll_at L hn k z
  cases e : L.lookup k with
  | none =>
    refine Maps.has_false_of_atKey (fun z => ?_)
    rw [h z, e]
  | some x =>
    exact Maps.has_true_of_atKey (y := .held x) (fun z => by rw [h z, e])
theorem homes_look {w : World} {b n : Nat} {L : List (List UInt8 × Value)} (h : w.ownsMap Try.prog 9 heldR b n (putAll L)) (hn : (L.map Prod.fst).Nodup) (s : ByteArray) (hs : s.size ≤ 9223372036854775807) :
    (Instr.lookup 135 (.map (some b)) (.string s) true).run Try.prog w = .ok (.tuple #[(L.lookup s.data.toList).getD homeZ, .bool (L.lookup s.data.toList).isSome]) w ∧
    (Instr.lookup 135 (.map (some b)) (.string s) false).run Try.prog w = .ok ((L.lookup s.data.toList).getD homeZ) w := by
  have hz : (zeroValue 172).run Try.prog w = .ok homeZ w := by kernel_rfl
  have hk := WideMaps.keyOf_string_mk Try.underlying9 (s := s) (by unfold maxLen; omega)
  have hval : ∀ v ps, heldR v = some ((putAll L).atKey (.string s.data.toList) (.held homeZ), ps) → v = (L.lookup s.data.toList).getD homeZ := by
    intro v ps hv
    rw [putAll_at L hn] at hv
    unfold heldR at hv
    simp only [Option.some.injEq, Prod.mk.injEq, and_true] at hv
    cases e : L.lookup s.data.toList with
    | none => rw [e] at hv; simp only [DataW.held.injEq] at hv; exact hv.1
    | some x => rw [e] at hv; simp only [DataW.held.injEq] at hv; exact hv.1
  constructor
  · obtain ⟨v, ps, hrun, hv⟩ := h.look_ok (Maps.string_keyed Try.underlying9) Try.underlying135 hz (zd := .held homeZ) (zp := []) rfl hk
    rw [hrun, has_all L hn, hval v ps hv]
  · obtain ⟨v, ps, hrun, hv⟩ := h.lookup (Maps.string_keyed Try.underlying9) Try.underlying135 hz (zd := .held homeZ) (zp := []) rfl hk
    rw [hrun, hval v ps hv]
theorem own_ne_map {w : World} {base : Nat} {e : TypeId} {size n : Nat} {v : Value} {xs : List Value} (h : w.ownsRow base e size v n xs) {g : Nat} {es : Array MapEntry} {cl : Nat} (hg : w.heap[g]? = some (.map es cl)) : some g ≠ v.ownBlock := by
  rcases h.2 with ⟨rfl, _⟩ | ⟨g', cap, cur, rfl, _, hh, _⟩
  · simp [Value.ownBlock]
  · intro he
    obtain rfl : g = g' := by simpa [Value.ownBlock] using he
    rw [hg] at hh
    injection hh with hh
    cases hh

/-- the linker -/
structure LkAt (W0 w : World) (bl bm c co n kap : Nat) (vk vd vC vD : Value) (mem : Int) (L : List (List UInt8 × Value)) (ks ds xc xd : List Int) : Prop where
  base : W0.heap.size ≤ bl
  mbase : W0.heap.size ≤ bm
  box : w.heap[bl]? = some (.cells #[.slice (some ⟨c, co, none⟩) n kap, .map (some bm), vk, vd, vC, vD, .int .i64 mem] 138 (0, 0))
  map : w.ownsMap Try.prog 9 heldR bm L.length (putAll L)
  nd : (L.map Prod.fst).Nodup
  rk : w.ownsRow W0.heap.size 3 1 vk ks.length (i64s ks)
  rd : w.ownsRow W0.heap.size 3 1 vd ds.length (i64s ds)
  rC : w.ownsRow W0.heap.size 22 1 vC xc.length (u32s xc)
  rD : w.ownsRow W0.heap.size 21 1 vD xd.length (i32s xd)
  apart : vd.ownBlock = none ∨ vd.ownBlock ≠ vk.ownBlock
  below : Below W0.heap.size W0 w
section
variable {W0 w : World} {bl bm c co n kap : Nat} {vk vd vC vD : Value} {mem : Int} {L : List (List UInt8 × Value)} {ks ds xc xd : List Int}
theorem LkAt.size (h : LkAt W0 w bl bm c co n kap vk vd vC vD mem L ks ds xc xd) : bl < w.heap.size := lt_of_block h.box
theorem LkAt.mapAt (h : LkAt W0 w bl bm c co n kap vk vd vC vD mem L ks ds xc xd) : ∃ es cl, w.heap[bm]? = some (.map es cl) := by
  obtain ⟨es, cl, h1, _⟩ := h.map
  exact ⟨es, cl, h1⟩
theorem LkAt.ne (h : LkAt W0 w bl bm c co n kap vk vd vC vD mem L ks ds xc xd) : bl ≠ bm := by
  obtain ⟨es, cl, h1⟩ := h.mapAt
  intro e
  subst e
  rw [h.box] at h1
  injection h1 with h1
  cases h1
theorem LkAt.go {w2 : World} (h : LkAt W0 w bl bm c co n kap vk vd vC vD mem L ks ds xc xd) (hb : Below w.heap.size w w2) : LkAt W0 w2 bl bm c co n kap vk vd vC vD mem L ks ds xc xd := by
  have hg : w.grownBy w2 none := ⟨hb.os, hb.tape, hb.output, hb.size, fun k hk _ => hb.block k hk⟩
  exact ⟨h.base, h.mbase, (hb.block _ h.size).trans h.box, h.map.kept hg (by simp), h.nd, own_belowG h.rk hb, own_belowG h.rd hb, own_belowG h.rC hb, own_belowG h.rD hb, h.apart, h.below.trans (hb.mono h.below.size)⟩
/-- a name is put in -/
theorem LkAt.put {w2 : World} {nm : List UInt8} {v : Value} (h : LkAt W0 w bl bm c co n kap vk vd vC vD mem L ks ds xc xd) (hm : w2.ownsMap Try.prog 9 heldR bm (L.length + 1) ((putAll L).put (.string nm) (.held v))) (hg : w.grownBy w2 (some bm)) (hn : nm ∉ L.map Prod.fst) : LkAt W0 w2 bl bm c co n kap vk vd vC vD mem (L ++ [(nm, v)]) ks ds xc xd := by
  obtain ⟨es, cl, hmap⟩ := h.mapAt
  have hr : ∀ {e : TypeId} {s k : Nat} {v : Value} {xs : List Value}, w.ownsRow W0.heap.size e s v k xs → v.ownBlock = none ∨ v.ownBlock ≠ some bm := fun hh => .inr (fun e => own_ne_map hh hmap e.symm)
  refine ⟨h.base, h.mbase, (hg.block _ h.size (by have := h.ne; simpa using this)).trans h.box, ?_, ?_, h.rk.kept hg (hr h.rk), h.rd.kept hg (hr h.rd), h.rC.kept hg (hr h.rC), h.rD.kept hg (hr h.rD), h.apart, h.below.grown hg h.below.size (fun k e => by injection e with e; have := h.mbase; omega)⟩
  · rw [List.length_append, putAll_snoc]
    exact hm
  · rw [List.map_append, List.nodup_append]
    refine ⟨h.nd, by simp, ?_⟩
    intro a ha b hb e
    simp only [List.map_cons, List.map_nil, List.mem_singleton] at hb
    subst hb
    subst e
    exact hn ha
/-- row k has grown, and lies in the box -/
theorem LkAt.setk {w2 : World} {vk' : Value} {ys : List Int} (h : LkAt W0 w bl bm c co n kap vk vd vC vD mem L ks ds xc xd) (hown : w2.ownsRow W0.heap.size 3 1 vk' (ks.length + ys.length) (i64s ks ++ i64s ys)) (hg : w.grownBy w2 vk.ownBlock) (hor : vk'.ownBlock = vk.ownBlock ∨ vk'.ownBlock = some w.heap.size) : LkAt W0 (w2.setCell ⟨bl, 2, none⟩ vk') bl bm c co n kap vk' vd vC vD mem L (ks ++ ys) ds xc xd := by
  have h2 := h.size
  obtain ⟨es, cl, hmap⟩ := h.mapAt
  have hbx := (hg.block bl h2 (own_ne h.rk h.box (by decide))).trans h.box
  have g := set_grown w2 bl 2 vk'
  have hsz := hg.size
  have hmne := own_ne_map h.rk hmap
  refine ⟨h.base, h.mbase, heap_setCell_same w2 bl 2 _ _ vk' hbx, (h.map.kept hg hmne).kept g (by have := h.ne; simpa using this.symm), h.nd, ?_, ?_, ?_, ?_, ?_, (h.below.grown hg h.below.size (fun k e => (h.rk.lt k e).1)).grown g (Nat.le_trans h.below.size hsz) (fun k e => by injection e with e; have := h.base; omega)⟩
  · rw [List.length_append]
    unfold i64s at hown ⊢
    rw [List.map_append]
    exact hown.kept g (own_off2 hown hbx (by decide))
  · have hd := h.rd.kept hg h.apart
    exact hd.kept g (own_off2 hd hbx (by decide))
  · have hd := h.rC.kept hg (own_apart2 h.rk h.rC (by decide))
    exact hd.kept g (own_off2 hd hbx (by decide))
  · have hd := h.rD.kept hg (own_apart2 h.rk h.rD (by decide))
    exact hd.kept g (own_off2 hd hbx (by decide))
  · rcases h.apart with e | e
    · exact .inl e
    · rcases hor with e2 | e2
      · rw [e2]; exact .inr e
      · refine .inr (fun e3 => ?_)
        rw [e2] at e3
        have := (h.rd.lt _ e3).2
        omega
/-- row d has grown, and lies in the box -/
theorem LkAt.setd {w2 : World} {vd' : Value} {ys : List Int} (h : LkAt W0 w bl bm c co n kap vk vd vC vD mem L ks ds xc xd) (hown : w2.ownsRow W0.heap.size 3 1 vd' (ds.length + ys.length) (i64s ds ++ i64s ys)) (hg : w.grownBy w2 vd.ownBlock) (hor : vd'.ownBlock = vd.ownBlock ∨ vd'.ownBlock = some w.heap.size) : LkAt W0 (w2.setCell ⟨bl, 3, none⟩ vd') bl bm c co n kap vk vd' vC vD mem L ks (ds ++ ys) xc xd := by
  have h2 := h.size
  obtain ⟨es, cl, hmap⟩ := h.mapAt
  have hbx := (hg.block bl h2 (own_ne h.rd h.box (by decide))).trans h.box
  have g := set_grown w2 bl 3 vd'
  have hsz := hg.size
  have hmne := own_ne_map h.rd hmap
  refine ⟨h.base, h.mbase, heap_setCell_same w2 bl 3 _ _ vd' hbx, (h.map.kept hg hmne).kept g (by have := h.ne; simpa using this.symm), h.nd, ?_, ?_, ?_, ?_, ?_, (h.below.grown hg h.below.size (fun k e => (h.rd.lt k e).1)).grown g (Nat.le_trans h.below.size hsz) (fun k e => by injection e with e; have := h.base; omega)⟩
  · have hd := h.rk.kept hg (by
      rcases h.apart with e | e
      · rw [e]; cases vk.ownBlock <;> simp
      · exact .inr (fun e2 => e e2.symm))
    exact hd.kept g (own_off2 hd hbx (by decide))
  · rw [List.length_append]
    unfold i64s at hown ⊢
    rw [List.map_append]
    exact hown.kept g (own_off2 hown hbx (by decide))
  · have hd := h.rC.kept hg (own_apart2 h.rd h.rC (by decide))
    exact hd.kept g (own_off2 hd hbx (by decide))
  · have hd := h.rD.kept hg (own_apart2 h.rd h.rD (by decide))
    exact hd.kept g (own_off2 hd hbx (by decide))
  · rcases hor with e2 | e2
    · rw [e2]; exact h.apart
    · refine .inr (fun e3 => ?_)
      rw [e2] at e3
      have := (h.rk.lt _ e3.symm).2
      omega
/-- row C has grown, and lies in the box -/
theorem LkAt.setC {w2 : World} {vC' : Value} {ys : List Int} (h : LkAt W0 w bl bm c co n kap vk vd vC vD mem L ks ds xc xd) (hown : w2.ownsRow W0.heap.size 22 1 vC' (xc.length + ys.length) (u32s xc ++ u32s ys)) (hg : w.grownBy w2 vC.ownBlock) (hor : vC'.ownBlock = vC.ownBlock ∨ vC'.ownBlock = some w.heap.size) : LkAt W0 (w2.setCell ⟨bl, 4, none⟩ vC') bl bm c co n kap vk vd vC' vD mem L ks ds (xc ++ ys) xd := by
  have h2 := h.size
  obtain ⟨es, cl, hmap⟩ := h.mapAt
  have hbx := (hg.block bl h2 (own_ne h.rC h.box (by decide))).trans h.box
  have g := set_grown w2 bl 4 vC'
  have hsz := hg.size
  have hmne := own_ne_map h.rC hmap
  refine ⟨h.base, h.mbase, heap_setCell_same w2 bl 4 _ _ vC' hbx, (h.map.kept hg hmne).kept g (by have := h.ne; simpa using this.symm), h.nd, ?_, ?_, ?_, ?_, ?_, (h.below.grown hg h.below.size (fun k e => (h.rC.lt k e).1)).grown g (Nat.le_trans h.below.size hsz) (fun k e => by injection e with e; have := h.base; omega)⟩
  · have hd := h.rk.kept hg (own_apart2 h.rC h.rk (by decide))
    exact hd.kept g (own_off2 hd hbx (by decide))
  · have hd := h.rd.kept hg (own_apart2 h.rC h.rd (by decide))
    exact hd.kept g (own_off2 hd hbx (by decide))
  · rw [List.length_append]
    unfold u32s at hown ⊢
    rw [List.map_append]
    exact hown.kept g (own_off2 hown hbx (by decide))
  · have hd := h.rD.kept hg (own_apart2 h.rC h.rD (by decide))
    exact hd.kept g (own_off2 hd hbx (by decide))
  · exact h.apart
/-- row D has grown, and lies in the box -/
theorem LkAt.setD {w2 : World} {vD' : Value} {ys : List Int} (h : LkAt W0 w bl bm c co n kap vk vd vC vD mem L ks ds xc xd) (hown : w2.ownsRow W0.heap.size 21 1 vD' (xd.length + ys.length) (i32s xd ++ i32s ys)) (hg : w.grownBy w2 vD.ownBlock) (hor : vD'.ownBlock = vD.ownBlock ∨ vD'.ownBlock = some w.heap.size) : LkAt W0 (w2.setCell ⟨bl, 5, none⟩ vD') bl bm c co n kap vk vd vC vD' mem L ks ds xc (xd ++ ys) := by
  have h2 := h.size
  obtain ⟨es, cl, hmap⟩ := h.mapAt
  have hbx := (hg.block bl h2 (own_ne h.rD h.box (by decide))).trans h.box
  have g := set_grown w2 bl 5 vD'
  have hsz := hg.size
  have hmne := own_ne_map h.rD hmap
  refine ⟨h.base, h.mbase, heap_setCell_same w2 bl 5 _ _ vD' hbx, (h.map.kept hg hmne).kept g (by have := h.ne; simpa using this.symm), h.nd, ?_, ?_, ?_, ?_, ?_, (h.below.grown hg h.below.size (fun k e => (h.rD.lt k e).1)).grown g (Nat.le_trans h.below.size hsz) (fun k e => by injection e with e; have := h.base; omega)⟩
  · have hd := h.rk.kept hg (own_apart2 h.rD h.rk (by decide))
    exact hd.kept g (own_off2 hd hbx (by decide))
  · have hd := h.rd.kept hg (own_apart2 h.rD h.rd (by decide))
    exact hd.kept g (own_off2 hd hbx (by decide))
  · have hd := h.rC.kept hg (own_apart2 h.rD h.rC (by decide))
    exact hd.kept g (own_off2 hd hbx (by decide))
  · rw [List.length_append]
    unfold i32s at hown ⊢
    rw [List.map_append]
    exact hown.kept g (own_off2 hown hbx (by decide))
  · exact h.apart
/-- a word of the code is written -/
theorem LkAt.word {g cap N : Nat} (h : LkAt W0 w bl bm c co n kap vk vd (.slice (some ⟨g, 0, none⟩) N cap) vD mem L ks ds xc xd) (hN : xc.length = N) (j : Nat) (x : Int) : LkAt W0 (w.setCell ⟨g, j, none⟩ (.int .u32 x)) bl bm c co n kap vk vd (.slice (some ⟨g, 0, none⟩) N cap) vD mem L ks ds (xc.set j x) xd := by
  subst hN
  have h2 := h.size
  obtain ⟨es, cl, hmap⟩ := h.mapAt
  obtain ⟨hs, hg⟩ := h.rC.stored j (.int .u32 x)
  have hrow : (Value.slice (some ⟨g, 0, none⟩) xc.length cap).ownBlock = some g := rfl
  have hgl := h.rC.lt g rfl
  have hmne := own_ne_map h.rC hmap
  rw [← hrow] at hg
  refine ⟨h.base, h.mbase, (hg.block bl h2 (own_ne h.rC h.box (by decide))).trans h.box, h.map.kept hg hmne, h.nd, h.rk.kept hg (own_apart2 h.rC h.rk (by decide)), h.rd.kept hg (own_apart2 h.rC h.rd (by decide)), ?_, h.rD.kept hg (own_apart2 h.rC h.rD (by decide)), h.apart, h.below.grown hg h.below.size (fun k e => (h.rC.lt k e).1)⟩
  rw [List.length_set]
  unfold u32s at hs ⊢
  rw [List.map_set]
  exact hs
end
theorem u32_at {w : World} {b N g cap : Nat} {xs : List Int} (h : w.ownsRow b 22 1 (.slice (some ⟨g, 0, none⟩) N cap) N (u32s xs)) (hN : xs.length = N) (j : Nat) (hj : j < N) : w.cell? ⟨g, j, none⟩ = some (.int .u32 (xs.getD j 0)) ∧ w.frozen? ⟨g, j, none⟩ = false := by
  refine ⟨?_, h.frozenAt j⟩
  rw [h.cellAt j (by omega)]
  unfold u32s
  rw [List.getElem?_map, List.getD_eq_getElem?_getD, List.getElem?_eq_getElem (by omega)]
  rfl
theorem i64_at {w : World} {b N g cap : Nat} {xs : List Int} (h : w.ownsRow b 3 1 (.slice (some ⟨g, 0, none⟩) N cap) N (i64s xs)) (hN : xs.length = N) (j : Nat) (hj : j < N) : w.cell? ⟨g, j, none⟩ = some (.int .i64 (xs.getD j 0)) := by
  rw [h.cellAt j (by omega)]
  unfold i64s
  rw [List.getElem?_map, List.getD_eq_getElem?_getD, List.getElem?_eq_getElem (by omega)]
  rfl
theorem blk7l {w : World} {b : Nat} {t : TypeId} {v0 v1 v2 v3 v4 v5 v6 : Value} (h : w.heap[b]? = some (.cells #[v0, v1, v2, v3, v4, v5, v6] t (0, 0))) :
    w.cell? ⟨b, 0, none⟩ = some v0 ∧ w.cell? ⟨b, 1, none⟩ = some v1 ∧ w.cell? ⟨b, 2, none⟩ = some v2 ∧ w.cell? ⟨b, 3, none⟩ = some v3 ∧ w.cell? ⟨b, 4, none⟩ = some v4 ∧ w.cell? ⟨b, 5, none⟩ = some v5 ∧ w.cell? ⟨b, 6, none⟩ = some v6 ∧ ∀ o, w.frozen? ⟨b, o, none⟩ = false := blk7 h
theorem blk8 {w : World} {b : Nat} {t : TypeId} {v0 v1 v2 v3 v4 v5 v6 v7 : Value} (h : w.heap[b]? = some (.cells #[v0, v1, v2, v3, v4, v5, v6, v7] t (0, 0))) :
    w.cell? ⟨b, 0, none⟩ = some v0 ∧ w.cell? ⟨b, 1, none⟩ = some v1 ∧ w.cell? ⟨b, 2, none⟩ = some v2 ∧ w.cell? ⟨b, 3, none⟩ = some v3 ∧ w.cell? ⟨b, 4, none⟩ = some v4 ∧ w.cell? ⟨b, 5, none⟩ = some v5 ∧ w.cell? ⟨b, 6, none⟩ = some v6 ∧ w.cell? ⟨b, 7, none⟩ = some v7 ∧ ∀ o, w.frozen? ⟨b, o, none⟩ = false :=
  ⟨cell_of_row w b 0 _ _ _ h, cell_of_row w b 1 _ _ _ h, cell_of_row w b 2 _ _ _ h, cell_of_row w b 3 _ _ _ h, cell_of_row w b 4 _ _ _ h, cell_of_row w b 5 _ _ _ h, cell_of_row w b 6 _ _ _ h, cell_of_row w b 7 _ _ _ h, fun o => by simp [World.frozen?, h]⟩

theorem drew_heap (w : World) : w.drew.heap = w.heap := rfl
theorem set7 {w : World} {b : Nat} {t : TypeId} {x0 x1 x2 x3 x4 x5 x6 : Value} (y0 y1 y2 y3 y4 y5 y6 : Value) (h : w.heap[b]? = some (.cells #[x0, x1, x2, x3, x4, x5, x6] t (0, 0))) :
    (((((((w.setCell ⟨b, 0, none⟩ y0).setCell ⟨b, 1, none⟩ y1).setCell ⟨b, 2, none⟩ y2).setCell ⟨b, 3, none⟩ y3).setCell ⟨b, 4, none⟩ y4).setCell ⟨b, 5, none⟩ y5).setCell ⟨b, 6, none⟩ y6).heap[b]? = some (.cells #[y0, y1, y2, y3, y4, y5, y6] t (0, 0)) := by
  have h0 : (w.setCell ⟨b, 0, none⟩ y0).heap[b]? = some (.cells #[y0, x1, x2, x3, x4, x5, x6] t (0, 0)) := heap_setCell_same _ b 0 _ _ y0 h
  have h1 : ((w.setCell ⟨b, 0, none⟩ y0).setCell ⟨b, 1, none⟩ y1).heap[b]? = some (.cells #[y0, y1, x2, x3, x4, x5, x6] t (0, 0)) := heap_setCell_same _ b 1 _ _ y1 h0
  have h2 : (((w.setCell ⟨b, 0, none⟩ y0).setCell ⟨b, 1, none⟩ y1).setCell ⟨b, 2, none⟩ y2).heap[b]? = some (.cells #[y0, y1, y2, x3, x4, x5, x6] t (0, 0)) := heap_setCell_same _ b 2 _ _ y2 h1
  have h3 : ((((w.setCell ⟨b, 0, none⟩ y0).setCell ⟨b, 1, none⟩ y1).setCell ⟨b, 2, none⟩ y2).setCell ⟨b, 3, none⟩ y3).heap[b]? = some (.cells #[y0, y1, y2, y3, x4, x5, x6] t (0, 0)) := heap_setCell_same _ b 3 _ _ y3 h2
  have h4 : (((((w.setCell ⟨b, 0, none⟩ y0).setCell ⟨b, 1, none⟩ y1).setCell ⟨b, 2, none⟩ y2).setCell ⟨b, 3, none⟩ y3).setCell ⟨b, 4, none⟩ y4).heap[b]? = some (.cells #[y0, y1, y2, y3, y4, x5, x6] t (0, 0)) := heap_setCell_same _ b 4 _ _ y4 h3
  have h5 : ((((((w.setCell ⟨b, 0, none⟩ y0).setCell ⟨b, 1, none⟩ y1).setCell ⟨b, 2, none⟩ y2).setCell ⟨b, 3, none⟩ y3).setCell ⟨b, 4, none⟩ y4).setCell ⟨b, 5, none⟩ y5).heap[b]? = some (.cells #[y0, y1, y2, y3, y4, y5, x6] t (0, 0)) := heap_setCell_same _ b 5 _ _ y5 h4
  have h6 : (((((((w.setCell ⟨b, 0, none⟩ y0).setCell ⟨b, 1, none⟩ y1).setCell ⟨b, 2, none⟩ y2).setCell ⟨b, 3, none⟩ y3).setCell ⟨b, 4, none⟩ y4).setCell ⟨b, 5, none⟩ y5).setCell ⟨b, 6, none⟩ y6).heap[b]? = some (.cells #[y0, y1, y2, y3, y4, y5, y6] t (0, 0)) := heap_setCell_same _ b 6 _ _ y6 h5
  exact h6

end Go.Proofs.Ythnehhidlaggeaa
