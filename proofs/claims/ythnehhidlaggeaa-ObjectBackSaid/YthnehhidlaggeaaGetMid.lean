/- object.reader.read: what holds in its midst. -/
import Derived.Test.YthnehhidlaggeaaGetText
import Derived.Test.YthnehhidlaggeaaImage
namespace Go.Proofs.Ythnehhidlaggeaa
set_option linter.unusedVariables false
set_option linter.unusedSimpArgs false
open Go.RowKit Ob

theorem own_apart {w : World} {b1 b2 : Nat} {e1 e2 : TypeId} {s1 s2 n1 n2 : Nat} {v1 v2 : Value} {x1 x2 : List Value} (h1 : w.ownsRow b1 e1 s1 v1 n1 x1) (h2 : w.ownsRow b2 e2 s2 v2 n2 x2) (hne : e1 ≠ e2) : v2.ownBlock = none ∨ v2.ownBlock ≠ v1.ownBlock := by
  rcases h2.2 with ⟨rfl, _⟩ | ⟨g, cap, cur, rfl, _, hg, _⟩
  · exact .inl rfl
  · exact .inr (own_ne h1 hg hne)
theorem own_off {w : World} {b : Nat} {e : TypeId} {s n : Nat} {v : Value} {xs : List Value} (h : w.ownsRow b e s v n xs) {k : Nat} {cs : Array Value} {t : TypeId} {fz : Nat × Nat} (hk : w.heap[k]? = some (.cells cs t fz)) (hne : e ≠ t) : v.ownBlock = none ∨ v.ownBlock ≠ some k :=
  .inr (fun e' => own_ne h hk hne e'.symm)
theorem RdAt.box {w : World} {B pr : Nat} {l : List UInt8} (h : RdAt w B pr l) : ∃ cs, w.heap[pr]? = some (.cells cs 124 (0, 0)) := by
  obtain ⟨_, a, n, c, h2, _⟩ := h
  exact ⟨_, h2⟩
theorem RdAt.grown {w w2 : World} {B pr : Nat} {l : List UInt8} {row : Option Nat} (h : RdAt w B pr l) (hg : w.grownBy w2 row) (hne : some pr ≠ row) (hB : ∀ k, row = some k → B ≤ k) : RdAt w2 B pr l := by
  obtain ⟨h1, a, n, c, h2, h3⟩ := h
  have hlt := lt_of_block h2
  refine ⟨h1, a, n, c, (hg.block pr hlt hne).trans h2, h3.below ⟨hg.os, hg.tape, hg.output, by have := hg.size; omega, fun k hk => hg.block k (by omega) (fun e => by have := hB k e.symm; omega)⟩⟩

/-- behind some parts: the rest of the bytes, and the rows so far -/
structure GMid (w wr : World) (B pr : Nat) (rest : List UInt8) (vc vd vs vr : Value) (xc xd : List Int) (xs : List Raw) (xr : List Rel) : Prop where
  grown : w.grownBy wr (some pr)
  rd : RdAt wr B pr rest
  lt : pr < w.heap.size
  bb : wr.heap[w.heap.size]? = some (.cells #[.pointer (some ⟨pr, 0, none⟩)] 123 (0, 0))
  ob : wr.heap[w.heap.size + 1]? = some (.cells #[vc, vd, vs, vr] 60 (0, 0))
  rc : wr.ownsRow (w.heap.size + 2) 22 1 vc xc.length (xc.flatMap (fun x => [Value.int .u32 x]))
  rd_ : wr.ownsRow (w.heap.size + 2) 21 1 vd xd.length (xd.flatMap (fun x => [Value.int .i32 (wrap32 x)]))
  rs : wr.ownsRow (w.heap.size + 2) 106 7 vs xs.length (xs.flatMap (fun x => symCells x.sym))
  rr : wr.ownsRow (w.heap.size + 2) 110 3 vr xr.length (xr.flatMap (relCells))
theorem GMid.size {w wr : World} {B pr : Nat} {rest : List UInt8} {vc vd vs vr : Value} {xc xd : List Int} {xs : List Raw} {xr : List Rel} (h : GMid w wr B pr rest vc vd vs vr xc xd xs xr) : w.heap.size + 1 < wr.heap.size := lt_of_block h.ob
theorem GMid.cells {w wr : World} {B pr : Nat} {rest : List UInt8} {vc vd vs vr : Value} {xc xd : List Int} {xs : List Raw} {xr : List Rel} (h : GMid w wr B pr rest vc vd vs vr xc xd xs xr) : wr.cell? ⟨w.heap.size, 0, none⟩ = some (.pointer (some ⟨pr, 0, none⟩)) ∧ wr.cell? ⟨w.heap.size + 1, 0, none⟩ = some vc ∧ wr.cell? ⟨w.heap.size + 1, 1, none⟩ = some vd ∧ wr.cell? ⟨w.heap.size + 1, 2, none⟩ = some vs ∧ wr.cell? ⟨w.heap.size + 1, 3, none⟩ = some vr ∧ ∀ o, wr.frozen? ⟨w.heap.size + 1, o, none⟩ = false := by
  obtain ⟨y0, y1, y2, y3, yz⟩ := blk4 h.ob
  exact ⟨cell_of_row wr _ 0 _ _ _ h.bb, y0, y1, y2, y3, yz⟩
/-- the reader has gone on -/
theorem GMid.read {w wr : World} {B pr : Nat} {rest : List UInt8} {vc vd vs vr : Value} {xc xd : List Int} {xs : List Raw} {xr : List Rel} (h : GMid w wr B pr rest vc vd vs vr xc xd xs xr) {w2 : World} {r2 : List UInt8} (hg : wr.grownBy w2 (some pr)) (hr : RdAt w2 B pr r2) : GMid w w2 B pr r2 vc vd vs vr xc xd xs xr := by
  obtain ⟨cs, hp⟩ := h.rd.box
  have hlt := h.lt
  have hs := h.size
  exact ⟨h.grown.trans hg, hr, h.lt, (hg.block _ (by omega) (by simp; omega)).trans h.bb, (hg.block _ hs (by simp; omega)).trans h.ob, h.rc.kept hg (own_off h.rc hp (by decide)), h.rd_.kept hg (own_off h.rd_ hp (by decide)), h.rs.kept hg (own_off h.rs hp (by decide)), h.rr.kept hg (own_off h.rr hp (by decide))⟩
theorem GMid.alloc {w wr : World} {B pr : Nat} {rest : List UInt8} {vc vd vs vr : Value} {xc xd : List Int} {xs : List Raw} {xr : List Rel} (h : GMid w wr B pr rest vc vd vs vr xc xd xs xr) (o : Go.Obj) : GMid w (wr.alloc o) B pr rest vc vd vs vr xc xd xs xr := by
  obtain ⟨_, hp⟩ := h.rd.box
  exact h.read (World.grownBy_alloc wr o _) (h.rd.grown (World.grownBy_alloc wr o none) (by simp) (by simp))
theorem GMid.drewN {w wr : World} {B pr : Nat} {rest : List UInt8} {vc vd vs vr : Value} {xc xd : List Int} {xs : List Raw} {xr : List Rel} (h : GMid w wr B pr rest vc vd vs vr xc xd xs xr) (n : Nat) : GMid w (wr.drewN n) B pr rest vc vd vs vr xc xd xs xr :=
  ⟨⟨h.grown.os, h.grown.tape, h.grown.output, h.grown.size, h.grown.block⟩, h.rd.draw n, h.lt, h.bb, h.ob, h.rc, h.rd_, h.rs, h.rr⟩
theorem GMid.drew {w wr : World} {B pr : Nat} {rest : List UInt8} {vc vd vs vr : Value} {xc xd : List Int} {xs : List Raw} {xr : List Rel} (h : GMid w wr B pr rest vc vd vs vr xc xd xs xr) : GMid w wr.drew B pr rest vc vd vs vr xc xd xs xr := h.drewN 1
/-- a store into a block that nobody here owns -/
theorem GMid.store {w wr : World} {B pr : Nat} {rest : List UInt8} {vc vd vs vr : Value} {xc xd : List Int} {xs : List Raw} {xr : List Rel} (h : GMid w wr B pr rest vc vd vs vr xc xd xs xr) {k i : Nat} {cs : Array Value} {t : TypeId} (hk : wr.heap[k]? = some (.cells cs t (0, 0))) (h0 : w.heap.size + 1 < k) (hs : some k ≠ vs.ownBlock) (t1 : 22 ≠ t) (t2 : 21 ≠ t) (t3 : 110 ≠ t) (u : Value) : GMid w (wr.setCell ⟨k, i, none⟩ u) B pr rest vc vd vs vr xc xd xs xr := by
  have hlt := h.lt
  have hsz := h.size
  have g : wr.grownBy (wr.setCell ⟨k, i, none⟩ u) (some k) := ⟨rfl, rfl, rfl, by simp [World.setCell], fun j _ hj => Below.heap_setCell _ _ _ j (fun e => hj (by rw [e]))⟩
  have hB : B ≤ pr := h.rd.1
  refine ⟨⟨h.grown.os, h.grown.tape, h.grown.output, by have := g.size; have := h.grown.size; omega, fun j hj hne => (g.block j (by omega) (by simp; omega)).trans (h.grown.block j hj hne)⟩, h.rd.grown g (by simp; omega) (by intro j e; injection e with e; omega), h.lt, (g.block _ (by omega) (by simp; omega)).trans h.bb, (g.block _ hsz (by simp; omega)).trans h.ob, h.rc.kept g (own_off h.rc hk t1), h.rd_.kept g (own_off h.rd_ hk t2), h.rs.kept g (.inr fun e => hs e.symm), h.rr.kept g (own_off h.rr hk t3)⟩
/-- a part more -/
theorem GMid.set_c {w wr : World} {B pr : Nat} {rest : List UInt8} {vc vd vs vr : Value} {xc xd : List Int} {xs : List Raw} {xr : List Rel} (h : GMid w wr B pr rest vc vd vs vr xc xd xs xr) {x : Int} {v' : Value} {w2 : World} (hown : w2.ownsRow (w.heap.size + 2) 22 1 v' (xc.length + 1) (xc.flatMap (fun x => [Value.int .u32 x]) ++ (fun x => [Value.int .u32 x]) x)) (hgr : wr.grownBy w2 vc.ownBlock) :
    GMid w (w2.setCell ⟨w.heap.size + 1, 0, none⟩ v') B pr rest v' vd vs vr (xc ++ [x]) xd xs xr := by
  have hlt := h.lt
  have hsz := h.size
  have hB : B ≤ pr := h.rd.1
  obtain ⟨cs, hp⟩ := h.rd.box
  have hrow : ∀ k, vc.ownBlock = some k → w.heap.size + 2 ≤ k := fun k e => (h.rc.lt k e).1
  have hob := (hgr.block _ hsz (own_ne h.rc h.ob (by decide))).trans h.ob
  have hbb := (hgr.block _ (by omega) (own_ne h.rc h.bb (by decide))).trans h.bb
  have hrd := h.rd.grown hgr (own_ne h.rc hp (by decide)) (fun k e => by have := hrow k e; omega)
  have g : w2.grownBy (w2.setCell ⟨w.heap.size + 1, 0, none⟩ v') (some (w.heap.size + 1)) := ⟨rfl, rfl, rfl, by simp [World.setCell], fun j _ hj => Below.heap_setCell _ _ _ j (fun e => hj (by rw [e]))⟩
  have hg2 := hgr.size
  have hg0 := h.grown.size
  have hnew : (w2.setCell ⟨w.heap.size + 1, 0, none⟩ v').ownsRow (w.heap.size + 2) 22 1 v' (xc ++ [x]).length ((xc ++ [x]).flatMap (fun x => [Value.int .u32 x])) := by
    rw [List.length_append, List.flatMap_append, List.flatMap_singleton]
    exact hown.kept g (own_off hown hob (by decide))
  refine ⟨⟨hgr.os.trans h.grown.os, hgr.tape.trans h.grown.tape, hgr.output.trans h.grown.output, by have := g.size; omega, fun k hk hne => ?_⟩, hrd.grown g (by simp; omega) (by intro j e; injection e with e; omega), h.lt, (g.block _ (by omega) (by simp)).trans hbb, ?_, hnew, ((h.rd_.kept hgr (own_apart h.rc h.rd_ (by decide))).kept g (own_off (h.rd_.kept hgr (own_apart h.rc h.rd_ (by decide))) hob (by decide))), ((h.rs.kept hgr (own_apart h.rc h.rs (by decide))).kept g (own_off (h.rs.kept hgr (own_apart h.rc h.rs (by decide))) hob (by decide))), ((h.rr.kept hgr (own_apart h.rc h.rr (by decide))).kept g (own_off (h.rr.kept hgr (own_apart h.rc h.rr (by decide))) hob (by decide)))⟩
  · rw [g.block k (by omega) (by simp; omega), hgr.block k (by omega) (fun e => by have := hrow k e.symm; omega)]
    exact h.grown.block k hk hne
  · simp [World.setCell, Array.getElem?_modify, hob]
/-- a part more -/
theorem GMid.set_d {w wr : World} {B pr : Nat} {rest : List UInt8} {vc vd vs vr : Value} {xc xd : List Int} {xs : List Raw} {xr : List Rel} (h : GMid w wr B pr rest vc vd vs vr xc xd xs xr) {x : Int} {v' : Value} {w2 : World} (hown : w2.ownsRow (w.heap.size + 2) 21 1 v' (xd.length + 1) (xd.flatMap (fun x => [Value.int .i32 (wrap32 x)]) ++ (fun x => [Value.int .i32 (wrap32 x)]) x)) (hgr : wr.grownBy w2 vd.ownBlock) :
    GMid w (w2.setCell ⟨w.heap.size + 1, 1, none⟩ v') B pr rest vc v' vs vr xc (xd ++ [x]) xs xr := by
  have hlt := h.lt
  have hsz := h.size
  have hB : B ≤ pr := h.rd.1
  obtain ⟨cs, hp⟩ := h.rd.box
  have hrow : ∀ k, vd.ownBlock = some k → w.heap.size + 2 ≤ k := fun k e => (h.rd_.lt k e).1
  have hob := (hgr.block _ hsz (own_ne h.rd_ h.ob (by decide))).trans h.ob
  have hbb := (hgr.block _ (by omega) (own_ne h.rd_ h.bb (by decide))).trans h.bb
  have hrd := h.rd.grown hgr (own_ne h.rd_ hp (by decide)) (fun k e => by have := hrow k e; omega)
  have g : w2.grownBy (w2.setCell ⟨w.heap.size + 1, 1, none⟩ v') (some (w.heap.size + 1)) := ⟨rfl, rfl, rfl, by simp [World.setCell], fun j _ hj => Below.heap_setCell _ _ _ j (fun e => hj (by rw [e]))⟩
  have hg2 := hgr.size
  have hg0 := h.grown.size
  have hnew : (w2.setCell ⟨w.heap.size + 1, 1, none⟩ v').ownsRow (w.heap.size + 2) 21 1 v' (xd ++ [x]).length ((xd ++ [x]).flatMap (fun x => [Value.int .i32 (wrap32 x)])) := by
    rw [List.length_append, List.flatMap_append, List.flatMap_singleton]
    exact hown.kept g (own_off hown hob (by decide))
  refine ⟨⟨hgr.os.trans h.grown.os, hgr.tape.trans h.grown.tape, hgr.output.trans h.grown.output, by have := g.size; omega, fun k hk hne => ?_⟩, hrd.grown g (by simp; omega) (by intro j e; injection e with e; omega), h.lt, (g.block _ (by omega) (by simp)).trans hbb, ?_, ((h.rc.kept hgr (own_apart h.rd_ h.rc (by decide))).kept g (own_off (h.rc.kept hgr (own_apart h.rd_ h.rc (by decide))) hob (by decide))), hnew, ((h.rs.kept hgr (own_apart h.rd_ h.rs (by decide))).kept g (own_off (h.rs.kept hgr (own_apart h.rd_ h.rs (by decide))) hob (by decide))), ((h.rr.kept hgr (own_apart h.rd_ h.rr (by decide))).kept g (own_off (h.rr.kept hgr (own_apart h.rd_ h.rr (by decide))) hob (by decide)))⟩
  · rw [g.block k (by omega) (by simp; omega), hgr.block k (by omega) (fun e => by have := hrow k e.symm; omega)]
    exact h.grown.block k hk hne
  · simp [World.setCell, Array.getElem?_modify, hob]
/-- a part more -/
theorem GMid.set_s {w wr : World} {B pr : Nat} {rest : List UInt8} {vc vd vs vr : Value} {xc xd : List Int} {xs : List Raw} {xr : List Rel} (h : GMid w wr B pr rest vc vd vs vr xc xd xs xr) {x : Raw} {v' : Value} {w2 : World} (hown : w2.ownsRow (w.heap.size + 2) 106 7 v' (xs.length + 1) (xs.flatMap (fun x => symCells x.sym) ++ (fun x => symCells x.sym) x)) (hgr : wr.grownBy w2 vs.ownBlock) :
    GMid w (w2.setCell ⟨w.heap.size + 1, 2, none⟩ v') B pr rest vc vd v' vr xc xd (xs ++ [x]) xr := by
  have hlt := h.lt
  have hsz := h.size
  have hB : B ≤ pr := h.rd.1
  obtain ⟨cs, hp⟩ := h.rd.box
  have hrow : ∀ k, vs.ownBlock = some k → w.heap.size + 2 ≤ k := fun k e => (h.rs.lt k e).1
  have hob := (hgr.block _ hsz (own_ne h.rs h.ob (by decide))).trans h.ob
  have hbb := (hgr.block _ (by omega) (own_ne h.rs h.bb (by decide))).trans h.bb
  have hrd := h.rd.grown hgr (own_ne h.rs hp (by decide)) (fun k e => by have := hrow k e; omega)
  have g : w2.grownBy (w2.setCell ⟨w.heap.size + 1, 2, none⟩ v') (some (w.heap.size + 1)) := ⟨rfl, rfl, rfl, by simp [World.setCell], fun j _ hj => Below.heap_setCell _ _ _ j (fun e => hj (by rw [e]))⟩
  have hg2 := hgr.size
  have hg0 := h.grown.size
  have hnew : (w2.setCell ⟨w.heap.size + 1, 2, none⟩ v').ownsRow (w.heap.size + 2) 106 7 v' (xs ++ [x]).length ((xs ++ [x]).flatMap (fun x => symCells x.sym)) := by
    rw [List.length_append, List.flatMap_append, List.flatMap_singleton]
    exact hown.kept g (own_off hown hob (by decide))
  refine ⟨⟨hgr.os.trans h.grown.os, hgr.tape.trans h.grown.tape, hgr.output.trans h.grown.output, by have := g.size; omega, fun k hk hne => ?_⟩, hrd.grown g (by simp; omega) (by intro j e; injection e with e; omega), h.lt, (g.block _ (by omega) (by simp)).trans hbb, ?_, ((h.rc.kept hgr (own_apart h.rs h.rc (by decide))).kept g (own_off (h.rc.kept hgr (own_apart h.rs h.rc (by decide))) hob (by decide))), ((h.rd_.kept hgr (own_apart h.rs h.rd_ (by decide))).kept g (own_off (h.rd_.kept hgr (own_apart h.rs h.rd_ (by decide))) hob (by decide))), hnew, ((h.rr.kept hgr (own_apart h.rs h.rr (by decide))).kept g (own_off (h.rr.kept hgr (own_apart h.rs h.rr (by decide))) hob (by decide)))⟩
  · rw [g.block k (by omega) (by simp; omega), hgr.block k (by omega) (fun e => by have := hrow k e.symm; omega)]
    exact h.grown.block k hk hne
  · simp [World.setCell, Array.getElem?_modify, hob]
/-- a part more -/
theorem GMid.set_r {w wr : World} {B pr : Nat} {rest : List UInt8} {vc vd vs vr : Value} {xc xd : List Int} {xs : List Raw} {xr : List Rel} (h : GMid w wr B pr rest vc vd vs vr xc xd xs xr) {x : Rel} {v' : Value} {w2 : World} (hown : w2.ownsRow (w.heap.size + 2) 110 3 v' (xr.length + 1) (xr.flatMap (relCells) ++ (relCells) x)) (hgr : wr.grownBy w2 vr.ownBlock) :
    GMid w (w2.setCell ⟨w.heap.size + 1, 3, none⟩ v') B pr rest vc vd vs v' xc xd xs (xr ++ [x]) := by
  have hlt := h.lt
  have hsz := h.size
  have hB : B ≤ pr := h.rd.1
  obtain ⟨cs, hp⟩ := h.rd.box
  have hrow : ∀ k, vr.ownBlock = some k → w.heap.size + 2 ≤ k := fun k e => (h.rr.lt k e).1
  have hob := (hgr.block _ hsz (own_ne h.rr h.ob (by decide))).trans h.ob
  have hbb := (hgr.block _ (by omega) (own_ne h.rr h.bb (by decide))).trans h.bb
  have hrd := h.rd.grown hgr (own_ne h.rr hp (by decide)) (fun k e => by have := hrow k e; omega)
  have g : w2.grownBy (w2.setCell ⟨w.heap.size + 1, 3, none⟩ v') (some (w.heap.size + 1)) := ⟨rfl, rfl, rfl, by simp [World.setCell], fun j _ hj => Below.heap_setCell _ _ _ j (fun e => hj (by rw [e]))⟩
  have hg2 := hgr.size
  have hg0 := h.grown.size
  have hnew : (w2.setCell ⟨w.heap.size + 1, 3, none⟩ v').ownsRow (w.heap.size + 2) 110 3 v' (xr ++ [x]).length ((xr ++ [x]).flatMap (relCells)) := by
    rw [List.length_append, List.flatMap_append, List.flatMap_singleton]
    exact hown.kept g (own_off hown hob (by decide))
  refine ⟨⟨hgr.os.trans h.grown.os, hgr.tape.trans h.grown.tape, hgr.output.trans h.grown.output, by have := g.size; omega, fun k hk hne => ?_⟩, hrd.grown g (by simp; omega) (by intro j e; injection e with e; omega), h.lt, (g.block _ (by omega) (by simp)).trans hbb, ?_, ((h.rc.kept hgr (own_apart h.rr h.rc (by decide))).kept g (own_off (h.rc.kept hgr (own_apart h.rr h.rc (by decide))) hob (by decide))), ((h.rd_.kept hgr (own_apart h.rr h.rd_ (by decide))).kept g (own_off (h.rd_.kept hgr (own_apart h.rr h.rd_ (by decide))) hob (by decide))), ((h.rs.kept hgr (own_apart h.rr h.rs (by decide))).kept g (own_off (h.rs.kept hgr (own_apart h.rr h.rs (by decide))) hob (by decide))), hnew⟩
  · rw [g.block k (by omega) (by simp; omega), hgr.block k (by omega) (fun e => by have := hrow k e.symm; omega)]
    exact h.grown.block k hk hne
  · simp [World.setCell, Array.getElem?_modify, hob]
/-- a symbol's box beside it -/
structure BMid (w wr : World) (B pr : Nat) (rest : List UInt8) (vc vd vs vr : Value) (xc xd : List Int) (xs : List Raw) (xr : List Rel) (b4 : Nat) (cs : Array Value) : Prop where
  g : GMid w wr B pr rest vc vd vs vr xc xd xs xr
  box : wr.heap[b4]? = some (.cells cs 106 (0, 0))
  lt : w.heap.size + 1 < b4
  ne : some b4 ≠ vs.ownBlock
theorem GMid.newbox {w wr : World} {B pr : Nat} {rest : List UInt8} {vc vd vs vr : Value} {xc xd : List Int} {xs : List Raw} {xr : List Rel} (h : GMid w wr B pr rest vc vd vs vr xc xd xs xr) (cs : Array Value) : BMid w (wr.alloc (.cells cs 106)) B pr rest vc vd vs vr xc xd xs xr wr.heap.size cs :=
  ⟨h.alloc _, heap_alloc_new _ _, h.size, fun e => by have := (h.rs.lt _ e.symm).2; omega⟩
theorem BMid.read {w wr : World} {B pr : Nat} {rest : List UInt8} {vc vd vs vr : Value} {xc xd : List Int} {xs : List Raw} {xr : List Rel} {b4 : Nat} {cs : Array Value} (h : BMid w wr B pr rest vc vd vs vr xc xd xs xr b4 cs) {w2 : World} {r2 : List UInt8} (hg : wr.grownBy w2 (some pr)) (hr : RdAt w2 B pr r2) : BMid w w2 B pr r2 vc vd vs vr xc xd xs xr b4 cs :=
  ⟨h.g.read hg hr, (hg.block _ (lt_of_block h.box) (by have := h.lt; have := h.g.lt; simp; omega)).trans h.box, h.lt, h.ne⟩
theorem BMid.alloc {w wr : World} {B pr : Nat} {rest : List UInt8} {vc vd vs vr : Value} {xc xd : List Int} {xs : List Raw} {xr : List Rel} {b4 : Nat} {cs : Array Value} (h : BMid w wr B pr rest vc vd vs vr xc xd xs xr b4 cs) (o : Go.Obj) : BMid w (wr.alloc o) B pr rest vc vd vs vr xc xd xs xr b4 cs :=
  ⟨h.g.alloc o, (Below.heap_alloc _ _ _ (lt_of_block h.box)).trans h.box, h.lt, h.ne⟩
theorem BMid.drew {w wr : World} {B pr : Nat} {rest : List UInt8} {vc vd vs vr : Value} {xc xd : List Int} {xs : List Raw} {xr : List Rel} {b4 : Nat} {cs : Array Value} (h : BMid w wr B pr rest vc vd vs vr xc xd xs xr b4 cs) : BMid w wr.drew B pr rest vc vd vs vr xc xd xs xr b4 cs := ⟨h.g.drew, h.box, h.lt, h.ne⟩
theorem BMid.store {w wr : World} {B pr : Nat} {rest : List UInt8} {vc vd vs vr : Value} {xc xd : List Int} {xs : List Raw} {xr : List Rel} {b4 : Nat} {cs : Array Value} (h : BMid w wr B pr rest vc vd vs vr xc xd xs xr b4 cs) (i : Nat) (u : Value) : BMid w (wr.setCell ⟨b4, i, none⟩ u) B pr rest vc vd vs vr xc xd xs xr b4 (cs.setIfInBounds i u) :=
  ⟨h.g.store h.box h.lt h.ne (by decide) (by decide) (by decide) u, blk_set2 h.box u, h.lt, h.ne⟩
theorem BMid.row {w wr : World} {B pr : Nat} {rest : List UInt8} {vc vd vs vr : Value} {xc xd : List Int} {xs : List Raw} {xr : List Rel} {b4 : Nat} {cs : Array Value} (h : BMid w wr B pr rest vc vd vs vr xc xd xs xr b4 cs) (vals : Array Value) : BMid w (wr.setRow b4 vals) B pr rest vc vd vs vr xc xd xs xr b4 vals := by
  have hlt := h.g.lt
  have hsz := h.g.size
  have h4 := h.lt
  have g : wr.grownBy (wr.setRow b4 vals) (some b4) := ⟨rfl, rfl, rfl, by simp, fun k _ hk => setRow_other wr b4 k _ (fun e => hk (by rw [e]))⟩
  have hB : B ≤ pr := h.g.rd.1
  exact ⟨⟨⟨h.g.grown.os, h.g.grown.tape, h.g.grown.output, by have := g.size; have := h.g.grown.size; omega, fun j hj hne => (g.block j (by have := h.g.grown.size; omega) (by simp; omega)).trans (h.g.grown.block j hj hne)⟩, h.g.rd.grown g (by simp; omega) (by intro j e; injection e with e; omega), h.g.lt, (g.block _ (by omega) (by simp; omega)).trans h.g.bb, (g.block _ hsz (by simp; omega)).trans h.g.ob, h.g.rc.kept g (own_off h.g.rc h.box (by decide)), h.g.rd_.kept g (own_off h.g.rd_ h.box (by decide)), h.g.rs.kept g (.inr fun e => h.ne e.symm), h.g.rr.kept g (own_off h.g.rr h.box (by decide))⟩,
    setRow_heap wr b4 cs _ _ _ h.box, h.lt, h.ne⟩
theorem run_store_box {W : World} {b : Nat} {cs : Array Value} {t : TypeId} (h : W.heap[b]? = some (.cells cs t (0, 0))) (vals : List Value) (hl : vals.length = cs.size) (h1 : ∀ u ∈ vals, u.oneCell' = true) :
    (storeCells ⟨b, 0, none⟩ vals 0).run Try.prog W = .ok () (W.setRow b vals.toArray) := by
  have hst := run_storeCells_at Try.prog b 0 t vals 0 cs W (by simpa using h) (by simp [hl]) h1
  simp only [Nat.add_zero, List.take_zero, List.nil_append, Nat.zero_add] at hst
  rw [hst, hl, List.drop_eq_nil_of_le (by rw [Array.length_toList]; omega), List.append_nil]
/-- a store of what lies there -/
theorem setCell_same {w : World} {b i : Nat} {cs : Array Value} {t : TypeId} {fz : Nat × Nat} {v : Value} (h : w.heap[b]? = some (.cells cs t fz)) (hv : cs[i]? = some v) : w.setCell ⟨b, i, none⟩ v = w := by
  have hc : cs.setIfInBounds i v = cs := by
    apply Array.ext
    · simp
    · intro j h1 h2
      rw [Array.getElem_setIfInBounds]
      split
      · rename_i e
        subst e
        rw [Array.getElem?_eq_getElem h2] at hv
        injection hv with hv
        exact hv.symm
      · rfl
  have hj : ∀ j : Nat, (w.setCell ⟨b, i, none⟩ v).heap[j]? = w.heap[j]? := by
    intro j
    by_cases e : b = j
    · subst e
      simp [World.setCell, Array.getElem?_modify, h, hc]
    · exact Below.heap_setCell _ _ _ j (fun e' => e e'.symm)
  have e : (w.setCell ⟨b, i, none⟩ v).heap = w.heap := by
    apply Array.ext_getElem?
    intro j
    exact hj j
  show ({ w with heap := (w.setCell ⟨b, i, none⟩ v).heap } : World) = w
  rw [e]
theorem wrap_i32 (x : Int) : IntKind.i32.wrap x = wrap32 x := by
  unfold IntKind.wrap wrap32
  simp only [IntKind.bits, IntKind.signed, Bool.true_and, decide_eq_true_eq, ge_iff_le, show (2 : Int) ^ (32 - 1) = 2147483648 from rfl, show (2 : Int) ^ 32 = 4294967296 from rfl]
  split <;> omega
theorem slice_of {w : World} {b : Nat} {e : TypeId} {s n : Nat} {v : Value} {xs : List Value} (h : w.ownsRow b e s v n xs) : ∃ p c, v = .slice p n c := by
  rcases h.2 with ⟨rfl, rfl⟩ | ⟨g, cap, cur, rfl, _⟩
  · exact ⟨none, 0, rfl⟩
  · exact ⟨_, cap, rfl⟩
theorem sliceAt_own {w : World} {b : Nat} {e : TypeId} {n c : Nat} {k : IntKind} {p : Option Addr} {l : List Int} (h : w.ownsRow b e 1 (.slice p n c) n (l.flatMap fun x => [Value.int k x])) : SliceAt w k p l := by
  have hfl : ∀ L : List Int, (L.flatMap fun x => [Value.int k x]) = L.map (Value.int k) := by
    intro L
    induction L with
    | nil => rfl
    | cons a L ih => rw [List.flatMap_cons, ih]; rfl
  rw [hfl] at h
  have hl := h.1
  rw [List.length_map, Nat.mul_one] at hl
  have hlt := h.lt
  have hc := fun g => h.cells (g := g)
  rcases h.2 with ⟨e, h0⟩ | ⟨g, cap, cur, e, _⟩
  · exact .inl (by omega)
  · injection e with e1 e2 e3
    subst e1
    refine .inr ⟨g, 0, rfl, (hlt g rfl).2, fun j hj => ?_⟩
    have := hc g rfl j (Value.int k l[j]) (by simp [hj])
    rw [add_at] at this
    rw [Nat.zero_add, this, List.getD_eq_getElem?_getD, List.getElem?_eq_getElem hj]
    rfl
theorem rowsAt_own {α : Type} (cells : α → List Value) (sz : Nat) (hsz : ∀ s, (cells s).length = sz) {w : World} {b : Nat} {e : TypeId} {n c : Nat} {p : Option Addr} {l : List α} (hn : l.length = n) (h : w.ownsRow b e sz (.slice p n c) n (l.flatMap cells)) : RowsAt w p sz (l.map cells) := by
  have hlt := h.lt
  have hc := fun g => h.cells (g := g)
  rcases h.2 with ⟨e, h0⟩ | ⟨g, cap, cur, e, _⟩
  · exact .inl (by rw [List.length_map]; omega)
  · injection e with e1 e2 e3
    subst e1
    refine .inr ⟨g, 0, rfl, (hlt g rfl).2, fun j hj => ?_⟩
    intro i u hu
    rw [List.length_map] at hj
    rw [List.getElem_map] at hu
    have hi : i < sz := by
      have := (List.getElem?_eq_some_iff.1 hu).1
      rw [hsz] at this
      exact this
    have key : ∀ (L : List α) (j : Nat) (hj : j < L.length), (L.flatMap cells)[j * sz + i]? = (cells L[j])[i]? := by
      intro L
      induction L with
      | nil => intro j hj; simp at hj
      | cons a L ih =>
        intro j hj
        rw [List.flatMap_cons]
        cases j with
        | zero =>
          rw [Nat.zero_mul, Nat.zero_add, List.getElem?_append_left (by rw [hsz]; exact hi)]
          rfl
        | succ j =>
          rw [List.getElem?_append_right (by rw [hsz, Nat.succ_mul]; omega), hsz, show (j + 1) * sz + i - sz = j * sz + i by rw [Nat.succ_mul]; omega, ih j (by simpa using hj)]
          rfl
    have := hc g rfl (j * sz + i) u (by rw [key l j hj]; exact hu)
    rw [add_at] at this
    rw [Nat.zero_add]
    exact this
/-- rows that lie from a block on -/
def High (L : Nat) (ps : List (Option Addr)) : Prop := ∀ a, some a ∈ ps → L ≤ a.block
theorem own_high {w : World} {b : Nat} {e : TypeId} {s n m c : Nat} {p : Option Addr} {xs : List Value} (h : w.ownsRow b e s (.slice p m c) n xs) (a : Addr) (ha : some a = p) : b ≤ a.block := by
  subst ha
  exact (h.lt a.block rfl).1
theorem SliceAt.grown {w w2 : World} {k : IntKind} {p : Option Addr} {l : List Int} {row : Option Nat} {L : Nat} (h : SliceAt w k p l) (hg : w.grownBy w2 row) (hp : ∀ a, some a = p → L ≤ a.block) (hr : ∀ k, row = some k → k < L) : SliceAt w2 k p l := by
  rcases h with h | ⟨c, co, rfl, hlt, hc⟩
  · exact .inl h
  · have h1 := hp _ rfl
    refine .inr ⟨c, co, rfl, Nat.lt_of_lt_of_le hlt hg.size, fun j hj => (World.cell?_of_block (hg.block c hlt (fun e => ?_))).trans (hc j hj)⟩
    have := hr c e.symm
    simp only at h1
    omega
theorem RowsAt.grown {w w2 : World} {p : Option Addr} {sz : Nat} {ls : List (List Value)} {row : Option Nat} {L : Nat} (h : RowsAt w p sz ls) (hg : w.grownBy w2 row) (hp : ∀ a, some a = p → L ≤ a.block) (hr : ∀ k, row = some k → k < L) : RowsAt w2 p sz ls := by
  rcases h with h | ⟨c, co, rfl, hlt, hc⟩
  · exact .inl h
  · have h1 := hp _ rfl
    refine .inr ⟨c, co, rfl, Nat.lt_of_lt_of_le hlt hg.size, fun j hj i v hv => (World.cell?_of_block (hg.block c hlt (fun e => ?_))).trans (hc j hj i v hv)⟩
    have := hr c e.symm
    simp only at h1
    omega
theorem ObjAt.grown {w w2 : World} {pc pd ps pr : Option Addr} {n d m r : Nat} {o : Ob.Obj} {row : Option Nat} {L : Nat} (h : ObjAt w pc pd ps pr n d m r o) (hg : w.grownBy w2 row) (hH : High L [pc, pd, ps, pr]) (hr : ∀ k, row = some k → k < L) : ObjAt w2 pc pd ps pr n d m r o :=
  ⟨h.nl, h.dl, h.ml, h.rl, h.nb, h.db, h.mb, h.rb, h.code.grown hg (fun a e => hH a (by simp [e])) hr, h.data.grown hg (fun a e => hH a (by simp [e])) hr, h.syms.grown hg (fun a e => hH a (by simp [e])) hr, h.rels.grown hg (fun a e => hH a (by simp [e])) hr, h.u32, h.i32, h.symIn, h.relIn⟩
theorem in64_u32 {x : Int} (h : 0 ≤ x ∧ x ≤ 4294967295) : In64 x := by unfold In64; omega
/-- the object that has been read -/
theorem GMid.obj {w wr : World} {B pr : Nat} {rest : List UInt8} {vc vd vs vr : Value} {xc xd : List Int} {xs : List Raw} {xr : List Rel} (h : GMid w wr B pr rest vc vd vs vr xc xd xs xr) (hc : ∀ x ∈ xc, 0 ≤ x ∧ x ≤ 4294967295) (hs : ∀ x ∈ xs, RawIn x) (hr : ∀ x ∈ xr, (0 ≤ x.pos ∧ x.pos ≤ 4294967295) ∧ (0 ≤ x.sym ∧ x.sym ≤ 4294967295) ∧ (0 ≤ x.add ∧ x.add ≤ 4294967295))
    (bc : xc.length ≤ 4294967295) (bd : xd.length ≤ 4294967295) (bs : xs.length ≤ 4294967295) (br : xr.length ≤ 4294967295) :
    ∃ (pc pd ps pr' : Option Addr) (n kn d kd m km r kr : Nat), Value.agg #[vc, vd, vs, vr] = objV pc pd ps pr' n kn d kd m km r kr ∧ ObjAt wr pc pd ps pr' n d m r (objOf xc xd xs xr) ∧ High (w.heap.size + 2) [pc, pd, ps, pr'] := by
  have hrc := h.rc
  have hrd := h.rd_
  have hrs := h.rs
  have hrr := h.rr
  obtain ⟨p1, c1, rfl⟩ := slice_of hrc
  obtain ⟨p2, c2, rfl⟩ := slice_of hrd
  obtain ⟨p3, c3, rfl⟩ := slice_of hrs
  obtain ⟨p4, c4, rfl⟩ := slice_of hrr
  refine ⟨p1, p2, p3, p4, _, c1, _, c2, _, c3, _, c4, rfl, ⟨rfl, ?_, ?_, rfl, by omega, by omega, by omega, by omega, sliceAt_own hrc, ?_, ?_, rowsAt_own relCells 3 (fun _ => rfl) rfl hrr, ?_, ?_, ?_, ?_⟩, ?_⟩
  · simp [objOf]
  · simp [objOf]
  · refine sliceAt_own (l := xd.map wrap32) (n := xd.length) (c := c2) (b := w.heap.size + 2) (e := 21) ?_
    rw [List.flatMap_map]
    exact hrd
  · refine rowsAt_own symCells 7 (fun _ => rfl) (l := xs.map Raw.sym) (n := xs.length) (c := c3) (b := w.heap.size + 2) (e := 106) (by simp) ?_
    rw [List.flatMap_map]
    exact hrs
  · intro j
    show 0 ≤ xc.getD j 0 ∧ xc.getD j 0 ≤ 4294967295
    rw [List.getD_eq_getElem?_getD]
    by_cases hj : j < xc.length
    · rw [List.getElem?_eq_getElem hj]
      exact hc _ (List.getElem_mem hj)
    · rw [List.getElem?_eq_none (by omega)]
      simp
  · refine in32_of fun v hv => ?_
    obtain ⟨y, _, rfl⟩ := List.mem_map.1 hv
    unfold wrap32
    omega
  · intro s hs'
    obtain ⟨y, hy, rfl⟩ := List.mem_map.1 hs'
    have g := hs y hy
    exact ⟨by show (bstr y.name).size ≤ _; have := g.name; simp [bstr, ByteArray.size]; omega, by show (bstr y.sign).size ≤ _; have := g.sign; simp [bstr, ByteArray.size]; omega, in64_u32 g.kind, in64_u32 g.pos, in64_u32 g.size, in64_u32 g.frame⟩
  · intro x hx
    have g := hr x hx
    exact ⟨in64_u32 g.1, in64_u32 g.2.1, in64_u32 g.2.2⟩
  · intro a ha
    simp only [List.mem_cons, List.not_mem_nil, or_false] at ha
    rcases ha with e | e | e | e
    · exact own_high hrc a e
    · exact own_high hrd a e
    · exact own_high hrs a e
    · exact own_high hrr a e

end Go.Proofs.Ythnehhidlaggeaa
