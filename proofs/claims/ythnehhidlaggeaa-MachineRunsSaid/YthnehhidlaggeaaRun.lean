/- machine.Run and Shown: what they do. -/
import Derived.Test.YthnehhidlaggeaaRan
namespace Go.Proofs.Ythnehhidlaggeaa
set_option linter.unusedVariables false
set_option linter.unusedSimpArgs false
open Go.RowKit Mc

theorem own_base {w : World} {b b' : Nat} {e : TypeId} {size n : Nat} {v : Value} {xs : List Value} (h : w.ownsRow b e size v n xs) (hb : b' ≤ b) : w.ownsRow b' e size v n xs := by
  refine ⟨h.1, ?_⟩
  rcases h.2 with h | ⟨g, cap, cur, h1, h2, h3⟩
  · exact .inl h
  · exact .inr ⟨g, cap, cur, h1, by omega, h3⟩
theorem own_slice {w : World} {b : Nat} {e : TypeId} {size n : Nat} {v : Value} {xs : List Value} (h : w.ownsRow b e size v n xs) : ∃ p c, v = .slice p n c := by
  rcases h.2 with ⟨rfl, rfl⟩ | ⟨g, cap, cur, h1, h2, h3⟩
  · exact ⟨_, _, rfl⟩
  · exact ⟨_, _, h1⟩
theorem own_below {w w' : World} {b : Nat} {e : TypeId} {size n : Nat} {v : Value} {xs : List Value} (h : w.ownsRow b e size v n xs) (hb : Below w.heap.size w w') : w'.ownsRow b e size v n xs :=
  h.kept (row := none) ⟨hb.os, hb.tape, hb.output, hb.size, fun k hk _ => hb.block k hk⟩ (by cases hv : v.ownBlock <;> simp)

theorem blk17 {w : World} {b : Nat} {t : TypeId} {v0 v1 v2 v3 v4 v5 v6 v7 v8 v9 v10 v11 v12 v13 v14 v15 v16 : Value} (h : w.heap[b]? = some (.cells #[v0, v1, v2, v3, v4, v5, v6, v7, v8, v9, v10, v11, v12, v13, v14, v15, v16] t (0, 0))) :
    w.cell? ⟨b, 0, none⟩ = some v0 ∧ w.cell? ⟨b, 1, none⟩ = some v1 ∧ w.cell? ⟨b, 2, none⟩ = some v2 ∧ w.cell? ⟨b, 3, none⟩ = some v3 ∧ w.cell? ⟨b, 4, none⟩ = some v4 ∧ w.cell? ⟨b, 5, none⟩ = some v5 ∧ w.cell? ⟨b, 6, none⟩ = some v6 ∧ w.cell? ⟨b, 7, none⟩ = some v7 ∧ w.cell? ⟨b, 8, none⟩ = some v8 ∧ w.cell? ⟨b, 9, none⟩ = some v9 ∧ w.cell? ⟨b, 10, none⟩ = some v10 ∧ w.cell? ⟨b, 11, none⟩ = some v11 ∧ w.cell? ⟨b, 12, none⟩ = some v12 ∧ w.cell? ⟨b, 13, none⟩ = some v13 ∧ w.cell? ⟨b, 14, none⟩ = some v14 ∧ w.cell? ⟨b, 15, none⟩ = some v15 ∧ w.cell? ⟨b, 16, none⟩ = some v16 ∧ ∀ o, w.frozen? ⟨b, o, none⟩ = false :=
  ⟨cell_of_row w b 0 _ _ _ h, cell_of_row w b 1 _ _ _ h, cell_of_row w b 2 _ _ _ h, cell_of_row w b 3 _ _ _ h, cell_of_row w b 4 _ _ _ h, cell_of_row w b 5 _ _ _ h, cell_of_row w b 6 _ _ _ h, cell_of_row w b 7 _ _ _ h, cell_of_row w b 8 _ _ _ h, cell_of_row w b 9 _ _ _ h, cell_of_row w b 10 _ _ _ h, cell_of_row w b 11 _ _ _ h, cell_of_row w b 12 _ _ _ h, cell_of_row w b 13 _ _ _ h, cell_of_row w b 14 _ _ _ h, cell_of_row w b 15 _ _ _ h, cell_of_row w b 16 _ _ _ h, fun o => by simp [World.frozen?, h]⟩
theorem list16 {l : List Int} (h : l.length = 16) : ∃ r0 r1 r2 r3 r4 r5 r6 r7 r8 r9 r10 r11 r12 r13 r14 r15, l = [r0, r1, r2, r3, r4, r5, r6, r7, r8, r9, r10, r11, r12, r13, r14, r15] := by
  match l, h with
  | [r0, r1, r2, r3, r4, r5, r6, r7, r8, r9, r10, r11, r12, r13, r14, r15], _ => exact ⟨_, _, _, _, _, _, _, _, _, _, _, _, _, _, _, _, rfl⟩

theorem below_cells {B b : Nat} {a : World} (hb : B ≤ b) : ∀ (vs : List Value) (o : Nat) {w : World}, Below B a w → Below B a (w.setCells b o vs)
  | [], _, _, h => h
  | v :: r, o, _, h => below_cells hb r (o + 1) (h.setCell (p := ⟨b, o, none⟩) hb v)

/-- registers in memory -/
def regsV (R : List Int) (pc : Int) : Value := .agg (R.map (Value.int .i32) ++ [Value.int .i64 pc]).toArray

/-- an ending in memory -/
def stopV (e value : Int) (ov : Value) (steps : Int) : Value := .agg #[.int .i64 e, .int .i32 value, ov, .int .i64 steps]

section
variable (pc pd : Option Addr) (n kn d kd : Nat) (mem fuel : Int) (w : World)

/-- where an image is not run: what is wrong is told -/
def Refused (k : Int) (e : Ending) (zero : Value) (w w' : World) : Prop := e = .returned (.tuple #[zero, .int .i64 k]) ∧ Below w.heap.size w w'

set_option maxRecDepth 100000 in
set_option maxHeartbeats 1000000 in
theorem mrun_err (k : Int) (hk : k ≠ 0) (h : ∀ w', Calls Try.prog 39 #[.agg #[.slice pc n kn, .slice pd d kd, .int .i64 mem], .int .i64 fuel] w' fun e w'' => e = .returned (.tuple #[.pointer none, .int .i64 k]) ∧ Below w'.heap.size w' w'') :
    Calls Try.prog 14 #[.agg #[.slice pc n kn, .slice pd d kd, .int .i64 mem], .int .i64 fuel] w fun e w' => Refused k e (stopV 0 0 (.slice none 0 0) 0) w w' := by
  have hk1 : (k != 0) = true := by rw [bne_iff_ne]; exact hk
  clear hk
  have H := Lib.hid h
  clear h
  go_enter Try.func14, Try.ntmps14
  go_wp2_with fail
  refine (H.out _).mono ?_
  rintro e w2 ⟨rfl, hb⟩
  have hI := (hb.block (w.heap.size + 1) (by simp)).trans (heap_alloc_new2 w _ _)
  obtain ⟨p0, p1, p2, p3, pz⟩ := blk4 hI
  have hB : Below w.heap.size w w2 := (((Below.refl _ _).alloc (Nat.le_refl _) _).alloc (by simp) _).trans (hb.mono (by simp; omega))
  have HB := Lib.hid hB
  clear hb hB hI
  go_wp2_with fail
  refine bodyPost_ret (v := .tuple #[stopV 0 0 (.slice none 0 0) 0, .int .i64 k]) (by simp [results, Try.results14, go_sem, p0, p1, p2, p3, World.cell?_alloc_lt, stopV]) rfl ⟨rfl, ?_⟩
  exact (((HB.out.setCell (by simp) _).setCell (by simp) _).setCell (by simp) _).setCell (by simp) _

set_option maxRecDepth 100000 in
set_option maxHeartbeats 1000000 in
theorem mshown_err (k : Int) (hk : k ≠ 0) (h : ∀ w', Calls Try.prog 39 #[.agg #[.slice pc n kn, .slice pd d kd, .int .i64 mem], .int .i64 fuel] w' fun e w'' => e = .returned (.tuple #[.pointer none, .int .i64 k]) ∧ Below w'.heap.size w' w'') :
    Calls Try.prog 17 #[.agg #[.slice pc n kn, .slice pd d kd, .int .i64 mem], .int .i64 fuel] w fun e w' => Refused k e (regsV (List.replicate 16 0) 0) w w' := by
  have hk1 : (k != 0) = true := by rw [bne_iff_ne]; exact hk
  clear hk
  have H := Lib.hid h
  clear h
  go_enter Try.func17, Try.ntmps17
  go_wp2_with fail
  refine (H.out _).mono ?_
  rintro e w2 ⟨rfl, hb⟩
  have hI := (hb.block (w.heap.size + 1) (by simp)).trans (heap_alloc_new2 w _ _)
  have hB : Below w.heap.size w w2 := (((Below.refl _ _).alloc (Nat.le_refl _) _).alloc (by simp) _).trans (hb.mono (by simp; omega))
  obtain ⟨p0, p1, p2, p3, p4, p5, p6, p7, p8, p9, p10, p11, p12, p13, p14, p15, p16, pz⟩ := blk17 hI
  have HB := Lib.hid hB
  clear hb hB hI
  go_wp2_with fail
  refine bodyPost_ret (v := .tuple #[regsV (List.replicate 16 0) 0, .int .i64 k]) (by simp [results, Try.results17, go_sem, p0, p1, p2, p3, p4, p5, p6, p7, p8, p9, p10, p11, p12, p13, p14, p15, p16, World.cell?_alloc_lt, regsV, List.replicate]) rfl ⟨rfl, ?_⟩
  exact (((((((((((((((((HB.out.setCell (by simp) _).setCell (by simp) _).setCell (by simp) _).setCell (by simp) _).setCell (by simp) _).setCell (by simp) _).setCell (by simp) _).setCell (by simp) _).setCell (by simp) _).setCell (by simp) _).setCell (by simp) _).setCell (by simp) _).setCell (by simp) _).setCell (by simp) _).setCell (by simp) _).setCell (by simp) _).setCell (by simp) _)
end

set_option maxRecDepth 100000 in
set_option maxHeartbeats 1000000 in
theorem mrun_ok (pc pd : Option Addr) (cl dl : List Int) (n kn d kd M fuel : Nat) (w : World) (hn : cl.length = n) (hd : dl.length = d) (hc : SliceAt w .u32 pc cl) (hdd : SliceAt w .i32 pd dl) (hi : In32 dl) (h : mayImage n d M) (hf : fuel ≤ 300000) (m : Mach) (hm : m = run n (n + d) fuel (mBegin cl dl M)) :
    Calls Try.prog 14 #[.agg #[.slice pc n kn, .slice pd d kd, .int .i64 M], .int .i64 fuel] w fun e w' => ∃ ov, e = .returned (.tuple #[stopV (endOf m) m.value ov m.steps, .int .i64 0]) ∧ Below w.heap.size w w' ∧ w'.ownsRow w.heap.size 21 1 ov m.out.length (m.out.map (Value.int .i32)) := by
  have H : Hid (∀ w', Below w.heap.size w w' → Calls Try.prog 39 #[.agg #[.slice pc n kn, .slice pd d kd, .int .i64 M], .int .i64 fuel] w' fun e w'' => ∃ x, e = .returned (.tuple #[.pointer (some ⟨x, 0, none⟩), .int .i64 0]) ∧ ∃ B g ov, w'.heap.size ≤ B ∧ Below w'.heap.size w' w'' ∧ MachAt w'' B x g n (n + d) (endOf m) ov m) := by
    intro w' hb
    rw [hm]
    exact ran_ok pc pd cl dl n kn d kd M fuel w' hn hd (hc.below hb) (hdd.below hb) hi h hf
  clear hn hd hc hdd hi h hm
  go_enter Try.func14, Try.ntmps14
  go_wp2_with fail
  refine (H.out _ (((Below.refl _ _).alloc (Nat.le_refl _) _).alloc (by simp) _)).mono ?_
  rintro e w2 ⟨x, rfl, B, g, ov, hBs, hb, hM⟩
  obtain ⟨pv, cv, rfl⟩ := own_slice hM.outs
  have hI := (hb.block (w.heap.size + 1) (by simp)).trans (heap_alloc_new2 w _ _)
  obtain ⟨p0, p1, p2, p3, pz⟩ := blk4 hI
  have hB : Below w.heap.size w w2 := (((Below.refl _ _).alloc (Nat.le_refl _) _).alloc (by simp) _).trans (hb.mono (by simp; omega))
  have hxb : w.heap.size + 1 + 1 ≤ x := by have := hM.base; simp at hBs; omega
  have hxn : ¬ w.heap.size + 1 = x := by omega
  have hxn2 : ¬ x = w.heap.size + 1 := by omega
  have t17 := hM.tail.2.1
  have t18 := hM.tail.2.2.1
  have t19 := hM.tail.2.2.2.1
  have t20 := hM.tail.2.2.2.2.1
  have hbb : w.heap.size ≤ B := by simp at hBs; omega
  have hO := own_base hM.outs hbb
  have hnb : (Value.slice pv m.out.length cv).ownBlock ≠ some (w.heap.size + 1) := by
    intro e
    have := (hM.outs.lt _ e).1
    simp at hBs
    omega
  have HB := Lib.hid hB
  have HO := Lib.hid hO
  have HN := Lib.hid hnb
  clear hb hB hI hM hO hnb hBs
  go_wp2_with fail
  refine bodyPost_ret (v := .tuple #[stopV (endOf m) m.value (.slice pv m.out.length cv) m.steps, .int .i64 0]) (by simp [results, Try.results14, go_sem, p0, p1, p2, p3, World.cell?_alloc_lt, stopV]) rfl ⟨_, rfl, ?_, ?_⟩
  · exact ((((HB.out.setCell (by simp) _).setCell (by simp) _).setCell (by simp) _).setCell (by simp) _)
  · have hk : ∀ (w3 : World) o u, w3.ownsRow w.heap.size 21 1 (.slice pv m.out.length cv) m.out.length (m.out.map (Value.int .i32)) → (w3.setCell ⟨w.heap.size + 1, o, none⟩ u).ownsRow w.heap.size 21 1 (.slice pv m.out.length cv) m.out.length (m.out.map (Value.int .i32)) :=
      fun w3 o u h => h.kept (grown_set w3 _ o u) (.inr HN.out)
    exact hk _ _ _ (hk _ _ _ (hk _ _ _ (hk _ _ _ HO.out)))

end Go.Proofs.Ythnehhidlaggeaa
