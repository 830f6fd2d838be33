/- MachineLonger: the walk. -/
import Derived.Test.YthnehhidlaggeaaWords
import Derived.Test.YthnehhidlaggeaaLongerPlain
namespace Go.Proofs.Ythnehhidlaggeaa
set_option linter.unusedVariables false
set_option linter.unusedSimpArgs false
open Go.RowKit Mc

/-- what Run tells of an image, where it may be -/
def RunTells (P : Program) (f : FuncId) (img : Value) (fuel e v : Int) (l : List Int) (s : Nat) (w : World) : Prop :=
  Calls P f #[img, .int .i64 fuel] w fun en w' => ∃ ov, en = .returned (.tuple #[.agg #[.int .i64 e, .int .i32 v, ov, .int .i64 s], .int .i64 0]) ∧ Below w.heap.size w w' ∧ w'.ownsRow w.heap.size 21 1 ov l.length (l.map (Value.int .i32))
/-- what Run tells of an image, where it is refused -/
def RunRefuses (P : Program) (f : FuncId) (img : Value) (fuel k : Int) (w : World) : Prop :=
  Calls P f #[img, .int .i64 fuel] w fun en w' => en = .returned (.tuple #[.agg #[.int .i64 0, .int .i32 0, .slice none 0 0, .int .i64 0], .int .i64 k]) ∧ Below w.heap.size w w'

section
variable (pc pd : Option Addr) (n kn d kd : Nat) (mem few more : Int) (w : World)
set_option maxRecDepth 100000 in
set_option maxHeartbeats 1000000 in
theorem longer_less (h : more < few) :
    Calls Try.prog 5 #[.agg #[.slice pc n kn, .slice pd d kd, .int .i64 mem], .int .i64 few, .int .i64 more] w fun e w' => e = .returned (.bool true) ∧ Below w.heap.size w w' := by
  go_enter Try.func5, Try.ntmps5
  go_wp2_with fail
  go_ret
  exact ⟨rfl, (Below.refl _ _).alloc (Nat.le_refl _) _⟩

/-- both are refused -/
theorem longer_refused (h : few ≤ more) (ka kb : Int) (hka : ka ≠ 0) (hkb : kb ≠ 0) (hor : ka = kb)
    (ha : ∀ w', RunRefuses Try.prog 14 (.agg #[.slice pc n kn, .slice pd d kd, .int .i64 mem]) few ka w') (hb : ∀ w', RunRefuses Try.prog 14 (.agg #[.slice pc n kn, .slice pd d kd, .int .i64 mem]) more kb w') :
    Calls Try.prog 5 #[.agg #[.slice pc n kn, .slice pd d kd, .int .i64 mem], .int .i64 few, .int .i64 more] w fun e w' => e = .returned (.bool true) ∧ Below w.heap.size w w' := by
  subst hor
  have hk : (ka != 0) = true := by rw [bne_iff_ne]; exact hka
  have h' : ¬ more < few := by omega
  have HA := Lib.hid ha
  have HB := Lib.hid hb
  clear ha hb hka hkb h
  unfold RunRefuses at HA HB
  go_enter Try.func5, Try.ntmps5
  go_wp2_with fail
  refine (HA.out _).mono ?_
  rintro e w1 ⟨rfl, hb1⟩
  have cb : w1.cell? ⟨w.heap.size, 0, none⟩ = some (.slice pc n kn) := (hb1.cell (p := ⟨w.heap.size, 0, none⟩) (by simp)).trans (cell_of_row _ _ 0 _ _ _ (heap_alloc_new w _))
  have cb1 : w1.cell? ⟨w.heap.size, 1, none⟩ = some (.slice pd d kd) := (hb1.cell (p := ⟨w.heap.size, 1, none⟩) (by simp)).trans (cell_of_row _ _ 1 _ _ _ (heap_alloc_new w _))
  have cb2 : w1.cell? ⟨w.heap.size, 2, none⟩ = some (.int .i64 mem) := (hb1.cell (p := ⟨w.heap.size, 2, none⟩) (by simp)).trans (cell_of_row _ _ 2 _ _ _ (heap_alloc_new w _))
  have hs1 : w.heap.size < w1.heap.size := by have := hb1.size; simp at this; omega
  have hB : Below w.heap.size w w1 := ((Below.refl _ _).alloc (Nat.le_refl _) _).trans (hb1.mono (by simp))
  have HBW := Lib.hid hB
  clear hb1 hB
  go_wp2_with fail
  refine (HB.out _).mono ?_
  rintro e w2 ⟨rfl, hb2⟩
  have hB : Below w.heap.size w w2 := (HBW.out.alloc (by omega) _).trans (hb2.mono (by simp; omega))
  have HBW2 := Lib.hid hB
  have hs2 : w1.heap.size < w2.heap.size := by have := hb2.size; simp at this; omega
  clear hb2 hB
  go_wp2_with fail
  go_ret
  exact ⟨rfl, HBW2.out.alloc (by omega) _⟩

set_option maxRecDepth 100000 in
set_option maxHeartbeats 1000000 in
/-- only the first is refused -/
theorem longer_first (h : few ≤ more) (ka : Int) (hka : ka ≠ 0) (hf : few < 0) (ha : ∀ w', RunRefuses Try.prog 14 (.agg #[.slice pc n kn, .slice pd d kd, .int .i64 mem]) few ka w') (eb vb : Int) (lb : List Int) (sb : Nat) (hb : ∀ w', Below w.heap.size w w' → RunTells Try.prog 14 (.agg #[.slice pc n kn, .slice pd d kd, .int .i64 mem]) more eb vb lb sb w') :
    Calls Try.prog 5 #[.agg #[.slice pc n kn, .slice pd d kd, .int .i64 mem], .int .i64 few, .int .i64 more] w fun e w' => e = .returned (.bool true) ∧ Below w.heap.size w w' := by
  have h' : ¬ more < few := by omega
  have hk : (ka != 0) = true := by rw [bne_iff_ne]; exact hka
  have hk2 : (ka == 0) = false := by rw [beq_eq_false_iff_ne]; exact hka
  have HA := Lib.hid ha
  have HB := Lib.hid hb
  clear ha hb hka h
  unfold RunRefuses at HA
  unfold RunTells at HB
  go_enter Try.func5, Try.ntmps5
  go_wp2_with fail
  refine (HA.out _).mono ?_
  rintro e w1 ⟨rfl, hb1⟩
  have cb : w1.cell? ⟨w.heap.size, 0, none⟩ = some (.slice pc n kn) := (hb1.cell (p := ⟨w.heap.size, 0, none⟩) (by simp)).trans (cell_of_row _ _ 0 _ _ _ (heap_alloc_new w _))
  have cb1 : w1.cell? ⟨w.heap.size, 1, none⟩ = some (.slice pd d kd) := (hb1.cell (p := ⟨w.heap.size, 1, none⟩) (by simp)).trans (cell_of_row _ _ 1 _ _ _ (heap_alloc_new w _))
  have cb2 : w1.cell? ⟨w.heap.size, 2, none⟩ = some (.int .i64 mem) := (hb1.cell (p := ⟨w.heap.size, 2, none⟩) (by simp)).trans (cell_of_row _ _ 2 _ _ _ (heap_alloc_new w _))
  have hs1 : w.heap.size < w1.heap.size := by have := hb1.size; simp at this; omega
  have hB : Below w.heap.size w w1 := ((Below.refl _ _).alloc (Nat.le_refl _) _).trans (hb1.mono (by simp))
  have HBW := Lib.hid hB
  clear hb1 hB
  go_wp2_with fail
  refine (HB.out _ (HBW.out.alloc (by omega) _)).mono ?_
  rintro e w2 ⟨ovb, rfl, hb2, hob⟩
  obtain ⟨pb, cb', rfl⟩ := own_slice hob
  have hB : Below w.heap.size w w2 := (HBW.out.alloc (by omega) _).trans (hb2.mono (by simp; omega))
  have HBW2 := Lib.hid hB
  have hs2 : w1.heap.size < w2.heap.size := by have := hb2.size; simp at this; omega
  clear hb2 hB hob
  go_wp2_with fail
  go_ret
  exact ⟨rfl, HBW2.out.alloc (by omega) _⟩

set_option maxRecDepth 100000 in
set_option maxHeartbeats 1000000 in
/-- only the second is refused -/
theorem longer_second (h : few ≤ more) (kb : Int) (hkb : kb ≠ 0) (hf : 300000 < more) (hf0 : 0 ≤ few) (ea va : Int) (la : List Int) (sa : Nat) (ha : ∀ w', Below w.heap.size w w' → RunTells Try.prog 14 (.agg #[.slice pc n kn, .slice pd d kd, .int .i64 mem]) few ea va la sa w') (hb : ∀ w', RunRefuses Try.prog 14 (.agg #[.slice pc n kn, .slice pd d kd, .int .i64 mem]) more kb w') :
    Calls Try.prog 5 #[.agg #[.slice pc n kn, .slice pd d kd, .int .i64 mem], .int .i64 few, .int .i64 more] w fun e w' => e = .returned (.bool true) ∧ Below w.heap.size w w' := by
  have h' : ¬ more < few := by omega
  have hk : (kb != 0) = true := by rw [bne_iff_ne]; exact hkb
  have hk2 : (0 == kb) = false := by rw [beq_eq_false_iff_ne]; exact fun e => hkb e.symm
  have HA := Lib.hid ha
  have HB := Lib.hid hb
  clear ha hb hkb h
  unfold RunTells at HA
  unfold RunRefuses at HB
  go_enter Try.func5, Try.ntmps5
  go_wp2_with fail
  refine (HA.out _ ((Below.refl _ _).alloc (Nat.le_refl _) _)).mono ?_
  rintro e w1 ⟨ova, rfl, hb1, hoa⟩
  obtain ⟨pa, ca, rfl⟩ := own_slice hoa
  have cb : w1.cell? ⟨w.heap.size, 0, none⟩ = some (.slice pc n kn) := (hb1.cell (p := ⟨w.heap.size, 0, none⟩) (by simp)).trans (cell_of_row _ _ 0 _ _ _ (heap_alloc_new w _))
  have cb1 : w1.cell? ⟨w.heap.size, 1, none⟩ = some (.slice pd d kd) := (hb1.cell (p := ⟨w.heap.size, 1, none⟩) (by simp)).trans (cell_of_row _ _ 1 _ _ _ (heap_alloc_new w _))
  have cb2 : w1.cell? ⟨w.heap.size, 2, none⟩ = some (.int .i64 mem) := (hb1.cell (p := ⟨w.heap.size, 2, none⟩) (by simp)).trans (cell_of_row _ _ 2 _ _ _ (heap_alloc_new w _))
  have hs1 : w.heap.size < w1.heap.size := by have := hb1.size; simp at this; omega
  have hB : Below w.heap.size w w1 := ((Below.refl _ _).alloc (Nat.le_refl _) _).trans (hb1.mono (by simp))
  have HBW := Lib.hid hB
  have HOA := Lib.hid hoa
  clear hoa
  clear hb1 hB
  go_wp2_with fail
  refine (HB.out _).mono ?_
  rintro e w2 ⟨rfl, hb2⟩
  have hB : Below w.heap.size w w2 := (HBW.out.alloc (by omega) _).trans (hb2.mono (by simp; omega))
  have HBW2 := Lib.hid hB
  have hs2 : w1.heap.size < w2.heap.size := by have := hb2.size; simp at this; omega
  clear hb2 hB
  go_wp2_with fail
  go_ret
  exact ⟨rfl, HBW2.out.alloc (by omega) _⟩

set_option maxRecDepth 100000 in
set_option maxHeartbeats 1000000 in
/-- the first had no more steps -/
theorem longer_more (h : few ≤ more) (hf0 : 0 ≤ few) (ea va : Int) (la : List Int) (sa : Nat) (ha : ∀ w', Below w.heap.size w w' → RunTells Try.prog 14 (.agg #[.slice pc n kn, .slice pd d kd, .int .i64 mem]) few ea va la sa w') (eb vb : Int) (lb : List Int) (sb : Nat) (hb : ∀ w', Below w.heap.size w w' → RunTells Try.prog 14 (.agg #[.slice pc n kn, .slice pd d kd, .int .i64 mem]) more eb vb lb sb w') (he : ea = 0) (hsa : few = sa) (hsb : sa ≤ sb) (hp : la <+: lb) :
    Calls Try.prog 5 #[.agg #[.slice pc n kn, .slice pd d kd, .int .i64 mem], .int .i64 few, .int .i64 more] w fun e w' => e = .returned (.bool true) ∧ Below w.heap.size w w' := by
  have h' : ¬ more < few := by omega
  subst he hsa
  have HP := Lib.hid hp
  clear hp
  have HA := Lib.hid ha
  have HB := Lib.hid hb
  clear ha hb h
  unfold RunTells at HA HB
  go_enter Try.func5, Try.ntmps5
  go_wp2_with fail
  refine (HA.out _ ((Below.refl _ _).alloc (Nat.le_refl _) _)).mono ?_
  rintro e w1 ⟨ova, rfl, hb1, hoa⟩
  obtain ⟨pa, ca, rfl⟩ := own_slice hoa
  have cb : w1.cell? ⟨w.heap.size, 0, none⟩ = some (.slice pc n kn) := (hb1.cell (p := ⟨w.heap.size, 0, none⟩) (by simp)).trans (cell_of_row _ _ 0 _ _ _ (heap_alloc_new w _))
  have cb1 : w1.cell? ⟨w.heap.size, 1, none⟩ = some (.slice pd d kd) := (hb1.cell (p := ⟨w.heap.size, 1, none⟩) (by simp)).trans (cell_of_row _ _ 1 _ _ _ (heap_alloc_new w _))
  have cb2 : w1.cell? ⟨w.heap.size, 2, none⟩ = some (.int .i64 mem) := (hb1.cell (p := ⟨w.heap.size, 2, none⟩) (by simp)).trans (cell_of_row _ _ 2 _ _ _ (heap_alloc_new w _))
  have hs1 : w.heap.size < w1.heap.size := by have := hb1.size; simp at this; omega
  have hB : Below w.heap.size w w1 := ((Below.refl _ _).alloc (Nat.le_refl _) _).trans (hb1.mono (by simp))
  have HBW := Lib.hid hB
  have HOA := Lib.hid hoa
  clear hoa
  clear hb1 hB
  go_wp2_with fail
  refine (HB.out _ (HBW.out.alloc (by omega) _)).mono ?_
  rintro e w2 ⟨ovb, rfl, hb2, hob⟩
  obtain ⟨pb, cb', rfl⟩ := own_slice hob
  have hB : Below w.heap.size w w2 := (HBW.out.alloc (by omega) _).trans (hb2.mono (by simp; omega))
  have HBW2 := Lib.hid hB
  have hs2 : w1.heap.size < w2.heap.size := by have := hb2.size; simp at this; omega
  have hoa2 : w2.ownsRow _ 21 1 (.slice pa la.length ca) la.length (la.map (Value.int .i32)) := own_below (own_below HOA.out ((Below.refl _ _).alloc (Nat.le_refl _) _)) hb2
  obtain ⟨pa', ca', ea1, ea2, ea3, ea4⟩ := own_words hoa2
  obtain ⟨pb', cbb, eb1, eb2, eb3, eb4⟩ := own_words hob
  injection ea1 with ea1 _ ea5
  injection eb1 with eb1 _ eb5
  subst ea1 ea5 eb1 eb5
  have hblk := (hb2.block w1.heap.size (by simp)).trans (heap_alloc_new w1 _)
  obtain ⟨y0, y1, y2, y3, yz⟩ := blk4 hblk
  have HEA := Lib.hid ea4
  have HEB := Lib.hid eb4
  clear hb2 hB hob hoa2 ea4 eb4 hblk
  have HC : Hid (∀ w', Below w2.heap.size w2 w' → Calls Try.prog 15 #[.slice pb lb.length cb', .slice pa la.length ca] w' fun e w'' => e = .returned (.bool true) ∧ Below w'.heap.size w' w'') :=
    fun w' hb => begins_yes _ _ lb la _ _ _ _ w' rfl rfl (HEB.out.below hb) (HEA.out.below hb) (by omega) (by omega) eb2 HP.out
  clear HEA HEB
  have hd : decide ((sa : Int) ≤ sb) = true := by simp; omega
  go_wp2_with fail
  refine (HC.out _ ((Below.refl _ _).alloc (Nat.le_refl _) _)).mono ?_
  rintro e w3 ⟨rfl, hb3⟩
  have hB3 : Below w.heap.size w w3 := (HBW2.out.alloc (by omega) _).trans (hb3.mono (by simp; omega))
  have HBW3 := Lib.hid hB3
  clear hb3 hB3
  go_wp2_with fail
  go_ret
  exact ⟨rfl, HBW3.out⟩

set_option maxRecDepth 100000 in
set_option maxHeartbeats 1000000 in
/-- the first had ended -/
theorem longer_ended (h : few ≤ more) (ea va : Int) (la : List Int) (sa : Nat) (ha : ∀ w', Below w.heap.size w w' → RunTells Try.prog 14 (.agg #[.slice pc n kn, .slice pd d kd, .int .i64 mem]) few ea va la sa w') (eb vb : Int) (lb : List Int) (sb : Nat) (hb : ∀ w', Below w.heap.size w w' → RunTells Try.prog 14 (.agg #[.slice pc n kn, .slice pd d kd, .int .i64 mem]) more eb vb lb sb w') (he : ea ≠ 0) (h1 : eb = ea) (h2 : vb = va) (h3 : sb = sa) (h4 : lb = la) :
    Calls Try.prog 5 #[.agg #[.slice pc n kn, .slice pd d kd, .int .i64 mem], .int .i64 few, .int .i64 more] w fun e w' => e = .returned (.bool true) ∧ Below w.heap.size w w' := by
  have h' : ¬ more < few := by omega
  subst h1 h2 h3 h4
  have hen : (eb == 0) = false := by rw [beq_eq_false_iff_ne]; exact he
  clear he
  have HA := Lib.hid ha
  have HB := Lib.hid hb
  clear ha hb h
  unfold RunTells at HA HB
  go_enter Try.func5, Try.ntmps5
  go_wp2_with fail
  refine (HA.out _ ((Below.refl _ _).alloc (Nat.le_refl _) _)).mono ?_
  rintro e w1 ⟨ova, rfl, hb1, hoa⟩
  obtain ⟨pa, ca, rfl⟩ := own_slice hoa
  have cb : w1.cell? ⟨w.heap.size, 0, none⟩ = some (.slice pc n kn) := (hb1.cell (p := ⟨w.heap.size, 0, none⟩) (by simp)).trans (cell_of_row _ _ 0 _ _ _ (heap_alloc_new w _))
  have cb1 : w1.cell? ⟨w.heap.size, 1, none⟩ = some (.slice pd d kd) := (hb1.cell (p := ⟨w.heap.size, 1, none⟩) (by simp)).trans (cell_of_row _ _ 1 _ _ _ (heap_alloc_new w _))
  have cb2 : w1.cell? ⟨w.heap.size, 2, none⟩ = some (.int .i64 mem) := (hb1.cell (p := ⟨w.heap.size, 2, none⟩) (by simp)).trans (cell_of_row _ _ 2 _ _ _ (heap_alloc_new w _))
  have hs1 : w.heap.size < w1.heap.size := by have := hb1.size; simp at this; omega
  have hB : Below w.heap.size w w1 := ((Below.refl _ _).alloc (Nat.le_refl _) _).trans (hb1.mono (by simp))
  have HBW := Lib.hid hB
  have HOA := Lib.hid hoa
  clear hoa
  clear hb1 hB
  go_wp2_with fail
  refine (HB.out _ (HBW.out.alloc (by omega) _)).mono ?_
  rintro e w2 ⟨ovb, rfl, hb2, hob⟩
  obtain ⟨pb, cb', rfl⟩ := own_slice hob
  have hB : Below w.heap.size w w2 := (HBW.out.alloc (by omega) _).trans (hb2.mono (by simp; omega))
  have HBW2 := Lib.hid hB
  have hs2 : w1.heap.size < w2.heap.size := by have := hb2.size; simp at this; omega
  have hoa2 : w2.ownsRow _ 21 1 (.slice pa lb.length ca) lb.length (lb.map (Value.int .i32)) := own_below (own_below HOA.out ((Below.refl _ _).alloc (Nat.le_refl _) _)) hb2
  obtain ⟨pa', ca', ea1, ea2, ea3, ea4⟩ := own_words hoa2
  obtain ⟨pb', cbb, eb1, eb2, eb3, eb4⟩ := own_words hob
  injection ea1 with ea1 _ ea5
  injection eb1 with eb1 _ eb5
  subst ea1 ea5 eb1 eb5
  have hblk := (hb2.block w1.heap.size (by simp)).trans (heap_alloc_new w1 _)
  obtain ⟨y0, y1, y2, y3, yz⟩ := blk4 hblk
  have HEA := Lib.hid ea4
  have HEB := Lib.hid eb4
  clear hb2 hB hob hoa2 ea4 eb4 hblk
  have HC : Hid (∀ w', Below w2.heap.size w2 w' → Calls Try.prog 16 #[.slice pa lb.length ca, .slice pb lb.length cb'] w' fun e w'' => e = .returned (.bool true) ∧ Below w'.heap.size w' w'') := by
    intro w' hb
    have h := kwords_any pa pb lb lb _ _ ca cb' w' rfl rfl (HEA.out.below hb) (HEB.out.below hb) (by omega) (by omega)
    rw [decide_eq_true rfl] at h
    exact h
  clear HEA HEB
  go_wp2_with fail
  refine (HC.out _ ((Below.refl _ _).alloc (Nat.le_refl _) _)).mono ?_
  rintro e w3 ⟨rfl, hb3⟩
  have hB3 : Below w.heap.size w w3 := (HBW2.out.alloc (by omega) _).trans (hb3.mono (by simp; omega))
  have HBW3 := Lib.hid hB3
  clear hb3 hB3
  go_wp2_with fail
  go_ret
  exact ⟨rfl, HBW3.out⟩
end

end Go.Proofs.Ythnehhidlaggeaa
