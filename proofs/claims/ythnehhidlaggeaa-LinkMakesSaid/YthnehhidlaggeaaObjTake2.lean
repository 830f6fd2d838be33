/- rows.take: the walk, whole. -/
import Derived.Test.YthnehhidlaggeaaObjMem
namespace Go.Proofs.Ythnehhidlaggeaa
set_option linter.unusedVariables false
set_option linter.unusedSimpArgs false
open Go.RowKit Ob

set_option maxRecDepth 100000 in
set_option maxHeartbeats 2000000 in
theorem take_bad (x : Nat) (c d kind pos size frame : Int) (static : Bool) (name sign : ByteArray) (w : World) (h : RowsBlk w x c d) (hk : kind ≠ 1 ∧ kind ≠ 2 ∧ kind ≠ 3 ∧ kind ≠ 4) :
    Calls Try.prog 50 #[.pointer (some ⟨x, 0, none⟩), .agg #[.string name, .int .i64 kind, .bool static, .int .i64 pos, .int .i64 size, .string sign, .int .i64 frame]] w fun e w' => e = .returned (.bool false) ∧ w.grownBy w' (some x) := by
  have e1 : (kind == 1) = false := beq_eq_false_iff_ne.2 hk.1
  have e2 : (kind == 2) = false := beq_eq_false_iff_ne.2 hk.2.1
  have e3 : (kind == 3) = false := beq_eq_false_iff_ne.2 hk.2.2.1
  have e4 : (kind == 4) = false := beq_eq_false_iff_ne.2 hk.2.2.2
  clear hk
  obtain ⟨c0, c1, cf⟩ := blk2 h
  have hlt : x < w.heap.size := lt_of_block h
  have hne : ¬ x = w.heap.size := by omega
  clear h
  go_enter Try.func50, Try.ntmps50
  go_wp2_with fail
  go_ret
  exact ⟨rfl, grown_alloc (World.grownBy.refl w _) _⟩

/-- what take makes of the sums -/
def TakeEnds (w : World) (x : Nat) (t : Option (Int × Int)) (e : Ending) (w' : World) : Prop :=
  e = .returned (.bool t.isSome) ∧ w.grownBy w' (some x) ∧ ∀ c' d', t = some (c', d') → RowsBlk w' x c' d'

theorem take_any (x : Nat) (c d : Int) (s : Sym) (w : World) (h : RowsBlk w x c d) (hc : -1000000000 ≤ c ∧ c ≤ 1000000000) (hd : -1000000000 ≤ d ∧ d ≤ 1000000000) :
    Calls Try.prog 50 #[.pointer (some ⟨x, 0, none⟩), symV s] w fun e w' => TakeEnds w x (take c d s) e w' := by
  obtain ⟨name, kind, static, pos, size, sign, frame⟩ := s
  have no : ∀ {Q : Ending → World → Prop} {v : Value}, take c d ⟨name, kind, static, pos, size, sign, frame⟩ = none →
      Calls Try.prog 50 #[.pointer (some ⟨x, 0, none⟩), v] w (fun e w' => e = .returned (.bool false) ∧ w.grownBy w' (some x)) →
      Calls Try.prog 50 #[.pointer (some ⟨x, 0, none⟩), v] w (fun e w' => TakeEnds w x (take c d ⟨name, kind, static, pos, size, sign, frame⟩) e w') := by
    intro Q v ht hw
    refine hw.mono ?_
    rintro e w' ⟨rfl, hg⟩
    rw [ht]
    exact ⟨rfl, hg, fun _ _ h => by cases h⟩
  by_cases hk : kind = 3 ∨ kind = 4
  · refine (take_out x c d kind pos size frame static name sign w h hk).mono ?_
    rintro e w' ⟨rfl, rfl⟩
    have ht : take c d ⟨name, kind, static, pos, size, sign, frame⟩ = if pos = 0 ∧ size = 0 ∧ frame = 0 ∧ static = false then some (c, d) else none := by
      unfold take
      rw [if_pos hk]
    rw [ht]
    refine ⟨retb ?_, grown_alloc (World.grownBy.refl w _) _, ?_⟩
    · split
      · rename_i h'; rw [decide_eq_true h']; rfl
      · rename_i h'; rw [decide_eq_false h']; rfl
    · intro c' d' he
      split at he
      · simp only [Option.some.injEq, Prod.mk.injEq] at he
        obtain ⟨rfl, rfl⟩ := he
        exact (Below.heap_alloc w _ x (lt_of_block h)).trans h
      · cases he
  · by_cases hs : size < 1 ∨ 16000 < size
    · have ht : take c d ⟨name, kind, static, pos, size, sign, frame⟩ = none := by
        unfold take
        rw [if_neg hk, if_pos hs]
      by_cases h1 : kind = 1
      · subst h1
        exact no (Q := fun _ _ => True) ht (take_fun_no x c d pos size frame static name sign w h (by omega))
      · by_cases h2 : kind = 2
        · subst h2
          exact no (Q := fun _ _ => True) ht (take_data_no x c d pos size frame static name sign w h (by omega))
        · exact no (Q := fun _ _ => True) ht (take_bad x c d kind pos size frame static name sign w h (by omega))
    · by_cases h1 : kind = 1
      · subst h1
        have ht : take c d ⟨name, 1, static, pos, size, sign, frame⟩ = if pos = c ∧ 0 ≤ frame ∧ frame ≤ 16000 then some (c + size, d) else none := by
          unfold take
          rw [if_neg hk, if_neg hs, if_pos rfl]
        by_cases hp : pos = c ∧ 0 ≤ frame ∧ frame ≤ 16000
        · rw [if_pos hp] at ht
          refine (take_fun_yes x c d pos size frame static name sign w h hc hp.1 (by omega) (by omega) hp.2.1 hp.2.2).mono ?_
          rintro e w' ⟨rfl, hr, hg⟩
          rw [ht]
          refine ⟨rfl, hg, fun c' d' he => ?_⟩
          simp only [Option.some.injEq, Prod.mk.injEq] at he
          obtain ⟨rfl, rfl⟩ := he
          exact hr
        · rw [if_neg hp] at ht
          exact no (Q := fun _ _ => True) ht (take_fun_no x c d pos size frame static name sign w h (by omega))
      · by_cases h2 : kind = 2
        · subst h2
          have ht : take c d ⟨name, 2, static, pos, size, sign, frame⟩ = if pos = d ∧ frame = 0 then some (c, d + size) else none := by
            unfold take
            rw [if_neg hk, if_neg hs, if_neg (show ¬ (2 : Int) = 1 by omega), if_pos rfl]
          by_cases hp : pos = d ∧ frame = 0
          · rw [if_pos hp] at ht
            refine (take_data_yes x c d pos size frame static name sign w h hd hp.1 (by omega) (by omega) (by omega) (by omega) hp.2).mono ?_
            rintro e w' ⟨rfl, hr, hg⟩
            rw [ht]
            refine ⟨rfl, hg, fun c' d' he => ?_⟩
            simp only [Option.some.injEq, Prod.mk.injEq] at he
            obtain ⟨rfl, rfl⟩ := he
            exact hr
          · rw [if_neg hp] at ht
            exact no (Q := fun _ _ => True) ht (take_data_no x c d pos size frame static name sign w h (by omega))
        · have ht : take c d ⟨name, kind, static, pos, size, sign, frame⟩ = none := by
            unfold take
            rw [if_neg hk, if_neg hs, if_neg h1, if_neg h2]
          exact no (Q := fun _ _ => True) ht (take_bad x c d kind pos size frame static name sign w h (by omega))

end Go.Proofs.Ythnehhidlaggeaa
