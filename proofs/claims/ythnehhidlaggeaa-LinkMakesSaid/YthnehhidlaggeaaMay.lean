/- code.field, code.may: the walks. -/
import Derived.Test.YthnehhidlaggeaaOf
import Derived.Test.YthnehhidlaggeaaCodePlain
import Derived.Test.YthnehhidlaggeaaShelf
import Derived.Test.YthnehhidlaggeaaKit
import Derived.Lib.IndexAny
namespace Go.Proofs.Ythnehhidlaggeaa
set_option linter.unusedVariables false
set_option linter.unusedSimpArgs false
open Go.RowKit

theorem field_A (b : Nat) (w : World) : Calls Try.prog 69 #[.pointer (some ⟨b, 0, none⟩), .int .i32 65] w fun e w' => e = .returned (.pointer (some ⟨b, 1, none⟩)) ∧ w = w' := by
  go_enter Try.func69, Try.ntmps69
  go_wp2
  go_ret
  exact ⟨rfl, rfl⟩
theorem field_B (b : Nat) (w : World) : Calls Try.prog 69 #[.pointer (some ⟨b, 0, none⟩), .int .i32 66] w fun e w' => e = .returned (.pointer (some ⟨b, 2, none⟩)) ∧ w = w' := by
  go_enter Try.func69, Try.ntmps69
  go_wp2
  go_ret
  exact ⟨rfl, rfl⟩
theorem field_C (b : Nat) (w : World) : Calls Try.prog 69 #[.pointer (some ⟨b, 0, none⟩), .int .i32 67] w fun e w' => e = .returned (.pointer (some ⟨b, 3, none⟩)) ∧ w = w' := by
  go_enter Try.func69, Try.ntmps69
  go_wp2
  go_ret
  exact ⟨rfl, rfl⟩
theorem field_I (b : Nat) (w : World) : Calls Try.prog 69 #[.pointer (some ⟨b, 0, none⟩), .int .i32 73] w fun e w' => e = .returned (.pointer (some ⟨b, 4, none⟩)) ∧ w = w' := by
  go_enter Try.func69, Try.ntmps69
  go_wp2
  go_ret
  exact ⟨rfl, rfl⟩

set_option maxHeartbeats 400000 in
theorem may_none (op a b c i : Int) (w : World) (h1 : -9223372036854775808 ≤ op) (h2 : op ≤ 9223372036854775807) (hf : Cp.find op = none) :
    Calls Try.prog 35 #[.agg #[.int .i64 op, .int .i64 a, .int .i64 b, .int .i64 c, .int .i64 i]] w fun e w' => e = .returned (.tuple #[Cp.formV op, .int .i64 (Cp.mayE op a b c i)]) ∧ Below w.heap.size w w' := by
  have hv : Cp.formV op = .agg #[.string ⟨#[]⟩, .string ⟨#[]⟩, .int .i64 0, .int .i64 0] := by unfold Cp.formV; rw [hf]
  have hm : Cp.mayE op a b c i = 2 := by unfold Cp.mayE; rw [hf]
  have ho : ∀ w, Calls Try.prog 33 #[.int .i64 op] w fun e w' => e = .returned (.tuple #[.agg #[.string ⟨#[]⟩, .string ⟨#[]⟩, .int .i64 0, .int .i64 0], .bool false]) ∧ Below w.heap.size w w' := by
    intro w; have := of_any op w h1 h2; rw [hv, hf] at this; exact this
  rw [hv, hm]
  have HO := Lib.hid ho
  clear ho hv hm hf
  go_enter Try.func35, Try.ntmps35
  go_wp2_with (first
    | (go_at_call 33; refine (HO.out _).mono ?_; rintro e w' ⟨rfl, hb⟩; obtain ⟨hc, hz⟩ := bcell hb; have hs : w.heap.size + 1 < w'.heap.size := by { have := hb.size; simp at this; omega }))
  have hR : w'.heap[w.heap.size + 1]? = some (.cells #[.string ⟨#[]⟩, .string ⟨#[]⟩, .int .i64 0, .int .i64 0] 80 (0, 0)) := by
    rw [hb.block (w.heap.size + 1) (by simp)]; exact heap_alloc_new2 w _ _
  have q : ∀ o, w'.cell? ⟨w.heap.size + 1, o, none⟩ = #[Value.string ⟨#[]⟩, .string ⟨#[]⟩, .int .i64 0, .int .i64 0][o]? := fun o => cell_of_row w' (w.heap.size + 1) o _ _ _ hR
  refine bodyPost_ret (v := .tuple #[.agg #[.string ⟨#[]⟩, .string ⟨#[]⟩, .int .i64 0, .int .i64 0], .int .i64 2]) (by simp [results, Try.results35, go_sem, q, hs, World.cell?_alloc_lt]) rfl ⟨rfl, ?_⟩
  have hB : Below w.heap.size w w' := (((Below.refl _ _).alloc (by simp) _).alloc (by simp) _).trans (hb.mono (by simp; omega))
  clear hb q hR hc hz
  repeat (first | assumption | refine Below.alloc ?_ (by simp; try omega) _ | refine below_drewN ?_ _ | refine Below.setCell ?_ (by simp; try omega) _)

/-- the world at the head of the loop's round k -/
def MayAt (B J : Nat) (cI cF : Array Value) (W wr : World) (k : Nat) : Prop :=
  wr.heap[B]? = some (.cells cI 24 (0, 0)) ∧ (∃ r0 r1 r2 r3, wr.heap[B + 1]? = some (.cells #[r0, r1, r2, r3] 80 (0, 0))) ∧ wr.heap[J]? = some (.cells cF 80 (0, 0)) ∧
  wr.heap[J + 1]? = some (.stringIter ⟨#[65, 66, 67, 73]⟩ k) ∧ Below B W wr

theorem MayAt.step {B J : Nat} {cI cF : Array Value} {W wr : World} {k : Nat} (h : MayAt B J cI cF W wr k) (hJ : B + 1 < J) (k' : Nat) :
    MayAt B J cI cF W (wr.iterAt (J + 1) ⟨#[65, 66, 67, 73]⟩ k') k' := by
  obtain ⟨h1, ⟨r0, r1, r2, r3, h2⟩, h3, h4, h5⟩ := h
  refine ⟨?_, ⟨r0, r1, r2, r3, ?_⟩, ?_, Lib.iterAt_heap _ _ _ _ _ h4, Lib.below_iterAt h5 (by omega) _ _⟩
  · rw [Lib.iterAt_other _ _ _ _ _ (by omega)]; exact h1
  · rw [Lib.iterAt_other _ _ _ _ _ (by omega)]; exact h2
  · rw [Lib.iterAt_other _ _ _ _ _ (by omega)]; exact h3
theorem MayAt.drewN {B J : Nat} {cI cF : Array Value} {W wr : World} {k : Nat} (h : MayAt B J cI cF W wr k) (n : Nat) : MayAt B J cI cF W (wr.drewN n) k :=
  ⟨h.1, h.2.1, h.2.2.1, h.2.2.2.1, below_drewN h.2.2.2.2 n⟩
theorem MayAt.drew {B J : Nat} {cI cF : Array Value} {W wr : World} {k : Nat} (h : MayAt B J cI cF W wr k) : MayAt B J cI cF W wr.drew k :=
  ⟨h.1, h.2.1, h.2.2.1, h.2.2.2.1, h.2.2.2.2.drew⟩

theorem field_k (k : Nat) (hk : k < 4) (b : Nat) (w : World) : Calls Try.prog 69 #[.pointer (some ⟨b, 0, none⟩), .int .i32 (Cp.nameAt k)] w fun e w' => e = .returned (.pointer (some ⟨b, k + 1, none⟩)) ∧ w = w' := by
  have : k = 0 ∨ k = 1 ∨ k = 2 ∨ k = 3 := by omega
  rcases this with rfl | rfl | rfl | rfl
  · exact field_A b w
  · exact field_B b w
  · exact field_C b w
  · exact field_I b w

theorem contains_k (k : Nat) (hk : k < 4) (F : ByteArray) (t : Bool) (ht : F.data.toList.contains (Cp.nameAt k).toNat.toUInt8 = t) (w : World) :
    Calls Try.prog 34 #[.string F, .int .i32 (Cp.nameAt k)] w fun e w' => e = .returned (.bool t) ∧ w = w' := by
  have h0 : 0 ≤ Cp.nameAt k ∧ Cp.nameAt k < 128 := by unfold Cp.nameAt; split <;> (try split) <;> (try split) <;> omega
  refine (Try.strings_ContainsRune_ascii F (Cp.nameAt k) w h0.1 h0.2).mono ?_
  rintro e w' ⟨rfl, rfl⟩
  rw [← ht, Lib.contains_iff_indexByte]
  exact ⟨rfl, rfl⟩

theorem next_k (k : Nat) (hk : k < 4) (wr : World) (J : Nat) (hJ : wr.heap[J]? = some (.stringIter ⟨#[65, 66, 67, 73]⟩ k)) :
    (Instr.next (.pointer (some ⟨J, 0, none⟩)) true 0).run Try.prog wr = .ok (.tuple #[.bool true, .int .i64 k, .int .i32 (Cp.nameAt k)]) (wr.iterAt J ⟨#[65, 66, 67, 73]⟩ (k + 1)) := by
  have : k = 0 ∨ k = 1 ∨ k = 2 ∨ k = 3 := by omega
  rcases this with rfl | rfl | rfl | rfl <;> exact Lib.run_next_ascii_at wr J _ _ 0 hJ (by decide) (by decide)

set_option maxHeartbeats 2000000 in
theorem may_some (op a b c i : Int) (nm F : ByteArray) (lo hi er : Int) (w : World)
    (ho : ∀ w, Calls Try.prog 33 #[.int .i64 op] w fun e w' => e = .returned (.tuple #[.agg #[.string nm, .string F, .int .i64 lo, .int .i64 hi], .bool true]) ∧ Below w.heap.size w w')
    (her : (if Cp.okAll F.data.toList lo hi a b c i then 0 else 6) = er) :
    Calls Try.prog 35 #[.agg #[.int .i64 op, .int .i64 a, .int .i64 b, .int .i64 c, .int .i64 i]] w fun e w' => e = .returned (.tuple #[.agg #[.string nm, .string F, .int .i64 lo, .int .i64 hi], .int .i64 er]) ∧ Below w.heap.size w w' := by
  have HO := Lib.hid ho
  clear ho
  have HE := Lib.hid her
  clear her
  go_enter Try.func35, Try.ntmps35
  go_wp2_with (first
    | (go_at_call 33; refine (HO.out _).mono ?_; rintro e w' ⟨rfl, hb⟩; obtain ⟨hc, hz⟩ := bcell hb; have hs : w.heap.size + 1 < w'.heap.size := by { have := hb.size; simp at this; omega }))
  obtain ⟨J, hJ⟩ : ∃ J, J = w'.heap.size := ⟨_, rfl⟩
  rw [← hJ]
  obtain ⟨hB0, hI0, hR0⟩ : Below w.heap.size w w' ∧ w'.heap[w.heap.size]? = some (.cells #[.int .i64 op, .int .i64 a, .int .i64 b, .int .i64 c, .int .i64 i] 24 (0, 0)) ∧
      w'.heap[w.heap.size + 1]? = some (.cells #[.string ⟨#[]⟩, .string ⟨#[]⟩, .int .i64 0, .int .i64 0] 80 (0, 0)) := by
    refine ⟨?_, ?_, ?_⟩
    · exact (((Below.refl _ _).alloc (by simp) _).alloc (by simp) _).trans (hb.mono (by simp; omega))
    · rw [hb.block w.heap.size (by simp; omega)]; exact (Below.heap_alloc _ _ _ (by simp)).trans (heap_alloc_new w _)
    · rw [hb.block (w.heap.size + 1) (by simp)]; exact heap_alloc_new2 w _ _
  have hs' : w.heap.size + 1 < J := by rw [hJ]; exact hs
  have hM0 : MayAt w.heap.size J #[.int .i64 op, .int .i64 a, .int .i64 b, .int .i64 c, .int .i64 i] #[.string nm, .string F, .int .i64 lo, .int .i64 hi] w
      ((w'.alloc (Obj.cells #[Value.string nm, Value.string F, Value.int IntKind.i64 lo, Value.int IntKind.i64 hi] 80)).iter { data := #[65, 66, 67, 73] } 0) 0 := by
    subst hJ
    refine ⟨?_, ⟨.string ⟨#[]⟩, .string ⟨#[]⟩, .int .i64 0, .int .i64 0, ?_⟩, ?_, ?_, ?_⟩
    · rw [World.iter, Below.heap_alloc _ _ _ (by simp; omega), Below.heap_alloc _ _ _ (by omega)]; exact hI0
    · rw [World.iter, Below.heap_alloc _ _ _ (by simp; omega), Below.heap_alloc _ _ _ (by omega)]; exact hR0
    · rw [World.iter, Below.heap_alloc _ _ _ (by simp)]; exact heap_alloc_new _ _
    · rw [World.iter]; exact heap_alloc_new2 w' _ _
    · exact (hB0.alloc (by omega) _).alloc (by simp; omega) _
  clear hb hc hz hB0 hI0 hR0 hs
  have HJ := Lib.hid hJ
  clear hJ
  go_loopg [] 4 (fun gk wr => ∃ k, k ≤ 4 ∧ gk = 4 - k ∧ MayAt w.heap.size J #[.int .i64 op, .int .i64 a, .int .i64 b, .int .i64 c, .int .i64 i] #[.string nm, .string F, .int .i64 lo, .int .i64 hi] w wr k ∧ Cp.okTo F.data.toList lo hi a b c i k)
  case atStart => exact ⟨0, by omega, rfl, hM0, Cp.okTo_zero _ _ _ _ _ _ _⟩
  case round =>
    clear hM0
    obtain ⟨k, hk, hg, hM, hok⟩ := hrel
    by_cases h4 : k = 4
    · subst h4
      have hn := Lib.run_next_end_at (P := Try.prog) wr (J + 1) _ _ 0 hM.2.2.2.1 (by decide)
      have HE' := HE.out
      rw [Cp.okTo_four hok] at HE'
      obtain rfl : (0 : Int) = er := HE'
      clear HE
      obtain ⟨hI, ⟨r0, r1, r2, r3, hR⟩, hF, _, hBel⟩ := hM
      have f0 : wr.cell? ⟨J, 0, none⟩ = some (.string nm) := cell_of_row wr J 0 _ _ _ hF
      have f1 : wr.cell? ⟨J, 1, none⟩ = some (.string F) := cell_of_row wr J 1 _ _ _ hF
      have f2 : wr.cell? ⟨J, 2, none⟩ = some (.int .i64 lo) := cell_of_row wr J 2 _ _ _ hF
      have f3 : wr.cell? ⟨J, 3, none⟩ = some (.int .i64 hi) := cell_of_row wr J 3 _ _ _ hF
      have q0 : wr.cell? ⟨w.heap.size + 1, 0, none⟩ = some r0 := cell_of_row wr (w.heap.size + 1) 0 _ _ _ hR
      have q1 : wr.cell? ⟨w.heap.size + 1, 1, none⟩ = some r1 := cell_of_row wr (w.heap.size + 1) 1 _ _ _ hR
      have q2 : wr.cell? ⟨w.heap.size + 1, 2, none⟩ = some r2 := cell_of_row wr (w.heap.size + 1) 2 _ _ _ hR
      have q3 : wr.cell? ⟨w.heap.size + 1, 3, none⟩ = some r3 := cell_of_row wr (w.heap.size + 1) 3 _ _ _ hR
      have z0 : ∀ o, wr.frozen? ⟨w.heap.size + 1, o, none⟩ = false := fun o => by simp [World.frozen?, hR]
      clear hI hR hF hok hg hk
      go_wp2_with fail
      refine bodyPost_ret (v := .tuple #[.agg #[.string nm, .string F, .int .i64 lo, .int .i64 hi], .int .i64 0]) (by simp [results, Try.results35, go_sem, q0, q1, q2, q3]) rfl ⟨rfl, ?_⟩
      clear f0 f1 f2 f3 q0 q1 q2 q3 z0 hn
      repeat (first | assumption | refine Below.alloc ?_ (by simp; try omega) _ | refine below_drewN ?_ _ | refine Below.setCell ?_ (by simp; try omega) _)
    · have hk4 : k < 4 := by omega
      have hn := next_k k hk4 wr (J + 1) hM.2.2.2.1
      have hM2 := hM.step hs' (k + 1)
      obtain ⟨wr2, hwr2⟩ : ∃ wr2, wr2 = wr.iterAt (J + 1) ⟨#[65, 66, 67, 73]⟩ (k + 1) := ⟨_, rfl⟩
      rw [← hwr2] at hn hM2
      clear hwr2 hM
      have HF := Lib.hid (field_k k hk4 w.heap.size)
      have HM := Lib.hid hM2
      obtain ⟨hI, ⟨r0, r1, r2, r3, hR⟩, hF, _, hBel⟩ := hM2
      have i1 : wr2.cell? ⟨w.heap.size, k + 1, none⟩ = some (.int .i64 (Cp.fieldAt a b c i k)) := by
        rw [cell_of_row wr2 w.heap.size (k + 1) _ _ _ hI]
        have : k = 0 ∨ k = 1 ∨ k = 2 ∨ k = 3 := by omega
        rcases this with rfl | rfl | rfl | rfl <;> rfl
      have f0 : wr2.cell? ⟨J, 0, none⟩ = some (.string nm) := cell_of_row wr2 J 0 _ _ _ hF
      have f1 : wr2.cell? ⟨J, 1, none⟩ = some (.string F) := cell_of_row wr2 J 1 _ _ _ hF
      have f2 : wr2.cell? ⟨J, 2, none⟩ = some (.int .i64 lo) := cell_of_row wr2 J 2 _ _ _ hF
      have f3 : wr2.cell? ⟨J, 3, none⟩ = some (.int .i64 hi) := cell_of_row wr2 J 3 _ _ _ hF
      have q0 : wr2.cell? ⟨w.heap.size + 1, 0, none⟩ = some r0 := cell_of_row wr2 (w.heap.size + 1) 0 _ _ _ hR
      have q1 : wr2.cell? ⟨w.heap.size + 1, 1, none⟩ = some r1 := cell_of_row wr2 (w.heap.size + 1) 1 _ _ _ hR
      have q2 : wr2.cell? ⟨w.heap.size + 1, 2, none⟩ = some r2 := cell_of_row wr2 (w.heap.size + 1) 2 _ _ _ hR
      have q3 : wr2.cell? ⟨w.heap.size + 1, 3, none⟩ = some r3 := cell_of_row wr2 (w.heap.size + 1) 3 _ _ _ hR
      have z0 : ∀ o, wr2.frozen? ⟨w.heap.size + 1, o, none⟩ = false := fun o => by simp [World.frozen?, hR]
      have HK := Lib.hid hok
      have HG := Lib.hid hg
      have H0 := Lib.hid hk4
      -- what the verdict on this field says of the whole
      have hgood : Cp.okV F.data.toList lo hi (Cp.nameAt k) (Cp.fieldAt a b c i k) = true → Cp.okTo F.data.toList lo hi a b c i (k + 1) := fun h => Cp.okTo_succ hok h
      have hbad : Cp.okV F.data.toList lo hi (Cp.nameAt k) (Cp.fieldAt a b c i k) = false → er = 6 := fun h => by
        have := HE.out; rw [Cp.okAll_false hk4 h] at this; exact this.symm
      have HGood := Lib.hid hgood
      have HBad := Lib.hid hbad
      clear hI hR hF hok hg hk h4 hgood hbad hk4
      obtain ⟨n, hnn⟩ : ∃ n, n = Cp.fieldAt a b c i k := ⟨_, rfl⟩
      rw [← hnn] at i1 HGood HBad
      clear hnn
      obtain ⟨t, ht⟩ : ∃ t, F.data.toList.contains (Cp.nameAt k).toNat.toUInt8 = t := ⟨_, rfl⟩
      have HC := Lib.hid (contains_k k H0.out F t ht)
      have HT := Lib.hid ht
      clear ht
      cases t
      · -- the field is not among the form's
        by_cases h1 : n < 0
        · have hE : Cp.okV F.data.toList lo hi (Cp.nameAt k) n = false := by
            unfold Cp.okV; rw [HT.out]; simp; omega
          obtain rfl := HBad.out hE
          clear hE HBad
          go_wp2_with (first
            | (go_at_call 69; refine (HF.out _).mono ?_; rintro e w' ⟨rfl, rfl⟩)
            | (go_at_call 34; refine (HC.out _).mono ?_; rintro e w' ⟨rfl, rfl⟩))
          refine bodyPost_ret (v := .tuple #[.agg #[.string nm, .string F, .int .i64 lo, .int .i64 hi], .int .i64 6]) (by simp [results, Try.results35, go_sem, q0, q1, q2, q3]) rfl ⟨rfl, ?_⟩
          clear f0 f1 f2 f3 q0 q1 q2 q3 z0 hn i1
          repeat (first | assumption | refine Below.alloc ?_ (by simp; try omega) _ | refine below_drewN ?_ _ | refine Below.setCell ?_ (by simp; try omega) _)
        · by_cases h2 : n > 0
          · have hE : Cp.okV F.data.toList lo hi (Cp.nameAt k) n = false := by
              unfold Cp.okV; rw [HT.out]; simp; omega
            obtain rfl := HBad.out hE
            clear hE HBad
            go_wp2_with (first
              | (go_at_call 69; refine (HF.out _).mono ?_; rintro e w' ⟨rfl, rfl⟩)
              | (go_at_call 34; refine (HC.out _).mono ?_; rintro e w' ⟨rfl, rfl⟩))
            refine bodyPost_ret (v := .tuple #[.agg #[.string nm, .string F, .int .i64 lo, .int .i64 hi], .int .i64 6]) (by simp [results, Try.results35, go_sem, q0, q1, q2, q3]) rfl ⟨rfl, ?_⟩
            clear f0 f1 f2 f3 q0 q1 q2 q3 z0 hn i1
            repeat (first | assumption | refine Below.alloc ?_ (by simp; try omega) _ | refine below_drewN ?_ _ | refine Below.setCell ?_ (by simp; try omega) _)
          · have HG2 := Lib.hid (HGood.out (by unfold Cp.okV; rw [HT.out]; simp; omega))
            go_wp2_with (first
              | (go_at_call 69; refine (HF.out _).mono ?_; rintro e w' ⟨rfl, rfl⟩)
              | (go_at_call 34; refine (HC.out _).mono ?_; rintro e w' ⟨rfl, rfl⟩))
            go_roundg (4 - (k + 1))
            case measure => have := HG.out; have := H0.out; omega
            case rel => exact ⟨k + 1, H0.out, rfl, HM.out, HG2.out⟩
      · by_cases hx : Cp.nameAt k = 73
        · have hx' : (Cp.nameAt k == 73) = true := by simp [hx]
          have HX := Lib.hid hx
          clear hx
          by_cases h1 : n < lo
          · have hE : Cp.okV F.data.toList lo hi (Cp.nameAt k) n = false := by
              unfold Cp.okV; rw [HT.out]; rw [HX.out]; simp; omega
            obtain rfl := HBad.out hE
            clear hE HBad
            go_wp2_with (first
              | (go_at_call 69; refine (HF.out _).mono ?_; rintro e w' ⟨rfl, rfl⟩)
              | (go_at_call 34; refine (HC.out _).mono ?_; rintro e w' ⟨rfl, rfl⟩))
            go_quiet (fail)
            go_wp2_with fail
            refine bodyPost_ret (v := .tuple #[.agg #[.string nm, .string F, .int .i64 lo, .int .i64 hi], .int .i64 6]) (by simp [results, Try.results35, go_sem, q0, q1, q2, q3]) rfl ⟨rfl, ?_⟩
            clear f0 f1 f2 f3 q0 q1 q2 q3 z0 hn i1
            repeat (first | assumption | refine Below.alloc ?_ (by simp; try omega) _ | refine below_drewN ?_ _ | refine Below.setCell ?_ (by simp; try omega) _)
          · by_cases h2 : n > hi
            · have hE : Cp.okV F.data.toList lo hi (Cp.nameAt k) n = false := by
                unfold Cp.okV; rw [HT.out]; rw [HX.out]; simp; omega
              obtain rfl := HBad.out hE
              clear hE HBad
              go_wp2_with (first
                | (go_at_call 69; refine (HF.out _).mono ?_; rintro e w' ⟨rfl, rfl⟩)
                | (go_at_call 34; refine (HC.out _).mono ?_; rintro e w' ⟨rfl, rfl⟩))
              go_quiet (fail)
              go_wp2_with fail
              refine bodyPost_ret (v := .tuple #[.agg #[.string nm, .string F, .int .i64 lo, .int .i64 hi], .int .i64 6]) (by simp [results, Try.results35, go_sem, q0, q1, q2, q3]) rfl ⟨rfl, ?_⟩
              clear f0 f1 f2 f3 q0 q1 q2 q3 z0 hn i1
              repeat (first | assumption | refine Below.alloc ?_ (by simp; try omega) _ | refine below_drewN ?_ _ | refine Below.setCell ?_ (by simp; try omega) _)
            · have HG2 := Lib.hid (HGood.out (by unfold Cp.okV; rw [HT.out]; rw [HX.out]; simp; omega))
              go_wp2_with (first
                | (go_at_call 69; refine (HF.out _).mono ?_; rintro e w' ⟨rfl, rfl⟩)
                | (go_at_call 34; refine (HC.out _).mono ?_; rintro e w' ⟨rfl, rfl⟩))
              go_quiet (fail)
              go_wp2_with fail
              go_roundg (4 - (k + 1))
              case measure => have := HG.out; have := H0.out; omega
              case rel => exact ⟨k + 1, H0.out, rfl, by first | exact HM.out.drewN _ | exact HM.out, HG2.out⟩
        · have hx' : (Cp.nameAt k == 73) = false := by simp [hx]
          have HX := Lib.hid hx
          clear hx
          by_cases h1 : n < 0
          · have hE : Cp.okV F.data.toList lo hi (Cp.nameAt k) n = false := by
              unfold Cp.okV; rw [HT.out]; simp only [if_neg HX.out, if_true]; simp; omega
            obtain rfl := HBad.out hE
            clear hE HBad
            go_wp2_with (first
              | (go_at_call 69; refine (HF.out _).mono ?_; rintro e w' ⟨rfl, rfl⟩)
              | (go_at_call 34; refine (HC.out _).mono ?_; rintro e w' ⟨rfl, rfl⟩))
            refine bodyPost_ret (v := .tuple #[.agg #[.string nm, .string F, .int .i64 lo, .int .i64 hi], .int .i64 6]) (by simp [results, Try.results35, go_sem, q0, q1, q2, q3]) rfl ⟨rfl, ?_⟩
            clear f0 f1 f2 f3 q0 q1 q2 q3 z0 hn i1
            repeat (first | assumption | refine Below.alloc ?_ (by simp; try omega) _ | refine below_drewN ?_ _ | refine Below.setCell ?_ (by simp; try omega) _)
          · by_cases h2 : n > 15
            · have hE : Cp.okV F.data.toList lo hi (Cp.nameAt k) n = false := by
                unfold Cp.okV; rw [HT.out]; simp only [if_neg HX.out, if_true]; simp; omega
              obtain rfl := HBad.out hE
              clear hE HBad
              go_wp2_with (first
                | (go_at_call 69; refine (HF.out _).mono ?_; rintro e w' ⟨rfl, rfl⟩)
                | (go_at_call 34; refine (HC.out _).mono ?_; rintro e w' ⟨rfl, rfl⟩))
              refine bodyPost_ret (v := .tuple #[.agg #[.string nm, .string F, .int .i64 lo, .int .i64 hi], .int .i64 6]) (by simp [results, Try.results35, go_sem, q0, q1, q2, q3]) rfl ⟨rfl, ?_⟩
              clear f0 f1 f2 f3 q0 q1 q2 q3 z0 hn i1
              repeat (first | assumption | refine Below.alloc ?_ (by simp; try omega) _ | refine below_drewN ?_ _ | refine Below.setCell ?_ (by simp; try omega) _)
            · have HG2 := Lib.hid (HGood.out (by unfold Cp.okV; rw [HT.out]; simp only [if_neg HX.out, if_true]; simp; omega))
              go_wp2_with (first
                | (go_at_call 69; refine (HF.out _).mono ?_; rintro e w' ⟨rfl, rfl⟩)
                | (go_at_call 34; refine (HC.out _).mono ?_; rintro e w' ⟨rfl, rfl⟩))
              go_roundg (4 - (k + 1))
              case measure => have := HG.out; have := H0.out; omega
              case rel => exact ⟨k + 1, H0.out, rfl, HM.out, HG2.out⟩

theorem may_any (op a b c i : Int) (w : World) (h1 : -9223372036854775808 ≤ op) (h2 : op ≤ 9223372036854775807) :
    Calls Try.prog 35 #[.agg #[.int .i64 op, .int .i64 a, .int .i64 b, .int .i64 c, .int .i64 i]] w fun e w' => e = .returned (.tuple #[Cp.formV op, .int .i64 (Cp.mayE op a b c i)]) ∧ Below w.heap.size w w' := by
  rcases hf : Cp.find op with _ | ⟨n, f, s⟩
  · exact may_none op a b c i w h1 h2 hf
  · have hv : Cp.formV op = .agg #[.string ⟨n.toArray⟩, .string ⟨f.toArray⟩, .int .i64 (Cp.loOf s), .int .i64 (Cp.hiOf s)] := by unfold Cp.formV; rw [hf]; rfl
    have hm : Cp.mayE op a b c i = if Cp.okAll f (Cp.loOf s) (Cp.hiOf s) a b c i then 0 else 6 := by unfold Cp.mayE; rw [hf]
    rw [hv]
    refine may_some op a b c i ⟨n.toArray⟩ ⟨f.toArray⟩ (Cp.loOf s) (Cp.hiOf s) _ w (fun w => ?_) (by rw [hm])
    have := of_any op w h1 h2
    rw [hv, hf] at this
    exact this
end Go.Proofs.Ythnehhidlaggeaa
