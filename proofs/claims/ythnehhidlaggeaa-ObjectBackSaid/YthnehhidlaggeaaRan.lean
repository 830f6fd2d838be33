/- machine.ran, Run and Shown: what they do. -/
import Derived.Test.YthnehhidlaggeaaBegun
import Derived.Test.YthnehhidlaggeaaRuns
import Derived.Test.YthnehhidlaggeaaMCheck
namespace Go.Proofs.Ythnehhidlaggeaa
set_option linter.unusedVariables false
set_option linter.unusedSimpArgs false
open Go.RowKit Mc

theorem mcheck_yes (pc pd : Option Addr) (n kn d kd : Nat) (mem : Int) (w : World) (h : mayImage n d mem) :
    Calls Try.prog 18 #[.agg #[.slice pc n kn, .slice pd d kd, .int .i64 mem]] w fun e w' => e = .returned (.int .i64 0) ∧ w.alloc (.cells #[.slice pc n kn, .slice pd d kd, .int .i64 mem] 34) = w' := by
  refine (mcheck_any pc pd n kn d kd mem w).mono ?_
  rintro e w' ⟨k, rfl, ⟨_, rfl⟩ | ⟨h', _⟩, rfl⟩
  · exact ⟨rfl, rfl⟩
  · exact absurd h h'
theorem mcheck_no (pc pd : Option Addr) (n kn d kd : Nat) (mem : Int) (w : World) (h : ¬ mayImage n d mem) :
    Calls Try.prog 18 #[.agg #[.slice pc n kn, .slice pd d kd, .int .i64 mem]] w fun e w' => e = .returned (.int .i64 1) ∧ w.alloc (.cells #[.slice pc n kn, .slice pd d kd, .int .i64 mem] 34) = w' := by
  refine (mcheck_any pc pd n kn d kd mem w).mono ?_
  rintro e w' ⟨k, rfl, ⟨h', _⟩ | ⟨_, rfl⟩, rfl⟩
  · exact absurd h' h
  · exact ⟨rfl, rfl⟩

set_option maxRecDepth 100000 in
set_option maxHeartbeats 1000000 in
theorem ran_no (pc pd : Option Addr) (n kn d kd : Nat) (mem fuel : Int) (w : World) (h : ¬ mayImage n d mem) :
    Calls Try.prog 39 #[.agg #[.slice pc n kn, .slice pd d kd, .int .i64 mem], .int .i64 fuel] w fun e w' => e = .returned (.tuple #[.pointer none, .int .i64 1]) ∧ Below w.heap.size w w' := by
  have HC : Hid (∀ w', Calls Try.prog 18 #[.agg #[.slice pc n kn, .slice pd d kd, .int .i64 mem]] w' fun e w'' => e = .returned (.int .i64 1) ∧ w'.alloc (.cells #[.slice pc n kn, .slice pd d kd, .int .i64 mem] 34) = w'') := fun w' => mcheck_no pc pd n kn d kd mem w' h
  clear h
  go_enter Try.func39, Try.ntmps39
  go_wp2_with fail
  refine (HC.out _).mono ?_
  rintro e w2 ⟨rfl, rfl⟩
  go_wp2_with fail
  go_ret2
  exact ⟨rfl, ((Below.refl _ _).alloc (Nat.le_refl _) _).alloc (by simp) _⟩

set_option maxRecDepth 100000 in
set_option maxHeartbeats 1000000 in
theorem ran_range (pc pd : Option Addr) (n kn d kd : Nat) (mem fuel : Int) (w : World) (h : mayImage n d mem) (hf : fuel < 0 ∨ 300000 < fuel) :
    Calls Try.prog 39 #[.agg #[.slice pc n kn, .slice pd d kd, .int .i64 mem], .int .i64 fuel] w fun e w' => e = .returned (.tuple #[.pointer none, .int .i64 6]) ∧ Below w.heap.size w w' := by
  have HC : Hid (∀ w', Calls Try.prog 18 #[.agg #[.slice pc n kn, .slice pd d kd, .int .i64 mem]] w' fun e w'' => e = .returned (.int .i64 0) ∧ w'.alloc (.cells #[.slice pc n kn, .slice pd d kd, .int .i64 mem] 34) = w'') := fun w' => mcheck_yes pc pd n kn d kd mem w' h
  clear h
  rcases hf with hf | hf
  · go_enter Try.func39, Try.ntmps39
    go_wp2_with fail
    refine (HC.out _).mono ?_
    rintro e w2 ⟨rfl, rfl⟩
    go_wp2_with fail
    go_ret2
    exact ⟨rfl, ((Below.refl _ _).alloc (Nat.le_refl _) _).alloc (by simp) _⟩
  · have hf2 : ¬ fuel < 0 := by omega
    go_enter Try.func39, Try.ntmps39
    go_wp2_with fail
    refine (HC.out _).mono ?_
    rintro e w2 ⟨rfl, rfl⟩
    go_wp2_with fail
    go_ret2
    exact ⟨rfl, ((Below.refl _ _).alloc (Nat.le_refl _) _).alloc (by simp) _⟩

/-- a slice's words are the kind's -/
def In32 (l : List Int) : Prop := ∀ j : Nat, -2147483648 ≤ l.getD j 0 ∧ l.getD j 0 ≤ 2147483647
theorem in32_mem {l : List Int} (h : In32 l) (v : Int) (hv : v ∈ l) : -2147483648 ≤ v ∧ v ≤ 2147483647 := by
  obtain ⟨j, hj, rfl⟩ := List.getElem_of_mem hv
  have := h j
  rwa [List.getD_eq_getElem?_getD, List.getElem?_eq_getElem hj] at this
theorem in32_of {l : List Int} (h : ∀ v ∈ l, -2147483648 ≤ v ∧ v ≤ 2147483647) : In32 l := by
  intro j
  rw [List.getD_eq_getElem?_getD]
  by_cases hj : j < l.length
  · rw [List.getElem?_eq_getElem hj]
    exact h _ (List.getElem_mem hj)
  · rw [List.getElem?_eq_none (by omega)]
    simp
theorem mBegin_ok (cl dl : List Int) (M : Nat) (hM : M ≤ 16000) (hd : In32 dl) (hl : cl.length + dl.length ≤ M) : Ok (mBegin cl dl M) := by
  refine ⟨rfl, ?_, ?_, ?_⟩
  · intro r
    refine (in32_of (l := (List.replicate 16 0).set 13 (M : Int)) ?_) r.toNat
    intro v hv
    rcases List.mem_or_eq_of_mem_set hv with h | rfl
    · have := List.eq_of_mem_replicate h
      omega
    · omega
  · intro a
    refine (in32_of (l := cl.map wrap32 ++ (dl ++ List.replicate (M - cl.length - dl.length) 0)) ?_) a.toNat
    intro v hv
    rcases List.mem_append.1 hv with h | h
    · obtain ⟨y, _, rfl⟩ := List.mem_map.1 h
      exact Wd.wrap32_bd y
    · rcases List.mem_append.1 h with h | h
      · exact in32_mem hd v h
      · have := List.eq_of_mem_replicate h
        omega
  · simp [mBegin]
    omega
theorem SliceAt.below {w w' : World} {k : IntKind} {p : Option Addr} {l : List Int} (h : SliceAt w k p l) (hb : Below w.heap.size w w') : SliceAt w' k p l := by
  rcases h with h | ⟨c, co, rfl, hc, hcells⟩
  · exact .inl h
  · exact .inr ⟨c, co, rfl, Nat.lt_of_lt_of_le hc hb.size, fun j hj => (hb.cell (p := ⟨c, co + j, none⟩) hc).trans (hcells j hj)⟩

/-- a machine behind a run, in blocks that are new -/
def RanAt (w w' : World) (x : Nat) (n d fuel : Nat) (cl dl : List Int) (M : Nat) : Prop :=
  ∃ B g ov, w.heap.size ≤ B ∧ Below w.heap.size w w' ∧ MachAt w' B x g n (n + d) (endOf (run n (n + d) fuel (mBegin cl dl M))) ov (run n (n + d) fuel (mBegin cl dl M))

set_option maxRecDepth 100000 in
set_option maxHeartbeats 1000000 in
theorem ran_ok (pc pd : Option Addr) (cl dl : List Int) (n kn d kd M fuel : Nat) (w : World) (hn : cl.length = n) (hd : dl.length = d) (hc : SliceAt w .u32 pc cl) (hdd : SliceAt w .i32 pd dl) (hi : In32 dl) (h : mayImage n d M) (hf : fuel ≤ 300000) :
    Calls Try.prog 39 #[.agg #[.slice pc n kn, .slice pd d kd, .int .i64 M], .int .i64 fuel] w fun e w' => ∃ x, e = .returned (.tuple #[.pointer (some ⟨x, 0, none⟩), .int .i64 0]) ∧ RanAt w w' x n d fuel cl dl M := by
  have hm := h
  unfold mayImage at hm
  have HC : Hid (∀ w', Calls Try.prog 18 #[.agg #[.slice pc n kn, .slice pd d kd, .int .i64 M]] w' fun e w'' => e = .returned (.int .i64 0) ∧ w'.alloc (.cells #[.slice pc n kn, .slice pd d kd, .int .i64 M] 34) = w'') := fun w' => mcheck_yes pc pd n kn d kd M w' h
  have HB : Hid (∀ w', Below w.heap.size w w' → Calls Try.prog 72 #[.agg #[.slice pc n kn, .slice pd d kd, .int .i64 M]] w' fun e w'' =>
      e = .returned (.pointer (some ⟨w'.heap.size + 1 + 1, 0, none⟩)) ∧ Below w'.heap.size w' w'' ∧ MachAt w'' w'.heap.size (w'.heap.size + 1 + 1) (w'.heap.size + 1) n (n + d) 0 (.slice none 0 0) (mBegin cl dl M)) :=
    fun w' hb => begun_any pc pd cl dl n kn d kd M w' hn hd (hc.below hb) (hdd.below hb) (by omega) (by omega) (by omega) (by omega)
  have HOK : Hid (Ok (mBegin cl dl M)) := mBegin_ok cl dl M (by omega) hi (by omega)
  have HL : Hid ((n : Int) ≤ (mBegin cl dl M).words.length) := by
    show (n : Int) ≤ _
    simp [mBegin]
    omega
  have hf0 : ¬ (fuel : Int) < 0 := by omega
  have hf1 : ¬ 300000 < (fuel : Int) := by omega
  clear hn hd hc hdd hi h
  obtain ⟨m, hmm⟩ : ∃ m, m = mBegin cl dl M := ⟨_, rfl⟩
  have HF : Hid (m.fin < 0 ∧ m.steps = 0 ∧ m.out.length = 0) := by rw [hmm]; exact ⟨by show (-1 : Int) < 0; omega, rfl, rfl⟩
  unfold RanAt
  rw [← hmm] at HB HOK HL ⊢
  clear hmm
  go_enter Try.func39, Try.ntmps39
  go_wp2_with fail
  refine (HC.out _).mono ?_
  rintro e w2 ⟨rfl, rfl⟩
  go_wp2_with fail
  obtain ⟨w1, hw1⟩ : ∃ w1, w1 = (w.alloc (.cells #[.slice pc n kn, .slice pd d kd, .int .i64 M] 34)).alloc (.cells #[.slice pc n kn, .slice pd d kd, .int .i64 M] 34) := ⟨_, rfl⟩
  have hb1 : Below w.heap.size w w1 := by rw [hw1]; exact ((Below.refl _ _).alloc (Nat.le_refl _) _).alloc (by simp) _
  rw [← hw1]
  clear hw1
  have HB1 := Lib.hid hb1
  clear hb1
  refine (HB.out w1 HB1.out).mono ?_
  rintro e w2 ⟨rfl, hb2, hm2⟩
  have hK : AtW w1 w1.heap.size (· < w1.heap.size) (w1.heap.size + 1 + 1) (w1.heap.size + 1) n (n + d) 0 m w2 :=
    ⟨_, hm2, ⟨hb2.os, hb2.tape, hb2.output, hb2.size, fun k hk => hb2.block k hk, ⟨by simp; omega, by simp⟩, fun k hk => by simp [Value.ownBlock] at hk, fun k hk => hk⟩⟩
  have HK := Lib.hid hK
  clear hK hm2 hb2
  go_wp2_with fail
  refine (runs_any HK.out HOK.out (by omega) (by omega) HL.out HF.out.1 fuel (by omega) HF.out.2.1 HF.out.2.2).mono ?_
  rintro e w3 ⟨rfl, hat⟩
  go_wp2_with fail
  go_ret2
  obtain ⟨ov, h1, h2⟩ := hat
  refine ⟨_, rfl, w1.heap.size, _, ov, HB1.out.size, ?_, h1⟩
  exact HB1.out.trans ⟨h2.os, h2.tape, h2.output, h2.size, fun k hk => h2.block k (Nat.lt_of_lt_of_le hk HB1.out.size)⟩

end Go.Proofs.Ythnehhidlaggeaa
