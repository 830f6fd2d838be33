/- machine.does: the walks, an instruction each: load, store, out, the operations. -/
import Derived.Test.YthnehhidlaggeaaMat
import Derived.Test.YthnehhidlaggeaaWord
namespace Go.Proofs.Ythnehhidlaggeaa
set_option linter.unusedVariables false
set_option linter.unusedSimpArgs false
open Go.RowKit Mc

theorem at_m_ok {W w : World} {B : Nat} {Fr : Nat → Prop} {x g : Nat} {n low : Int} {m : Mach} (h : AtW W B Fr x g n low 0 m w) (ok : Ok m) (op a c i from_ : Int) (b : Nat) (hb : b < 16) (i1 : -32768 ≤ i) (i2 : i ≤ 65535) (h1 : from_ ≤ reg m b + i) (h2 : reg m b + i < m.words.length) :
    Calls Try.prog 110 #[.pointer (some ⟨x, 0, none⟩), .agg #[.int .i64 op, .int .i64 a, .int .i64 b, .int .i64 c, .int .i64 i], .int .i64 from_] w fun e w' =>
      e = .returned (.int .i64 (reg m b + i)) ∧ (w.alloc (.cells #[.int .i64 op, .int .i64 a, .int .i64 b, .int .i64 c, .int .i64 i] 24)).drew = w' := by
  obtain ⟨ov, hM, hB⟩ := h
  exact at_ok x g b op a c i (reg m b) from_ m.words.length m.words.length w hb (hM.reg b hb) hM.tail.2.2.2.2.2.2.2 (ok.reg_in b).1 (ok.reg_in b).2 i1 i2 h1 h2
theorem at_m_wrong {W w : World} {B : Nat} {Fr : Nat → Prop} {x g : Nat} {n low : Int} {m : Mach} (h : AtW W B Fr x g n low 0 m w) (ok : Ok m) (op a c i from_ : Int) (b : Nat) (hb : b < 16) (i1 : -32768 ≤ i) (i2 : i ≤ 65535) (h1 : reg m b + i < from_ ∨ m.words.length ≤ reg m b + i) :
    Calls Try.prog 110 #[.pointer (some ⟨x, 0, none⟩), .agg #[.int .i64 op, .int .i64 a, .int .i64 b, .int .i64 c, .int .i64 i], .int .i64 from_] w fun e w' =>
      e = .panicked [{ v := .iface 177 (.agg #[.int .i64 4]), recovered := false }] ∧ (w.alloc (.cells #[.int .i64 op, .int .i64 a, .int .i64 b, .int .i64 c, .int .i64 i] 24)).drew = w' := by
  obtain ⟨ov, hM, hB⟩ := h
  exact at_wrong x g b op a c i (reg m b) from_ m.words.length m.words.length w hb (hM.reg b hb) hM.tail.2.2.2.2.2.2.2 (ok.reg_in b).1 (ok.reg_in b).2 i1 i2 h1

set_option maxRecDepth 100000 in
set_option maxHeartbeats 1000000 in
/-- load: no such address -/
theorem does_load_wrong {W w : World} {B : Nat} {Fr : Nat → Prop} {x g : Nat} {n low : Int} {m : Mach} (h : AtW W B Fr x g n low 0 m w) (ok : Ok m) (a b c : Nat) (i : Int) (ha : a < 16) (hb : b < 16) (hc : c < 16) (i1 : -32768 ≤ i) (i2 : i ≤ 65535) (p0 : 0 ≤ m.pc) (p1 : m.pc < 6000) (hw : reg m b + i < 0 ∨ m.words.length ≤ reg m b + i) :
    Calls Try.prog 97 #[.pointer (some ⟨x, 0, none⟩), .agg #[.int .i64 17, .int .i64 a, .int .i64 b, .int .i64 c, .int .i64 i]] w fun e w' => e = thrown 4 ∧ AtW W B Fr x g n low 0 m w' := by
  have hbi : (b : Int) < 16 := by omega
  have hai : (a : Int) < 16 := by omega
  have hci : (c : Int) < 16 := by omega
  obtain ⟨ov, hM, hBel⟩ := h
  have hlt := hM.lt.1
  have hpc := hM.tail.1
  have cra := hM.reg a ha
  have crb := hM.reg b hb
  have crc := hM.reg c hc
  have ra := ok.reg_in a
  have rb := ok.reg_in b
  have rc := ok.reg_in c
  have H : Hid (AtW W B Fr x g n low 0 m w) := ⟨ov, hM, hBel⟩
  have HM := Lib.hid hM
  have HOK := Lib.hid ok
  have c22 := hM.tail.2.2.2.2.2.2.1
  have c21 := hM.tail.2.2.2.2.2.1
  have c23 := hM.tail.2.2.2.2.2.2.2
  have HA : Hid (∀ w', AtW W B Fr x g n low 0 m w' → Calls Try.prog 110 #[.pointer (some ⟨x, 0, none⟩), .agg #[.int .i64 17, .int .i64 a, .int .i64 b, .int .i64 c, .int .i64 i], .int .i64 0] w' fun e w'' =>
      e = .panicked [{ v := .iface 177 (.agg #[.int .i64 4]), recovered := false }] ∧ (w'.alloc (.cells #[.int .i64 17, .int .i64 a, .int .i64 b, .int .i64 c, .int .i64 i] 24)).drew = w'') := fun w' h' => at_m_wrong h' ok _ _ _ _ _ b hb i1 i2 hw
  clear hw
  clear hM hBel ok
  go_enter Try.func97, Try.ntmps97
  go_wp2_with fail
  refine wp_region_held_drew (S := fun w' => w'.cell? ⟨w.heap.size, 0, none⟩ = some (.int .i64 17) ∧ w'.cell? ⟨w.heap.size, 1, none⟩ = some (.int .i64 a) ∧ w'.cell? ⟨w.heap.size, 2, none⟩ = some (.int .i64 b) ∧ w'.cell? ⟨w.heap.size, 3, none⟩ = some (.int .i64 c) ∧ w'.cell? ⟨w.heap.size, 4, none⟩ = some (.int .i64 i) ∧ w'.cell? ⟨x, 23, none⟩ = some (.slice (some ⟨g, 0, none⟩) m.words.length m.words.length)) mixed ?hS0 (fun hHeld => ?_)
  case hS0 => (try dsimp only); simp [*, go_sem]
  refine' wpAnyH_take (i := 0) (v := ?v1) rfl (by kernel_rfl) (by kernel_rfl) (by kernel_rfl) (fun _ _ _ h => h) (Or.inl ⟨by rfl, ?hy1⟩) (by assumption) ?rest1
  case hy1 => (intro w hSw; (try dsimp only at hSw); go_simp; try with_reducible rfl)
  try simp only [Act.put, List.setIfInBounds_toArray, List.set_cons_zero, List.set_cons_succ]
  refine' wpAnyH_take (i := 1) (v := ?v2) rfl (by kernel_rfl) (by kernel_rfl) (by kernel_rfl) (fun _ _ _ h => h) (Or.inl ⟨by rfl, ?hy2⟩) (by assumption) ?rest2
  case hy2 => (intro w hSw; (try dsimp only at hSw); go_simp; try with_reducible rfl)
  try simp only [Act.put, List.setIfInBounds_toArray, List.set_cons_zero, List.set_cons_succ]
  refine' wpAnyH_take (i := 2) (v := ?v3) rfl (by kernel_rfl) (by kernel_rfl) (by kernel_rfl) (fun _ _ _ h => h) (Or.inl ⟨by rfl, ?hy3⟩) (by assumption) ?rest3
  case hy3 => (intro w hSw; (try dsimp only at hSw); go_simp; try with_reducible rfl)
  try simp only [Act.put, List.setIfInBounds_toArray, List.set_cons_zero, List.set_cons_succ]
  refine' wpAnyH_take (i := 3) (v := ?v4) rfl (by kernel_rfl) (by kernel_rfl) (by kernel_rfl) (fun _ _ _ h => h) (Or.inl ⟨by rfl, ?hy4⟩) (by assumption) ?rest4
  case hy4 => (intro w hSw; (try dsimp only at hSw); go_simp; try with_reducible rfl)
  try simp only [Act.put, List.setIfInBounds_toArray, List.set_cons_zero, List.set_cons_succ]
  refine' wpAnyH_take (i := 4) (v := ?v5) rfl (by kernel_rfl) (by kernel_rfl) (by kernel_rfl) (fun _ _ _ h => h) (Or.inl ⟨by rfl, ?hy5⟩) (by assumption) ?rest5
  case hy5 => (intro w hSw; (try dsimp only at hSw); go_simp; try with_reducible rfl)
  try simp only [Act.put, List.setIfInBounds_toArray, List.set_cons_zero, List.set_cons_succ]
  refine' wpAnyH_take (i := 5) (v := ?v6) rfl (by kernel_rfl) (by kernel_rfl) (by kernel_rfl) (fun _ _ _ h => h) (Or.inl ⟨by rfl, ?hy6⟩) (by assumption) ?rest6
  case hy6 => (intro w hSw; (try dsimp only at hSw); go_simp; try with_reducible rfl)
  try simp only [Act.put, List.setIfInBounds_toArray, List.set_cons_zero, List.set_cons_succ]
  refine' wpAnyH_take (i := 6) (v := ?v7) rfl (by kernel_rfl) (by kernel_rfl) (by kernel_rfl) (fun _ _ _ h => h) (Or.inl ⟨by rfl, ?hy7⟩) (by assumption) ?rest7
  case hy7 => (intro w hSw; (try dsimp only at hSw); go_simp; try with_reducible rfl)
  try simp only [Act.put, List.setIfInBounds_toArray, List.set_cons_zero, List.set_cons_succ]
  refine' wpAnyH_take (i := 7) (v := ?v8) rfl (by kernel_rfl) (by kernel_rfl) (by kernel_rfl) (fun _ _ _ h => h) (Or.inl ⟨by rfl, ?hy8⟩) (by assumption) ?rest8
  case hy8 => (intro w hSw; (try dsimp only at hSw); go_simp; try with_reducible rfl)
  try simp only [Act.put, List.setIfInBounds_toArray, List.set_cons_zero, List.set_cons_succ]
  refine' wpAnyH_take (i := 8) (v := ?v9) rfl (by kernel_rfl) (by kernel_rfl) (by kernel_rfl) (fun _ _ _ h => h) (Or.inl ⟨by rfl, ?hy9⟩) (by assumption) ?rest9
  case hy9 => (intro w hSw; (try dsimp only at hSw); go_simp; try with_reducible rfl)
  try simp only [Act.put, List.setIfInBounds_toArray, List.set_cons_zero, List.set_cons_succ]
  refine wpAnyH_ready (rs := [9]) (by kernel_rfl) (by simp) ?_
  refine AllReadyH.cons rfl (fun K10 hK10 => ?_) AllReadyH.nil
  go_simp
  refine (HA.out _ ((H.out.alloc _).drew)).mono ?_
  rintro e w2 ⟨rfl, rfl⟩
  go_wp2_with fail
  exact ⟨rfl, rfl, ((((H.out.alloc _).drew).alloc _).drew)⟩

set_option maxRecDepth 100000 in
set_option maxHeartbeats 1000000 in
/-- load ok -/
theorem does_load_ok {W w : World} {B : Nat} {Fr : Nat → Prop} {x g : Nat} {n low : Int} {m : Mach} (h : AtW W B Fr x g n low 0 m w) (ok : Ok m) (a b c : Nat) (i : Int) (ha : a < 16) (hb : b < 16) (hc : c < 16) (i1 : -32768 ≤ i) (i2 : i ≤ 65535) (p0 : 0 ≤ m.pc) (p1 : m.pc < 6000) (hw1 : 0 ≤ reg m b + i) (hw2 : reg m b + i < m.words.length) (hf : (put low m a (word m (reg m b + i))).fin < 0) :
    Calls Try.prog 97 #[.pointer (some ⟨x, 0, none⟩), .agg #[.int .i64 17, .int .i64 a, .int .i64 b, .int .i64 c, .int .i64 i]] w fun e w' => e = .returned (.int .i64 (m.pc + 1)) ∧ AtW W B Fr x g n low 0 (put low m a (word m (reg m b + i))) w' := by
  have hbi : (b : Int) < 16 := by omega
  have hai : (a : Int) < 16 := by omega
  have hci : (c : Int) < 16 := by omega
  obtain ⟨ov, hM, hBel⟩ := h
  have hlt := hM.lt.1
  have hpc := hM.tail.1
  have cra := hM.reg a ha
  have crb := hM.reg b hb
  have crc := hM.reg c hc
  have ra := ok.reg_in a
  have rb := ok.reg_in b
  have rc := ok.reg_in c
  have H : Hid (AtW W B Fr x g n low 0 m w) := ⟨ov, hM, hBel⟩
  have HM := Lib.hid hM
  have HOK := Lib.hid ok
  have c22 := hM.tail.2.2.2.2.2.2.1
  have c21 := hM.tail.2.2.2.2.2.1
  have c23 := hM.tail.2.2.2.2.2.2.2
  obtain ⟨q, hq⟩ : ∃ q : Nat, (q : Int) = reg m b + i := ⟨(reg m b + i).toNat, by omega⟩
  have hql : q < m.words.length := by omega
  have cw := hM.word q hql
  have gq : w.heap.size ≠ g := by have := hM.lt; omega
  have gl := hM.lt.2
  have ebw : (reg m b + i).toNat = q := by omega
  have vb := ok.word_in (reg m b + i)
  have HA : Hid (∀ w', AtW W B Fr x g n low 0 m w' → Calls Try.prog 110 #[.pointer (some ⟨x, 0, none⟩), .agg #[.int .i64 17, .int .i64 a, .int .i64 b, .int .i64 c, .int .i64 i], .int .i64 0] w' fun e w'' =>
      e = .returned (.int .i64 (reg m b + i)) ∧ (w'.alloc (.cells #[.int .i64 17, .int .i64 a, .int .i64 b, .int .i64 c, .int .i64 i] 24)).drew = w'') := fun w' h' => at_m_ok h' ok _ _ _ _ _ b hb i1 i2 hw1 hw2
  have HG : Hid (∀ w', AtW W B Fr x g n low 0 m w' → Calls Try.prog 109 #[.pointer (some ⟨x, 0, none⟩), .int .i64 a, .int .i32 (word m (reg m b + i))] w' fun e w'' => e = .returned (.tuple #[]) ∧ AtW W B Fr x g n low 0 (put low m a (word m (reg m b + i))) w'' ∧ w'.grownBy w'' (some x)) :=
    fun w' hw => give_ok hw a (word m (reg m b + i)) (by omega) vb.1 vb.2 hf
  clear hf vb
  have elen : (put low m a (word m (reg m b + i))).words = m.words := rfl
  obtain ⟨E, hE⟩ : ∃ E, E = put low m a (word m (reg m b + i)) := ⟨_, rfl⟩
  rw [← hE] at HG elen ⊢
  clear hE
  rw [show word m (reg m b + i) = word m (q : Int) by rw [hq]] at HG
  have HL := Lib.hid elen
  clear elen ebw
  rw [← hq] at HA hw1 hw2
  clear hq
  clear hM hBel ok
  go_enter Try.func97, Try.ntmps97
  go_wp2_with fail
  refine wp_region_held_drew (S := fun w' => w'.cell? ⟨w.heap.size, 0, none⟩ = some (.int .i64 17) ∧ w'.cell? ⟨w.heap.size, 1, none⟩ = some (.int .i64 a) ∧ w'.cell? ⟨w.heap.size, 2, none⟩ = some (.int .i64 b) ∧ w'.cell? ⟨w.heap.size, 3, none⟩ = some (.int .i64 c) ∧ w'.cell? ⟨w.heap.size, 4, none⟩ = some (.int .i64 i) ∧ w'.cell? ⟨x, 23, none⟩ = some (.slice (some ⟨g, 0, none⟩) m.words.length m.words.length) ∧ w'.cell? ⟨g, q, none⟩ = some (.int .i32 (word m q))) mixed ?hS0 (fun hHeld => ?_)
  case hS0 => (try dsimp only); simp [*, go_sem]
  refine' wpAnyH_take (i := 0) (v := ?v11) rfl (by kernel_rfl) (by kernel_rfl) (by kernel_rfl) (fun _ _ _ h => h) (Or.inl ⟨by rfl, ?hy11⟩) (by assumption) ?rest11
  case hy11 => (intro w hSw; (try dsimp only at hSw); go_simp; try with_reducible rfl)
  try simp only [Act.put, List.setIfInBounds_toArray, List.set_cons_zero, List.set_cons_succ]
  refine' wpAnyH_take (i := 1) (v := ?v12) rfl (by kernel_rfl) (by kernel_rfl) (by kernel_rfl) (fun _ _ _ h => h) (Or.inl ⟨by rfl, ?hy12⟩) (by assumption) ?rest12
  case hy12 => (intro w hSw; (try dsimp only at hSw); go_simp; try with_reducible rfl)
  try simp only [Act.put, List.setIfInBounds_toArray, List.set_cons_zero, List.set_cons_succ]
  refine' wpAnyH_take (i := 2) (v := ?v13) rfl (by kernel_rfl) (by kernel_rfl) (by kernel_rfl) (fun _ _ _ h => h) (Or.inl ⟨by rfl, ?hy13⟩) (by assumption) ?rest13
  case hy13 => (intro w hSw; (try dsimp only at hSw); go_simp; try with_reducible rfl)
  try simp only [Act.put, List.setIfInBounds_toArray, List.set_cons_zero, List.set_cons_succ]
  refine' wpAnyH_take (i := 3) (v := ?v14) rfl (by kernel_rfl) (by kernel_rfl) (by kernel_rfl) (fun _ _ _ h => h) (Or.inl ⟨by rfl, ?hy14⟩) (by assumption) ?rest14
  case hy14 => (intro w hSw; (try dsimp only at hSw); go_simp; try with_reducible rfl)
  try simp only [Act.put, List.setIfInBounds_toArray, List.set_cons_zero, List.set_cons_succ]
  refine' wpAnyH_take (i := 4) (v := ?v15) rfl (by kernel_rfl) (by kernel_rfl) (by kernel_rfl) (fun _ _ _ h => h) (Or.inl ⟨by rfl, ?hy15⟩) (by assumption) ?rest15
  case hy15 => (intro w hSw; (try dsimp only at hSw); go_simp; try with_reducible rfl)
  try simp only [Act.put, List.setIfInBounds_toArray, List.set_cons_zero, List.set_cons_succ]
  refine' wpAnyH_take (i := 5) (v := ?v16) rfl (by kernel_rfl) (by kernel_rfl) (by kernel_rfl) (fun _ _ _ h => h) (Or.inl ⟨by rfl, ?hy16⟩) (by assumption) ?rest16
  case hy16 => (intro w hSw; (try dsimp only at hSw); go_simp; try with_reducible rfl)
  try simp only [Act.put, List.setIfInBounds_toArray, List.set_cons_zero, List.set_cons_succ]
  refine' wpAnyH_take (i := 6) (v := ?v17) rfl (by kernel_rfl) (by kernel_rfl) (by kernel_rfl) (fun _ _ _ h => h) (Or.inl ⟨by rfl, ?hy17⟩) (by assumption) ?rest17
  case hy17 => (intro w hSw; (try dsimp only at hSw); go_simp; try with_reducible rfl)
  try simp only [Act.put, List.setIfInBounds_toArray, List.set_cons_zero, List.set_cons_succ]
  refine' wpAnyH_take (i := 7) (v := ?v18) rfl (by kernel_rfl) (by kernel_rfl) (by kernel_rfl) (fun _ _ _ h => h) (Or.inl ⟨by rfl, ?hy18⟩) (by assumption) ?rest18
  case hy18 => (intro w hSw; (try dsimp only at hSw); go_simp; try with_reducible rfl)
  try simp only [Act.put, List.setIfInBounds_toArray, List.set_cons_zero, List.set_cons_succ]
  refine' wpAnyH_take (i := 8) (v := ?v19) rfl (by kernel_rfl) (by kernel_rfl) (by kernel_rfl) (fun _ _ _ h => h) (Or.inl ⟨by rfl, ?hy19⟩) (by assumption) ?rest19
  case hy19 => (intro w hSw; (try dsimp only at hSw); go_simp; try with_reducible rfl)
  try simp only [Act.put, List.setIfInBounds_toArray, List.set_cons_zero, List.set_cons_succ]
  refine wpAnyH_ready (rs := [9]) (by kernel_rfl) (by simp) ?_
  refine AllReadyH.cons rfl (fun K20 hK20 => ?_) AllReadyH.nil
  go_simp
  refine (HA.out _ ((H.out.alloc _).drew)).mono ?_
  rintro e w2 ⟨rfl, rfl⟩
  go_wp2_with fail
  refine hK20.out _ _ ?hS20 (fun hHeld20 => ?_)
  case hS20 => (try dsimp only); simp [*, go_sem]
  clear hK20 K20
  refine' wpAnyH_take (i := 10) (v := ?v21) rfl (by kernel_rfl) (by kernel_rfl) (by kernel_rfl) (fun _ _ _ h => h) (Or.inl ⟨by rfl, ?hy21⟩) (by assumption) ?rest21
  case hy21 => (intro w hSw; (try dsimp only at hSw); go_simp; try with_reducible rfl)
  try simp only [Act.put, List.setIfInBounds_toArray, List.set_cons_zero, List.set_cons_succ]
  refine' wpAnyH_take (i := 11) (v := ?v22) rfl (by kernel_rfl) (by kernel_rfl) (by kernel_rfl) (fun _ _ _ h => h) (Or.inl ⟨by rfl, ?hy22⟩) (by assumption) ?rest22
  case hy22 => (intro w hSw; (try dsimp only at hSw); go_simp; try with_reducible rfl)
  try simp only [Act.put, List.setIfInBounds_toArray, List.set_cons_zero, List.set_cons_succ]
  refine wpAnyH_ready (rs := [12]) (by kernel_rfl) (by simp) ?_
  refine AllReadyH.cons rfl (fun K23 hK23 => ?_) AllReadyH.nil
  go_simp
  refine (HG.out _ ((((H.out.alloc _).drew).alloc _).drew)).mono ?_
  rintro e w3 ⟨rfl, hat, hgr⟩
  go_wp2_with fail
  refine hK23.out _ _ ?hS23 (fun hHeld23 => ?_)
  case hS23 => 
    obtain ⟨ov3, h3, _⟩ := hat
    have hI : w3.heap[w.heap.size]? = some (.cells #[.int .i64 17, .int .i64 a, .int .i64 b, .int .i64 c, .int .i64 i] 24 (0, 0)) := by
      rw [hgr.block w.heap.size (by simp; omega) (by simp; omega)]
      first | exact (Below.heap_alloc _ _ _ (by simp)).trans (heap_alloc_new w _) | (simp [World.drew]; exact (Below.heap_alloc _ _ _ (by simp)).trans (heap_alloc_new w _))
    obtain ⟨j0, j1, j2, j3, j4, jz⟩ := blk5 hI
    have c23' := h3.tail.2.2.2.2.2.2.2
    have hw' := h3.word q (by rw [HL.out]; exact hql)
    rw [HL.out] at c23'
    simp only [word, HL.out] at hw'
    exact ⟨j0, j1, j2, j3, j4, c23', hw'⟩
  clear hK23 K23
  refine wpAnyH_done (by kernel_rfl) ?_ _
  go_wp2_with fail
  go_ret
  exact ⟨rfl, hat⟩

set_option maxRecDepth 100000 in
set_option maxHeartbeats 1000000 in
/-- load end -/
theorem does_load_end {W w : World} {B : Nat} {Fr : Nat → Prop} {x g : Nat} {n low : Int} {m : Mach} (h : AtW W B Fr x g n low 0 m w) (ok : Ok m) (a b c : Nat) (i : Int) (ha : a < 16) (hb : b < 16) (hc : c < 16) (i1 : -32768 ≤ i) (i2 : i ≤ 65535) (p0 : 0 ≤ m.pc) (p1 : m.pc < 6000) (hw1 : 0 ≤ reg m b + i) (hw2 : reg m b + i < m.words.length) (hf : 0 ≤ (put low m a (word m (reg m b + i))).fin) :
    Calls Try.prog 97 #[.pointer (some ⟨x, 0, none⟩), .agg #[.int .i64 17, .int .i64 a, .int .i64 b, .int .i64 c, .int .i64 i]] w fun e w' => e = thrown (put low m a (word m (reg m b + i))).fin ∧ AtW W B Fr x g n low 0 (put low m a (word m (reg m b + i))) w' := by
  have hbi : (b : Int) < 16 := by omega
  have hai : (a : Int) < 16 := by omega
  have hci : (c : Int) < 16 := by omega
  obtain ⟨ov, hM, hBel⟩ := h
  have hlt := hM.lt.1
  have hpc := hM.tail.1
  have cra := hM.reg a ha
  have crb := hM.reg b hb
  have crc := hM.reg c hc
  have ra := ok.reg_in a
  have rb := ok.reg_in b
  have rc := ok.reg_in c
  have H : Hid (AtW W B Fr x g n low 0 m w) := ⟨ov, hM, hBel⟩
  have HM := Lib.hid hM
  have HOK := Lib.hid ok
  have c22 := hM.tail.2.2.2.2.2.2.1
  have c21 := hM.tail.2.2.2.2.2.1
  have c23 := hM.tail.2.2.2.2.2.2.2
  obtain ⟨q, hq⟩ : ∃ q : Nat, (q : Int) = reg m b + i := ⟨(reg m b + i).toNat, by omega⟩
  have hql : q < m.words.length := by omega
  have cw := hM.word q hql
  have gq : w.heap.size ≠ g := by have := hM.lt; omega
  have gl := hM.lt.2
  have ebw : (reg m b + i).toNat = q := by omega
  have vb := ok.word_in (reg m b + i)
  have HA : Hid (∀ w', AtW W B Fr x g n low 0 m w' → Calls Try.prog 110 #[.pointer (some ⟨x, 0, none⟩), .agg #[.int .i64 17, .int .i64 a, .int .i64 b, .int .i64 c, .int .i64 i], .int .i64 0] w' fun e w'' =>
      e = .returned (.int .i64 (reg m b + i)) ∧ (w'.alloc (.cells #[.int .i64 17, .int .i64 a, .int .i64 b, .int .i64 c, .int .i64 i] 24)).drew = w'') := fun w' h' => at_m_ok h' ok _ _ _ _ _ b hb i1 i2 hw1 hw2
  have HG : Hid (∀ w', AtW W B Fr x g n low 0 m w' → Calls Try.prog 109 #[.pointer (some ⟨x, 0, none⟩), .int .i64 a, .int .i32 (word m (reg m b + i))] w' fun e w'' => e = .panicked [{ v := .iface 177 (.agg #[.int .i64 (put low m a (word m (reg m b + i))).fin]), recovered := false }] ∧ AtW W B Fr x g n low 0 (put low m a (word m (reg m b + i))) w'') :=
    fun w' hw => give_ends hw a (word m (reg m b + i)) (by omega) vb.1 vb.2 hf
  clear hf vb
  have elen : (put low m a (word m (reg m b + i))).words = m.words := rfl
  obtain ⟨E, hE⟩ : ∃ E, E = put low m a (word m (reg m b + i)) := ⟨_, rfl⟩
  rw [← hE] at HG elen ⊢
  clear hE
  rw [show word m (reg m b + i) = word m (q : Int) by rw [hq]] at HG
  have HL := Lib.hid elen
  clear elen ebw
  rw [← hq] at HA hw1 hw2
  clear hq
  clear hM hBel ok
  go_enter Try.func97, Try.ntmps97
  go_wp2_with fail
  refine wp_region_held_drew (S := fun w' => w'.cell? ⟨w.heap.size, 0, none⟩ = some (.int .i64 17) ∧ w'.cell? ⟨w.heap.size, 1, none⟩ = some (.int .i64 a) ∧ w'.cell? ⟨w.heap.size, 2, none⟩ = some (.int .i64 b) ∧ w'.cell? ⟨w.heap.size, 3, none⟩ = some (.int .i64 c) ∧ w'.cell? ⟨w.heap.size, 4, none⟩ = some (.int .i64 i) ∧ w'.cell? ⟨x, 23, none⟩ = some (.slice (some ⟨g, 0, none⟩) m.words.length m.words.length) ∧ w'.cell? ⟨g, q, none⟩ = some (.int .i32 (word m q))) mixed ?hS0 (fun hHeld => ?_)
  case hS0 => (try dsimp only); simp [*, go_sem]
  refine' wpAnyH_take (i := 0) (v := ?v24) rfl (by kernel_rfl) (by kernel_rfl) (by kernel_rfl) (fun _ _ _ h => h) (Or.inl ⟨by rfl, ?hy24⟩) (by assumption) ?rest24
  case hy24 => (intro w hSw; (try dsimp only at hSw); go_simp; try with_reducible rfl)
  try simp only [Act.put, List.setIfInBounds_toArray, List.set_cons_zero, List.set_cons_succ]
  refine' wpAnyH_take (i := 1) (v := ?v25) rfl (by kernel_rfl) (by kernel_rfl) (by kernel_rfl) (fun _ _ _ h => h) (Or.inl ⟨by rfl, ?hy25⟩) (by assumption) ?rest25
  case hy25 => (intro w hSw; (try dsimp only at hSw); go_simp; try with_reducible rfl)
  try simp only [Act.put, List.setIfInBounds_toArray, List.set_cons_zero, List.set_cons_succ]
  refine' wpAnyH_take (i := 2) (v := ?v26) rfl (by kernel_rfl) (by kernel_rfl) (by kernel_rfl) (fun _ _ _ h => h) (Or.inl ⟨by rfl, ?hy26⟩) (by assumption) ?rest26
  case hy26 => (intro w hSw; (try dsimp only at hSw); go_simp; try with_reducible rfl)
  try simp only [Act.put, List.setIfInBounds_toArray, List.set_cons_zero, List.set_cons_succ]
  refine' wpAnyH_take (i := 3) (v := ?v27) rfl (by kernel_rfl) (by kernel_rfl) (by kernel_rfl) (fun _ _ _ h => h) (Or.inl ⟨by rfl, ?hy27⟩) (by assumption) ?rest27
  case hy27 => (intro w hSw; (try dsimp only at hSw); go_simp; try with_reducible rfl)
  try simp only [Act.put, List.setIfInBounds_toArray, List.set_cons_zero, List.set_cons_succ]
  refine' wpAnyH_take (i := 4) (v := ?v28) rfl (by kernel_rfl) (by kernel_rfl) (by kernel_rfl) (fun _ _ _ h => h) (Or.inl ⟨by rfl, ?hy28⟩) (by assumption) ?rest28
  case hy28 => (intro w hSw; (try dsimp only at hSw); go_simp; try with_reducible rfl)
  try simp only [Act.put, List.setIfInBounds_toArray, List.set_cons_zero, List.set_cons_succ]
  refine' wpAnyH_take (i := 5) (v := ?v29) rfl (by kernel_rfl) (by kernel_rfl) (by kernel_rfl) (fun _ _ _ h => h) (Or.inl ⟨by rfl, ?hy29⟩) (by assumption) ?rest29
  case hy29 => (intro w hSw; (try dsimp only at hSw); go_simp; try with_reducible rfl)
  try simp only [Act.put, List.setIfInBounds_toArray, List.set_cons_zero, List.set_cons_succ]
  refine' wpAnyH_take (i := 6) (v := ?v30) rfl (by kernel_rfl) (by kernel_rfl) (by kernel_rfl) (fun _ _ _ h => h) (Or.inl ⟨by rfl, ?hy30⟩) (by assumption) ?rest30
  case hy30 => (intro w hSw; (try dsimp only at hSw); go_simp; try with_reducible rfl)
  try simp only [Act.put, List.setIfInBounds_toArray, List.set_cons_zero, List.set_cons_succ]
  refine' wpAnyH_take (i := 7) (v := ?v31) rfl (by kernel_rfl) (by kernel_rfl) (by kernel_rfl) (fun _ _ _ h => h) (Or.inl ⟨by rfl, ?hy31⟩) (by assumption) ?rest31
  case hy31 => (intro w hSw; (try dsimp only at hSw); go_simp; try with_reducible rfl)
  try simp only [Act.put, List.setIfInBounds_toArray, List.set_cons_zero, List.set_cons_succ]
  refine' wpAnyH_take (i := 8) (v := ?v32) rfl (by kernel_rfl) (by kernel_rfl) (by kernel_rfl) (fun _ _ _ h => h) (Or.inl ⟨by rfl, ?hy32⟩) (by assumption) ?rest32
  case hy32 => (intro w hSw; (try dsimp only at hSw); go_simp; try with_reducible rfl)
  try simp only [Act.put, List.setIfInBounds_toArray, List.set_cons_zero, List.set_cons_succ]
  refine wpAnyH_ready (rs := [9]) (by kernel_rfl) (by simp) ?_
  refine AllReadyH.cons rfl (fun K33 hK33 => ?_) AllReadyH.nil
  go_simp
  refine (HA.out _ ((H.out.alloc _).drew)).mono ?_
  rintro e w2 ⟨rfl, rfl⟩
  go_wp2_with fail
  refine hK33.out _ _ ?hS33 (fun hHeld33 => ?_)
  case hS33 => (try dsimp only); simp [*, go_sem]
  clear hK33 K33
  refine' wpAnyH_take (i := 10) (v := ?v34) rfl (by kernel_rfl) (by kernel_rfl) (by kernel_rfl) (fun _ _ _ h => h) (Or.inl ⟨by rfl, ?hy34⟩) (by assumption) ?rest34
  case hy34 => (intro w hSw; (try dsimp only at hSw); go_simp; try with_reducible rfl)
  try simp only [Act.put, List.setIfInBounds_toArray, List.set_cons_zero, List.set_cons_succ]
  refine' wpAnyH_take (i := 11) (v := ?v35) rfl (by kernel_rfl) (by kernel_rfl) (by kernel_rfl) (fun _ _ _ h => h) (Or.inl ⟨by rfl, ?hy35⟩) (by assumption) ?rest35
  case hy35 => (intro w hSw; (try dsimp only at hSw); go_simp; try with_reducible rfl)
  try simp only [Act.put, List.setIfInBounds_toArray, List.set_cons_zero, List.set_cons_succ]
  refine wpAnyH_ready (rs := [12]) (by kernel_rfl) (by simp) ?_
  refine AllReadyH.cons rfl (fun K36 hK36 => ?_) AllReadyH.nil
  go_simp
  refine (HG.out _ ((((H.out.alloc _).drew).alloc _).drew)).mono ?_
  rintro e w3 ⟨rfl, hat⟩
  go_wp2_with fail
  exact ⟨rfl, rfl, hat⟩

end Go.Proofs.Ythnehhidlaggeaa
