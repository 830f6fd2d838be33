/- machine.does: the walks, an instruction each: store, out, the operations. -/
import Derived.Test.YthnehhidlaggeaaDoes3
namespace Go.Proofs.Ythnehhidlaggeaa
set_option linter.unusedVariables false
set_option linter.unusedSimpArgs false
open Go.RowKit Mc

theorem i32_info : (Try.prog.info? 21).map (fun i => (i.zero, i.size, i.bytes)) = some (some (.int .i32 0), 1, 4) := by kernel_rfl

set_option maxRecDepth 100000 in
set_option maxHeartbeats 1000000 in
/-- store: no such address -/
theorem does_store_wrong {W w : World} {B : Nat} {Fr : Nat → Prop} {x g : Nat} {n low : Int} {m : Mach} (h : AtW W B Fr x g n low 0 m w) (ok : Ok m) (a b c : Nat) (i : Int) (ha : a < 16) (hb : b < 16) (hc : c < 16) (i1 : -32768 ≤ i) (i2 : i ≤ 65535) (p0 : 0 ≤ m.pc) (p1 : m.pc < 6000) (hw : reg m b + i < n ∨ m.words.length ≤ reg m b + i) :
    Calls Try.prog 97 #[.pointer (some ⟨x, 0, none⟩), .agg #[.int .i64 18, .int .i64 a, .int .i64 b, .int .i64 c, .int .i64 i]] w fun e w' => e = thrown 4 ∧ AtW W B Fr x g n low 0 m w' := by
  have hbi : (b : Int) < 16 := by omega
  have hai : (a : Int) < 16 := by omega
  have hci : (c : Int) < 16 := by omega
  obtain ⟨ov, hM, hBel⟩ := h
  have hlt := hM.lt.1
  have hpc := hM.tail.1
  have cra := hM.reg a ha
  have crb := hM.reg b hb
  have crc := hM.reg c hc
  have ra := ok.reg_in a
  have rb := ok.reg_in b
  have rc := ok.reg_in c
  have H : Hid (AtW W B Fr x g n low 0 m w) := ⟨ov, hM, hBel⟩
  have HM := Lib.hid hM
  have HOK := Lib.hid ok
  have c22 := hM.tail.2.2.2.2.2.2.1
  have c21 := hM.tail.2.2.2.2.2.1
  have c23 := hM.tail.2.2.2.2.2.2.2
  have HA : Hid (∀ w', AtW W B Fr x g n low 0 m w' → Calls Try.prog 110 #[.pointer (some ⟨x, 0, none⟩), .agg #[.int .i64 18, .int .i64 a, .int .i64 b, .int .i64 c, .int .i64 i], .int .i64 n] w' fun e w'' =>
      e = .panicked [{ v := .iface 177 (.agg #[.int .i64 4]), recovered := false }] ∧ (w'.alloc (.cells #[.int .i64 18, .int .i64 a, .int .i64 b, .int .i64 c, .int .i64 i] 24)).drew = w'') := fun w' h' => at_m_wrong h' ok _ _ _ _ _ b hb i1 i2 hw
  clear hw
  clear hM hBel ok
  go_enter Try.func97, Try.ntmps97
  go_wp2_with fail
  refine wp_region_held_drew (S := fun w' => w'.cell? ⟨w.heap.size, 0, none⟩ = some (.int .i64 18) ∧ w'.cell? ⟨w.heap.size, 1, none⟩ = some (.int .i64 a) ∧ w'.cell? ⟨w.heap.size, 2, none⟩ = some (.int .i64 b) ∧ w'.cell? ⟨w.heap.size, 3, none⟩ = some (.int .i64 c) ∧ w'.cell? ⟨w.heap.size, 4, none⟩ = some (.int .i64 i) ∧ w'.cell? ⟨x, 23, none⟩ = some (.slice (some ⟨g, 0, none⟩) m.words.length m.words.length) ∧ w'.cell? ⟨x, 21, none⟩ = some (.int .i64 n) ∧ w'.cell? ⟨x, a, none⟩ = some (.int .i32 (reg m a))) mixed ?hS0 (fun hHeld => ?_)
  case hS0 => (try dsimp only); simp [*, go_sem]
  refine' wpAnyH_take (i := 0) (v := ?v37) rfl (by kernel_rfl) (by kernel_rfl) (by kernel_rfl) (fun _ _ _ h => h) (Or.inl ⟨by rfl, ?hy37⟩) (by assumption) ?rest37
  case hy37 => (intro w hSw; (try dsimp only at hSw); go_simp; try with_reducible rfl)
  try simp only [Act.put, List.setIfInBounds_toArray, List.set_cons_zero, List.set_cons_succ]
  refine' wpAnyH_take (i := 1) (v := ?v38) rfl (by kernel_rfl) (by kernel_rfl) (by kernel_rfl) (fun _ _ _ h => h) (Or.inl ⟨by rfl, ?hy38⟩) (by assumption) ?rest38
  case hy38 => (intro w hSw; (try dsimp only at hSw); go_simp; try with_reducible rfl)
  try simp only [Act.put, List.setIfInBounds_toArray, List.set_cons_zero, List.set_cons_succ]
  refine' wpAnyH_take (i := 2) (v := ?v39) rfl (by kernel_rfl) (by kernel_rfl) (by kernel_rfl) (fun _ _ _ h => h) (Or.inl ⟨by rfl, ?hy39⟩) (by assumption) ?rest39
  case hy39 => (intro w hSw; (try dsimp only at hSw); go_simp; try with_reducible rfl)
  try simp only [Act.put, List.setIfInBounds_toArray, List.set_cons_zero, List.set_cons_succ]
  refine' wpAnyH_take (i := 3) (v := ?v40) rfl (by kernel_rfl) (by kernel_rfl) (by kernel_rfl) (fun _ _ _ h => h) (Or.inl ⟨by rfl, ?hy40⟩) (by assumption) ?rest40
  case hy40 => (intro w hSw; (try dsimp only at hSw); go_simp; try with_reducible rfl)
  try simp only [Act.put, List.setIfInBounds_toArray, List.set_cons_zero, List.set_cons_succ]
  refine' wpAnyH_take (i := 4) (v := ?v41) rfl (by kernel_rfl) (by kernel_rfl) (by kernel_rfl) (fun _ _ _ h => h) (Or.inl ⟨by rfl, ?hy41⟩) (by assumption) ?rest41
  case hy41 => (intro w hSw; (try dsimp only at hSw); go_simp; try with_reducible rfl)
  try simp only [Act.put, List.setIfInBounds_toArray, List.set_cons_zero, List.set_cons_succ]
  refine' wpAnyH_take (i := 5) (v := ?v42) rfl (by kernel_rfl) (by kernel_rfl) (by kernel_rfl) (fun _ _ _ h => h) (Or.inl ⟨by rfl, ?hy42⟩) (by assumption) ?rest42
  case hy42 => (intro w hSw; (try dsimp only at hSw); go_simp; try with_reducible rfl)
  try simp only [Act.put, List.setIfInBounds_toArray, List.set_cons_zero, List.set_cons_succ]
  refine' wpAnyH_take (i := 6) (v := ?v43) rfl (by kernel_rfl) (by kernel_rfl) (by kernel_rfl) (fun _ _ _ h => h) (Or.inl ⟨by rfl, ?hy43⟩) (by assumption) ?rest43
  case hy43 => (intro w hSw; (try dsimp only at hSw); go_simp; try with_reducible rfl)
  try simp only [Act.put, List.setIfInBounds_toArray, List.set_cons_zero, List.set_cons_succ]
  refine' wpAnyH_take (i := 7) (v := ?v44) rfl (by kernel_rfl) (by kernel_rfl) (by kernel_rfl) (fun _ _ _ h => h) (Or.inl ⟨by rfl, ?hy44⟩) (by assumption) ?rest44
  case hy44 => (intro w hSw; (try dsimp only at hSw); go_simp; try with_reducible rfl)
  try simp only [Act.put, List.setIfInBounds_toArray, List.set_cons_zero, List.set_cons_succ]
  refine' wpAnyH_take (i := 8) (v := ?v45) rfl (by kernel_rfl) (by kernel_rfl) (by kernel_rfl) (fun _ _ _ h => h) (Or.inl ⟨by rfl, ?hy45⟩) (by assumption) ?rest45
  case hy45 => (intro w hSw; (try dsimp only at hSw); go_simp; try with_reducible rfl)
  try simp only [Act.put, List.setIfInBounds_toArray, List.set_cons_zero, List.set_cons_succ]
  refine' wpAnyH_take (i := 9) (v := ?v46) rfl (by kernel_rfl) (by kernel_rfl) (by kernel_rfl) (fun _ _ _ h => h) (Or.inl ⟨by rfl, ?hy46⟩) (by assumption) ?rest46
  case hy46 => (intro w hSw; (try dsimp only at hSw); go_simp; try with_reducible rfl)
  try simp only [Act.put, List.setIfInBounds_toArray, List.set_cons_zero, List.set_cons_succ]
  refine' wpAnyH_take (i := 11) (v := ?v47) rfl (by kernel_rfl) (by kernel_rfl) (by kernel_rfl) (fun _ _ _ h => h) (Or.inl ⟨by rfl, ?hy47⟩) (by assumption) ?rest47
  case hy47 => (intro w hSw; (try dsimp only at hSw); go_simp; try with_reducible rfl)
  try simp only [Act.put, List.setIfInBounds_toArray, List.set_cons_zero, List.set_cons_succ]
  refine' wpAnyH_take (i := 12) (v := ?v48) rfl (by kernel_rfl) (by kernel_rfl) (by kernel_rfl) (fun _ _ _ h => h) (Or.inl ⟨by rfl, ?hy48⟩) (by assumption) ?rest48
  case hy48 => (intro w hSw; (try dsimp only at hSw); go_simp; try with_reducible rfl)
  try simp only [Act.put, List.setIfInBounds_toArray, List.set_cons_zero, List.set_cons_succ]
  refine' wpAnyH_take (i := 13) (v := ?v49) rfl (by kernel_rfl) (by kernel_rfl) (by kernel_rfl) (fun _ _ _ h => h) (Or.inl ⟨by rfl, ?hy49⟩) (by assumption) ?rest49
  case hy49 => (intro w hSw; (try dsimp only at hSw); go_simp; try with_reducible rfl)
  try simp only [Act.put, List.setIfInBounds_toArray, List.set_cons_zero, List.set_cons_succ]
  refine' wpAnyH_take (i := 14) (v := ?v50) rfl (by kernel_rfl) (by kernel_rfl) (by kernel_rfl) (fun _ _ _ h => h) (Or.inl ⟨by rfl, ?hy50⟩) (by assumption) ?rest50
  case hy50 => (intro w hSw; (try dsimp only at hSw); go_simp; try with_reducible rfl)
  try simp only [Act.put, List.setIfInBounds_toArray, List.set_cons_zero, List.set_cons_succ]
  refine' wpAnyH_take (i := 15) (v := ?v51) rfl (by kernel_rfl) (by kernel_rfl) (by kernel_rfl) (fun _ _ _ h => h) (Or.inl ⟨by rfl, ?hy51⟩) (by assumption) ?rest51
  case hy51 => (intro w hSw; (try dsimp only at hSw); go_simp; try with_reducible rfl)
  try simp only [Act.put, List.setIfInBounds_toArray, List.set_cons_zero, List.set_cons_succ]
  refine' wpAnyH_take (i := 16) (v := ?v52) rfl (by kernel_rfl) (by kernel_rfl) (by kernel_rfl) (fun _ _ _ h => h) (Or.inl ⟨by rfl, ?hy52⟩) (by assumption) ?rest52
  case hy52 => (intro w hSw; (try dsimp only at hSw); go_simp; try with_reducible rfl)
  try simp only [Act.put, List.setIfInBounds_toArray, List.set_cons_zero, List.set_cons_succ]
  refine' wpAnyH_take (i := 17) (v := ?v53) rfl (by kernel_rfl) (by kernel_rfl) (by kernel_rfl) (fun _ _ _ h => h) (Or.inl ⟨by rfl, ?hy53⟩) (by assumption) ?rest53
  case hy53 => (intro w hSw; (try dsimp only at hSw); go_simp; try with_reducible rfl)
  try simp only [Act.put, List.setIfInBounds_toArray, List.set_cons_zero, List.set_cons_succ]
  refine' wpAnyH_take (i := 18) (v := ?v54) rfl (by kernel_rfl) (by kernel_rfl) (by kernel_rfl) (fun _ _ _ h => h) (Or.inl ⟨by rfl, ?hy54⟩) (by assumption) ?rest54
  case hy54 => (intro w hSw; (try dsimp only at hSw); go_simp; try with_reducible rfl)
  try simp only [Act.put, List.setIfInBounds_toArray, List.set_cons_zero, List.set_cons_succ]
  refine wpAnyH_ready (rs := [10]) (by kernel_rfl) (by simp) ?_
  refine AllReadyH.cons rfl (fun K55 hK55 => ?_) AllReadyH.nil
  go_simp
  refine (HA.out _ ((H.out.alloc _).drew)).mono ?_
  rintro e w2 ⟨rfl, rfl⟩
  go_wp2_with fail
  exact ⟨rfl, rfl, ((((H.out.alloc _).drew).alloc _).drew)⟩

set_option maxRecDepth 100000 in
set_option maxHeartbeats 1000000 in
/-- store -/
theorem does_store_ok {W w : World} {B : Nat} {Fr : Nat → Prop} {x g : Nat} {n low : Int} {m : Mach} (h : AtW W B Fr x g n low 0 m w) (ok : Ok m) (a b c : Nat) (i : Int) (ha : a < 16) (hb : b < 16) (hc : c < 16) (i1 : -32768 ≤ i) (i2 : i ≤ 65535) (p0 : 0 ≤ m.pc) (p1 : m.pc < 6000) (hn : 0 ≤ n) (hw1 : n ≤ reg m b + i) (hw2 : reg m b + i < m.words.length) :
    Calls Try.prog 97 #[.pointer (some ⟨x, 0, none⟩), .agg #[.int .i64 18, .int .i64 a, .int .i64 b, .int .i64 c, .int .i64 i]] w fun e w' => e = .returned (.int .i64 (m.pc + 1)) ∧ AtW W B Fr x g n low 0 { m with words := m.words.set (reg m b + i).toNat (reg m a) } w' := by
  have hbi : (b : Int) < 16 := by omega
  have hai : (a : Int) < 16 := by omega
  have hci : (c : Int) < 16 := by omega
  obtain ⟨ov, hM, hBel⟩ := h
  have hlt := hM.lt.1
  have hpc := hM.tail.1
  have cra := hM.reg a ha
  have crb := hM.reg b hb
  have crc := hM.reg c hc
  have ra := ok.reg_in a
  have rb := ok.reg_in b
  have rc := ok.reg_in c
  have H : Hid (AtW W B Fr x g n low 0 m w) := ⟨ov, hM, hBel⟩
  have HM := Lib.hid hM
  have HOK := Lib.hid ok
  have c22 := hM.tail.2.2.2.2.2.2.1
  have c21 := hM.tail.2.2.2.2.2.1
  have c23 := hM.tail.2.2.2.2.2.2.2
  obtain ⟨q, hq⟩ : ∃ q : Nat, (q : Int) = reg m b + i := ⟨(reg m b + i).toNat, by omega⟩
  have hql : q < m.words.length := by omega
  have cw := hM.word q hql
  have gq : w.heap.size ≠ g := by have := hM.lt; omega
  have gl := hM.lt.2
  have ebw : (reg m b + i).toNat = q := by omega
  have HA : Hid (∀ w', AtW W B Fr x g n low 0 m w' → Calls Try.prog 110 #[.pointer (some ⟨x, 0, none⟩), .agg #[.int .i64 18, .int .i64 a, .int .i64 b, .int .i64 c, .int .i64 i], .int .i64 n] w' fun e w'' =>
      e = .returned (.int .i64 (reg m b + i)) ∧ (w'.alloc (.cells #[.int .i64 18, .int .i64 a, .int .i64 b, .int .i64 c, .int .i64 i] 24)).drew = w'') := fun w' h' => at_m_ok h' ok _ _ _ _ _ b hb i1 i2 hw1 hw2
  have hxg := hM.ne
  have hgx : g ≠ x := fun e => hxg e.symm
  have gfz := hM.gfree
  have HS : Hid (∀ w', AtW W B Fr x g n low 0 m w' → AtW W B Fr x g n low 0 { m with words := m.words.set q (reg m a) } (w'.setCell ⟨g, q, none⟩ (.int .i32 (reg m a)))) := by
    rintro w' ⟨ov, h1, h2⟩
    exact ⟨ov, h1.setWord q _, h2.set h2.free.2 _ _⟩
  rw [ebw]
  clear ebw
  rw [← hq] at HA hw1 hw2
  clear hq
  clear hM hBel ok
  go_enter Try.func97, Try.ntmps97
  go_wp2_with fail
  refine wp_region_held_drew (S := fun w' => w'.cell? ⟨w.heap.size, 0, none⟩ = some (.int .i64 18) ∧ w'.cell? ⟨w.heap.size, 1, none⟩ = some (.int .i64 a) ∧ w'.cell? ⟨w.heap.size, 2, none⟩ = some (.int .i64 b) ∧ w'.cell? ⟨w.heap.size, 3, none⟩ = some (.int .i64 c) ∧ w'.cell? ⟨w.heap.size, 4, none⟩ = some (.int .i64 i) ∧ w'.cell? ⟨x, 23, none⟩ = some (.slice (some ⟨g, 0, none⟩) m.words.length m.words.length) ∧ w'.cell? ⟨x, 21, none⟩ = some (.int .i64 n) ∧ w'.cell? ⟨x, a, none⟩ = some (.int .i32 (reg m a))) mixed ?hS0 (fun hHeld => ?_)
  case hS0 => (try dsimp only); simp [*, go_sem]
  refine' wpAnyH_take (i := 0) (v := ?v56) rfl (by kernel_rfl) (by kernel_rfl) (by kernel_rfl) (fun _ _ _ h => h) (Or.inl ⟨by rfl, ?hy56⟩) (by assumption) ?rest56
  case hy56 => (intro w hSw; (try dsimp only at hSw); go_simp; try with_reducible rfl)
  try simp only [Act.put, List.setIfInBounds_toArray, List.set_cons_zero, List.set_cons_succ]
  refine' wpAnyH_take (i := 1) (v := ?v57) rfl (by kernel_rfl) (by kernel_rfl) (by kernel_rfl) (fun _ _ _ h => h) (Or.inl ⟨by rfl, ?hy57⟩) (by assumption) ?rest57
  case hy57 => (intro w hSw; (try dsimp only at hSw); go_simp; try with_reducible rfl)
  try simp only [Act.put, List.setIfInBounds_toArray, List.set_cons_zero, List.set_cons_succ]
  refine' wpAnyH_take (i := 2) (v := ?v58) rfl (by kernel_rfl) (by kernel_rfl) (by kernel_rfl) (fun _ _ _ h => h) (Or.inl ⟨by rfl, ?hy58⟩) (by assumption) ?rest58
  case hy58 => (intro w hSw; (try dsimp only at hSw); go_simp; try with_reducible rfl)
  try simp only [Act.put, List.setIfInBounds_toArray, List.set_cons_zero, List.set_cons_succ]
  refine' wpAnyH_take (i := 3) (v := ?v59) rfl (by kernel_rfl) (by kernel_rfl) (by kernel_rfl) (fun _ _ _ h => h) (Or.inl ⟨by rfl, ?hy59⟩) (by assumption) ?rest59
  case hy59 => (intro w hSw; (try dsimp only at hSw); go_simp; try with_reducible rfl)
  try simp only [Act.put, List.setIfInBounds_toArray, List.set_cons_zero, List.set_cons_succ]
  refine' wpAnyH_take (i := 4) (v := ?v60) rfl (by kernel_rfl) (by kernel_rfl) (by kernel_rfl) (fun _ _ _ h => h) (Or.inl ⟨by rfl, ?hy60⟩) (by assumption) ?rest60
  case hy60 => (intro w hSw; (try dsimp only at hSw); go_simp; try with_reducible rfl)
  try simp only [Act.put, List.setIfInBounds_toArray, List.set_cons_zero, List.set_cons_succ]
  refine' wpAnyH_take (i := 5) (v := ?v61) rfl (by kernel_rfl) (by kernel_rfl) (by kernel_rfl) (fun _ _ _ h => h) (Or.inl ⟨by rfl, ?hy61⟩) (by assumption) ?rest61
  case hy61 => (intro w hSw; (try dsimp only at hSw); go_simp; try with_reducible rfl)
  try simp only [Act.put, List.setIfInBounds_toArray, List.set_cons_zero, List.set_cons_succ]
  refine' wpAnyH_take (i := 6) (v := ?v62) rfl (by kernel_rfl) (by kernel_rfl) (by kernel_rfl) (fun _ _ _ h => h) (Or.inl ⟨by rfl, ?hy62⟩) (by assumption) ?rest62
  case hy62 => (intro w hSw; (try dsimp only at hSw); go_simp; try with_reducible rfl)
  try simp only [Act.put, List.setIfInBounds_toArray, List.set_cons_zero, List.set_cons_succ]
  refine' wpAnyH_take (i := 7) (v := ?v63) rfl (by kernel_rfl) (by kernel_rfl) (by kernel_rfl) (fun _ _ _ h => h) (Or.inl ⟨by rfl, ?hy63⟩) (by assumption) ?rest63
  case hy63 => (intro w hSw; (try dsimp only at hSw); go_simp; try with_reducible rfl)
  try simp only [Act.put, List.setIfInBounds_toArray, List.set_cons_zero, List.set_cons_succ]
  refine' wpAnyH_take (i := 8) (v := ?v64) rfl (by kernel_rfl) (by kernel_rfl) (by kernel_rfl) (fun _ _ _ h => h) (Or.inl ⟨by rfl, ?hy64⟩) (by assumption) ?rest64
  case hy64 => (intro w hSw; (try dsimp only at hSw); go_simp; try with_reducible rfl)
  try simp only [Act.put, List.setIfInBounds_toArray, List.set_cons_zero, List.set_cons_succ]
  refine' wpAnyH_take (i := 9) (v := ?v65) rfl (by kernel_rfl) (by kernel_rfl) (by kernel_rfl) (fun _ _ _ h => h) (Or.inl ⟨by rfl, ?hy65⟩) (by assumption) ?rest65
  case hy65 => (intro w hSw; (try dsimp only at hSw); go_simp; try with_reducible rfl)
  try simp only [Act.put, List.setIfInBounds_toArray, List.set_cons_zero, List.set_cons_succ]
  refine' wpAnyH_take (i := 11) (v := ?v66) rfl (by kernel_rfl) (by kernel_rfl) (by kernel_rfl) (fun _ _ _ h => h) (Or.inl ⟨by rfl, ?hy66⟩) (by assumption) ?rest66
  case hy66 => (intro w hSw; (try dsimp only at hSw); go_simp; try with_reducible rfl)
  try simp only [Act.put, List.setIfInBounds_toArray, List.set_cons_zero, List.set_cons_succ]
  refine' wpAnyH_take (i := 12) (v := ?v67) rfl (by kernel_rfl) (by kernel_rfl) (by kernel_rfl) (fun _ _ _ h => h) (Or.inl ⟨by rfl, ?hy67⟩) (by assumption) ?rest67
  case hy67 => (intro w hSw; (try dsimp only at hSw); go_simp; try with_reducible rfl)
  try simp only [Act.put, List.setIfInBounds_toArray, List.set_cons_zero, List.set_cons_succ]
  refine' wpAnyH_take (i := 13) (v := ?v68) rfl (by kernel_rfl) (by kernel_rfl) (by kernel_rfl) (fun _ _ _ h => h) (Or.inl ⟨by rfl, ?hy68⟩) (by assumption) ?rest68
  case hy68 => (intro w hSw; (try dsimp only at hSw); go_simp; try with_reducible rfl)
  try simp only [Act.put, List.setIfInBounds_toArray, List.set_cons_zero, List.set_cons_succ]
  refine' wpAnyH_take (i := 14) (v := ?v69) rfl (by kernel_rfl) (by kernel_rfl) (by kernel_rfl) (fun _ _ _ h => h) (Or.inl ⟨by rfl, ?hy69⟩) (by assumption) ?rest69
  case hy69 => (intro w hSw; (try dsimp only at hSw); go_simp; try with_reducible rfl)
  try simp only [Act.put, List.setIfInBounds_toArray, List.set_cons_zero, List.set_cons_succ]
  refine' wpAnyH_take (i := 15) (v := ?v70) rfl (by kernel_rfl) (by kernel_rfl) (by kernel_rfl) (fun _ _ _ h => h) (Or.inl ⟨by rfl, ?hy70⟩) (by assumption) ?rest70
  case hy70 => (intro w hSw; (try dsimp only at hSw); go_simp; try with_reducible rfl)
  try simp only [Act.put, List.setIfInBounds_toArray, List.set_cons_zero, List.set_cons_succ]
  refine' wpAnyH_take (i := 16) (v := ?v71) rfl (by kernel_rfl) (by kernel_rfl) (by kernel_rfl) (fun _ _ _ h => h) (Or.inl ⟨by rfl, ?hy71⟩) (by assumption) ?rest71
  case hy71 => (intro w hSw; (try dsimp only at hSw); go_simp; try with_reducible rfl)
  try simp only [Act.put, List.setIfInBounds_toArray, List.set_cons_zero, List.set_cons_succ]
  refine' wpAnyH_take (i := 17) (v := ?v72) rfl (by kernel_rfl) (by kernel_rfl) (by kernel_rfl) (fun _ _ _ h => h) (Or.inl ⟨by rfl, ?hy72⟩) (by assumption) ?rest72
  case hy72 => (intro w hSw; (try dsimp only at hSw); go_simp; try with_reducible rfl)
  try simp only [Act.put, List.setIfInBounds_toArray, List.set_cons_zero, List.set_cons_succ]
  refine' wpAnyH_take (i := 18) (v := ?v73) rfl (by kernel_rfl) (by kernel_rfl) (by kernel_rfl) (fun _ _ _ h => h) (Or.inl ⟨by rfl, ?hy73⟩) (by assumption) ?rest73
  case hy73 => (intro w hSw; (try dsimp only at hSw); go_simp; try with_reducible rfl)
  try simp only [Act.put, List.setIfInBounds_toArray, List.set_cons_zero, List.set_cons_succ]
  refine wpAnyH_ready (rs := [10]) (by kernel_rfl) (by simp) ?_
  refine AllReadyH.cons rfl (fun K74 hK74 => ?_) AllReadyH.nil
  go_simp
  refine (HA.out _ ((H.out.alloc _).drew)).mono ?_
  rintro e w2 ⟨rfl, rfl⟩
  go_wp2_with fail
  refine hK74.out _ _ ?hS74 (fun hHeld74 => ?_)
  case hS74 => (try dsimp only); simp [*, go_sem]
  clear hK74 K74
  refine' wpAnyH_take (i := 19) (v := ?v75) rfl (by kernel_rfl) (by kernel_rfl) (by kernel_rfl) (fun _ _ _ h => h) (Or.inl ⟨by rfl, ?hy75⟩) (by assumption) ?rest75
  case hy75 => (intro w hSw; (try dsimp only at hSw); go_simp; try with_reducible rfl)
  try simp only [Act.put, List.setIfInBounds_toArray, List.set_cons_zero, List.set_cons_succ]
  refine wpAnyH_ready (rs := [20]) (by kernel_rfl) (by simp) ?_
  refine AllReadyH.cons rfl (fun K76 hK76 => ?_) AllReadyH.nil
  go_simp
  refine hK76.out _ _ ?hS76 (fun hHeld76 => ?_)
  case hS76 => (try dsimp only); simp [*, go_sem]
  clear hK76 K76
  refine wpAnyH_done (by kernel_rfl) ?_ _
  go_wp2_with fail
  go_ret
  exact ⟨rfl, ((((HS.out _ H.out).alloc _).alloc _).drew).drew⟩

set_option maxRecDepth 100000 in
set_option maxHeartbeats 1000000 in
/-- out -/
theorem does_out {W w : World} {B : Nat} {Fr : Nat → Prop} {x g : Nat} {n low : Int} {m : Mach} (h : AtW W B Fr x g n low 0 m w) (ok : Ok m) (a b c : Nat) (i : Int) (ha : a < 16) (hb : b < 16) (hc : c < 16) (i1 : -32768 ≤ i) (i2 : i ≤ 65535) (p0 : 0 ≤ m.pc) (p1 : m.pc < 6000) (hn : m.out.length ≤ 1000000) :
    Calls Try.prog 97 #[.pointer (some ⟨x, 0, none⟩), .agg #[.int .i64 24, .int .i64 a, .int .i64 b, .int .i64 c, .int .i64 i]] w fun e w' => e = .returned (.int .i64 (m.pc + 1)) ∧ AtW W B Fr x g n low 0 { m with out := m.out ++ [reg m a] } w' := by
  have hbi : (b : Int) < 16 := by omega
  have hai : (a : Int) < 16 := by omega
  have hci : (c : Int) < 16 := by omega
  obtain ⟨ov, hM, hBel⟩ := h
  have hlt := hM.lt.1
  have hpc := hM.tail.1
  have cra := hM.reg a ha
  have crb := hM.reg b hb
  have crc := hM.reg c hc
  have ra := ok.reg_in a
  have rb := ok.reg_in b
  have rc := ok.reg_in c
  have H : Hid (AtW W B Fr x g n low 0 m w) := ⟨ov, hM, hBel⟩
  have HM := Lib.hid hM
  have HOK := Lib.hid ok
  obtain ⟨i0, hi0, hz0, hz1, hz2⟩ := info_parts i32_info
  have cov := hM.tail.2.2.2.1
  have cfz := hM.free
  have HK := Lib.hid hBel
  clear hM hBel ok
  go_enter Try.func97, Try.ntmps97
  go_wp2_with fail
  refine wp_region_held_drew (S := fun w' => w'.cell? ⟨w.heap.size, 0, none⟩ = some (.int .i64 24) ∧ w'.cell? ⟨w.heap.size, 1, none⟩ = some (.int .i64 a) ∧ w'.cell? ⟨w.heap.size, 2, none⟩ = some (.int .i64 b) ∧ w'.cell? ⟨w.heap.size, 3, none⟩ = some (.int .i64 c) ∧ w'.cell? ⟨w.heap.size, 4, none⟩ = some (.int .i64 i) ∧ w'.cell? ⟨x, a, none⟩ = some (.int .i32 (reg m a))) mixed ?hS0 (fun hHeld => ?_)
  case hS0 => (try dsimp only); simp [*, go_sem]
  refine' wpAnyH_take (i := 0) (v := ?v77) rfl (by kernel_rfl) (by kernel_rfl) (by kernel_rfl) (fun _ _ _ h => h) (Or.inl ⟨by rfl, ?hy77⟩) (by assumption) ?rest77
  case hy77 => (intro w hSw; (try dsimp only at hSw); go_simp; try with_reducible rfl)
  try simp only [Act.put, List.setIfInBounds_toArray, List.set_cons_zero, List.set_cons_succ]
  refine' wpAnyH_take (i := 1) (v := ?v78) rfl (by kernel_rfl) (by kernel_rfl) (by kernel_rfl) (fun _ _ _ h => h) (Or.inl ⟨by rfl, ?hy78⟩) (by assumption) ?rest78
  case hy78 => (intro w hSw; (try dsimp only at hSw); go_simp; try with_reducible rfl)
  try simp only [Act.put, List.setIfInBounds_toArray, List.set_cons_zero, List.set_cons_succ]
  refine' wpAnyH_take (i := 2) (v := ?v79) rfl (by kernel_rfl) (by kernel_rfl) (by kernel_rfl) (fun _ _ _ h => h) (Or.inl ⟨by rfl, ?hy79⟩) (by assumption) ?rest79
  case hy79 => (intro w hSw; (try dsimp only at hSw); go_simp; try with_reducible rfl)
  try simp only [Act.put, List.setIfInBounds_toArray, List.set_cons_zero, List.set_cons_succ]
  refine' wpAnyH_take (i := 3) (v := ?v80) rfl (by kernel_rfl) (by kernel_rfl) (by kernel_rfl) (fun _ _ _ h => h) (Or.inl ⟨by rfl, ?hy80⟩) (by assumption) ?rest80
  case hy80 => (intro w hSw; (try dsimp only at hSw); go_simp; try with_reducible rfl)
  try simp only [Act.put, List.setIfInBounds_toArray, List.set_cons_zero, List.set_cons_succ]
  refine' wpAnyH_take (i := 4) (v := ?v81) rfl (by kernel_rfl) (by kernel_rfl) (by kernel_rfl) (fun _ _ _ h => h) (Or.inl ⟨by rfl, ?hy81⟩) (by assumption) ?rest81
  case hy81 => (intro w hSw; (try dsimp only at hSw); go_simp; try with_reducible rfl)
  try simp only [Act.put, List.setIfInBounds_toArray, List.set_cons_zero, List.set_cons_succ]
  refine' wpAnyH_take (i := 6) (v := ?v82) rfl (by kernel_rfl) (by kernel_rfl) (by kernel_rfl) (fun _ _ _ h => h) (Or.inl ⟨by rfl, ?hy82⟩) (by assumption) ?rest82
  case hy82 => (intro w hSw; (try dsimp only at hSw); go_simp; try with_reducible rfl)
  try simp only [Act.put, List.setIfInBounds_toArray, List.set_cons_zero, List.set_cons_succ]
  refine' wpAnyH_take (i := 7) (v := ?v83) rfl (by kernel_rfl) (by kernel_rfl) (by kernel_rfl) (fun _ _ _ h => h) (Or.inl ⟨by rfl, ?hy83⟩) (by assumption) ?rest83
  case hy83 => (intro w hSw; (try dsimp only at hSw); go_simp; try with_reducible rfl)
  try simp only [Act.put, List.setIfInBounds_toArray, List.set_cons_zero, List.set_cons_succ]
  refine' wpAnyH_take (i := 8) (v := ?v84) rfl (by kernel_rfl) (by kernel_rfl) (by kernel_rfl) (fun _ _ _ h => h) (Or.inl ⟨by rfl, ?hy84⟩) (by assumption) ?rest84
  case hy84 => (intro w hSw; (try dsimp only at hSw); go_simp; try with_reducible rfl)
  try simp only [Act.put, List.setIfInBounds_toArray, List.set_cons_zero, List.set_cons_succ]
  refine' wpAnyH_take (i := 9) (v := ?v85) rfl (by kernel_rfl) (by kernel_rfl) (by kernel_rfl) (fun _ _ _ h => h) (Or.inl ⟨by rfl, ?hy85⟩) (by assumption) ?rest85
  case hy85 => (intro w hSw; (try dsimp only at hSw); go_simp; try with_reducible rfl)
  try simp only [Act.put, List.setIfInBounds_toArray, List.set_cons_zero, List.set_cons_succ]
  refine' wpAnyH_take (i := 10) (v := ?v86) rfl (by kernel_rfl) (by kernel_rfl) (by kernel_rfl) (fun _ _ _ h => h) (Or.inl ⟨by rfl, ?hy86⟩) (by assumption) ?rest86
  case hy86 => (intro w hSw; (try dsimp only at hSw); go_simp; try with_reducible rfl)
  try simp only [Act.put, List.setIfInBounds_toArray, List.set_cons_zero, List.set_cons_succ]
  refine' wpAnyH_take (i := 11) (v := ?v87) rfl (by kernel_rfl) (by kernel_rfl) (by kernel_rfl) (fun _ _ _ h => h) (Or.inl ⟨by rfl, ?hy87⟩) (by assumption) ?rest87
  case hy87 => (intro w hSw; (try dsimp only at hSw); go_simp; try with_reducible rfl)
  try simp only [Act.put, List.setIfInBounds_toArray, List.set_cons_zero, List.set_cons_succ]
  refine' wpAnyH_take (i := 12) (v := ?v88) rfl (by kernel_rfl) (by kernel_rfl) (by kernel_rfl) (fun _ _ _ h => h) (Or.inl ⟨by rfl, ?hy88⟩) (by assumption) ?rest88
  case hy88 => (intro w hSw; (try dsimp only at hSw); go_simp; try with_reducible rfl)
  try simp only [Act.put, List.setIfInBounds_toArray, List.set_cons_zero, List.set_cons_succ]
  refine' wpAnyH_take (i := 13) (v := ?v89) rfl (by kernel_rfl) (by kernel_rfl) (by kernel_rfl) (fun _ _ _ h => h) (Or.inl ⟨by rfl, ?hy89⟩) (by assumption) ?rest89
  case hy89 => (intro w hSw; (try dsimp only at hSw); go_simp; try with_reducible rfl)
  try simp only [Act.put, List.setIfInBounds_toArray, List.set_cons_zero, List.set_cons_succ]
  refine wpAnyH_ready (rs := [5, 14]) (by kernel_rfl) (by simp) ?_
  refine AllReadyH.cons rfl (fun KA hKA => ?_) ?_
  · go_simp
    refine hKA.out _ _ ?hSA (fun hHeldA => ?_)
    case hSA => (try dsimp only); simp [*, go_sem]
    clear hKA KA
    refine wpAnyH_ready (rs := [14]) (by kernel_rfl) (by simp) ?_
    refine AllReadyH.cons rfl (fun K90 hK90 => ?_) AllReadyH.nil
    go_simp
    refine hK90.out _ _ ?hS90 (fun hHeld90 => ?_)
    case hS90 => (try dsimp only); simp [*, go_sem]
    clear hK90 K90
    refine wpAnyH_ready (rs := [15]) (by kernel_rfl) (by simp) ?_
    refine AllReadyH.cons rfl (fun K91 hK91 => ?_) AllReadyH.nil
    refine step_append_own rfl (.tmp 208) (.tmp 217) 32 rfl B 21 i0 _ 1 4 Try.underlying32 hi0 hz0 hz1 hz2 rfl (by decide) ov m.out.length (m.out.map (Value.int .i32)) rfl (by exact (HM.out.outs.alloc _).alloc _) ⟨w.heap.size + 1, 0, none⟩ 1 1 [.int .i32 (reg m a)] rfl rfl (by exact cells1_of (heap_alloc_new2 w _ _)) (by intro u hu; simp only [List.mem_singleton] at hu; subst hu; rfl) (by unfold maxLen; omega) (by omega) (by have := HM.out.lt; have := HM.out.base; simp; omega) ?_
    intro v3 w3 hown3 hgr3 hor3
    rcases hown3.2 with ⟨_, h0⟩ | ⟨g3, cap3, cur3, rfl, _⟩
    · omega
    have HM3 := Lib.hid ((HM.out.below ((Below.refl _ _).alloc (Nat.le_refl _) (.cells #[.int .i64 24, .int .i64 a, .int .i64 b, .int .i64 c, .int .i64 i] 24))).below ((Below.refl _ _).alloc (Nat.le_refl _) (.cells #[.int .i32 (reg m a)] 21)))
    have hb3 : w3.heap[w.heap.size]? = some (.cells #[.int .i64 24, .int .i64 a, .int .i64 b, .int .i64 c, .int .i64 i] 24 (0, 0)) := by
      rw [hgr3.block w.heap.size (by simp; omega) (fun e => by have := (HM.out.outs.lt w.heap.size e.symm).2; omega)]
      exact (Below.heap_alloc _ _ _ (by simp)).trans (heap_alloc_new w _)
    have hx3 : w3.heap[x]? = some (.cells (cellsOf m 0 ov g n low) 99 (0, 0)) := (hgr3.block x (by simp; omega) HM.out.ovx).trans HM3.out.mach
    obtain ⟨j0, j1, j2, j3, j4, jz⟩ := blk5 hb3
    have c19 : w3.cell? ⟨x, 19, none⟩ = some ov := by rw [cell_of_row w3 x 19 _ _ _ hx3, ← HM.out.cell 19]; exact cov
    have cra3 : w3.cell? ⟨x, a, none⟩ = some (.int .i32 (reg m a)) := by rw [cell_of_row w3 x a _ _ _ hx3, ← HM.out.cell a]; exact cra
    have z3 : ∀ o, w3.frozen? ⟨x, o, none⟩ = false := fun o => by simp [World.frozen?, hx3]
    have HO3 := Lib.hid hown3
    have HG3 : Hid (World.grownBy ((w.alloc (.cells #[.int .i64 24, .int .i64 a, .int .i64 b, .int .i64 c, .int .i64 i] 24)).alloc (.cells #[.int .i32 (reg m a)] 21)) w3 ov.ownBlock) := ⟨hgr3.os, hgr3.tape, hgr3.output, hgr3.size, hgr3.block⟩
    have HR3 := Lib.hid hor3
    clear hown3 hgr3 hor3 hb3 hx3
    refine hK91.out _ _ ?hS91 (fun hHeld91 => ?_)
    case hS91 => exact ⟨j0, j1, j2, j3, j4, cra3⟩
    clear hK91 K91
    refine' wpAnyH_take (i := 16) (v := ?v92) rfl (by kernel_rfl) (by kernel_rfl) (by kernel_rfl) (fun _ _ _ h => h) (Or.inl ⟨by rfl, ?hy92⟩) (by assumption) ?rest92
    case hy92 => (intro w hSw; (try dsimp only at hSw); go_simp; try with_reducible rfl)
    try simp only [Act.put, List.setIfInBounds_toArray, List.set_cons_zero, List.set_cons_succ]
    refine' wpAnyH_take (i := 17) (v := ?v93) rfl (by kernel_rfl) (by kernel_rfl) (by kernel_rfl) (fun _ _ _ h => h) (Or.inl ⟨by rfl, ?hy93⟩) (by assumption) ?rest93
    case hy93 => (intro w hSw; (try dsimp only at hSw); go_simp; try with_reducible rfl)
    try simp only [Act.put, List.setIfInBounds_toArray, List.set_cons_zero, List.set_cons_succ]
    refine' wpAnyH_take (i := 18) (v := ?v94) rfl (by kernel_rfl) (by kernel_rfl) (by kernel_rfl) (fun _ _ _ h => h) (Or.inl ⟨by rfl, ?hy94⟩) (by assumption) ?rest94
    case hy94 => (intro w hSw; (try dsimp only at hSw); go_simp; try with_reducible rfl)
    try simp only [Act.put, List.setIfInBounds_toArray, List.set_cons_zero, List.set_cons_succ]
    refine wpAnyH_ready (rs := [19]) (by kernel_rfl) (by simp) ?_
    refine AllReadyH.cons rfl (fun K95 hK95 => ?_) AllReadyH.nil
    go_simp
    refine hK95.out _ _ ?hS95 (fun hHeld95 => ?_)
    case hS95 => (try dsimp only); simp [*, go_sem]
    clear hK95 K95
    refine wpAnyH_done (by kernel_rfl) ?_ _
    go_wp2_with fail
    go_ret
    refine ⟨rfl, _, HM3.out.setOut HG3.out ?_ ?_, ?_⟩
    · have := HO3.out
      rw [List.length_append, List.map_append]
      exact this
    · intro e
      rcases HR3.out with h | h
      · exact HM.out.apart (h.symm.trans e)
      · rw [h] at e
        have := HM.out.lt.2
        simp at e
        omega
    · have hk := HK.out
      have hk2 := (hk.below ((Below.refl _ _).alloc (Nat.le_refl _) (.cells #[.int .i64 24, .int .i64 a, .int .i64 b, .int .i64 c, .int .i64 i] 24))).below ((Below.refl _ _).alloc (Nat.le_refl _) (.cells #[.int .i32 (reg m a)] 21))
      exact (hk2.grow HG3.out HR3.out).set hk.free.1 _ _
  · refine AllReadyH.cons rfl (fun KB hKB => ?_) AllReadyH.nil
    go_simp
    refine hKB.out _ _ ?hSB (fun hHeldB => ?_)
    case hSB => (try dsimp only); simp [*, go_sem]
    clear hKB KB
    refine wpAnyH_ready (rs := [5]) (by kernel_rfl) (by simp) ?_
    refine AllReadyH.cons rfl (fun K96 hK96 => ?_) AllReadyH.nil
    go_simp
    refine hK96.out _ _ ?hS96 (fun hHeld96 => ?_)
    case hS96 => (try dsimp only); simp [*, go_sem]
    clear hK96 K96
    refine wpAnyH_ready (rs := [15]) (by kernel_rfl) (by simp) ?_
    refine AllReadyH.cons rfl (fun K97 hK97 => ?_) AllReadyH.nil
    refine step_append_own rfl (.tmp 208) (.tmp 217) 32 rfl B 21 i0 _ 1 4 Try.underlying32 hi0 hz0 hz1 hz2 rfl (by decide) ov m.out.length (m.out.map (Value.int .i32)) rfl (by exact (HM.out.outs.alloc _).alloc _) ⟨w.heap.size + 1, 0, none⟩ 1 1 [.int .i32 (reg m a)] rfl rfl (by exact cells1_of (heap_alloc_new2 w _ _)) (by intro u hu; simp only [List.mem_singleton] at hu; subst hu; rfl) (by unfold maxLen; omega) (by omega) (by have := HM.out.lt; have := HM.out.base; simp; omega) ?_
    intro v3 w3 hown3 hgr3 hor3
    rcases hown3.2 with ⟨_, h0⟩ | ⟨g3, cap3, cur3, rfl, _⟩
    · omega
    have HM3 := Lib.hid ((HM.out.below ((Below.refl _ _).alloc (Nat.le_refl _) (.cells #[.int .i64 24, .int .i64 a, .int .i64 b, .int .i64 c, .int .i64 i] 24))).below ((Below.refl _ _).alloc (Nat.le_refl _) (.cells #[.int .i32 (reg m a)] 21)))
    have hb3 : w3.heap[w.heap.size]? = some (.cells #[.int .i64 24, .int .i64 a, .int .i64 b, .int .i64 c, .int .i64 i] 24 (0, 0)) := by
      rw [hgr3.block w.heap.size (by simp; omega) (fun e => by have := (HM.out.outs.lt w.heap.size e.symm).2; omega)]
      exact (Below.heap_alloc _ _ _ (by simp)).trans (heap_alloc_new w _)
    have hx3 : w3.heap[x]? = some (.cells (cellsOf m 0 ov g n low) 99 (0, 0)) := (hgr3.block x (by simp; omega) HM.out.ovx).trans HM3.out.mach
    obtain ⟨j0, j1, j2, j3, j4, jz⟩ := blk5 hb3
    have c19 : w3.cell? ⟨x, 19, none⟩ = some ov := by rw [cell_of_row w3 x 19 _ _ _ hx3, ← HM.out.cell 19]; exact cov
    have cra3 : w3.cell? ⟨x, a, none⟩ = some (.int .i32 (reg m a)) := by rw [cell_of_row w3 x a _ _ _ hx3, ← HM.out.cell a]; exact cra
    have z3 : ∀ o, w3.frozen? ⟨x, o, none⟩ = false := fun o => by simp [World.frozen?, hx3]
    have HO3 := Lib.hid hown3
    have HG3 : Hid (World.grownBy ((w.alloc (.cells #[.int .i64 24, .int .i64 a, .int .i64 b, .int .i64 c, .int .i64 i] 24)).alloc (.cells #[.int .i32 (reg m a)] 21)) w3 ov.ownBlock) := ⟨hgr3.os, hgr3.tape, hgr3.output, hgr3.size, hgr3.block⟩
    have HR3 := Lib.hid hor3
    clear hown3 hgr3 hor3 hb3 hx3
    refine hK97.out _ _ ?hS97 (fun hHeld97 => ?_)
    case hS97 => exact ⟨j0, j1, j2, j3, j4, cra3⟩
    clear hK97 K97
    refine' wpAnyH_take (i := 16) (v := ?v98) rfl (by kernel_rfl) (by kernel_rfl) (by kernel_rfl) (fun _ _ _ h => h) (Or.inl ⟨by rfl, ?hy98⟩) (by assumption) ?rest98
    case hy98 => (intro w hSw; (try dsimp only at hSw); go_simp; try with_reducible rfl)
    try simp only [Act.put, List.setIfInBounds_toArray, List.set_cons_zero, List.set_cons_succ]
    refine' wpAnyH_take (i := 17) (v := ?v99) rfl (by kernel_rfl) (by kernel_rfl) (by kernel_rfl) (fun _ _ _ h => h) (Or.inl ⟨by rfl, ?hy99⟩) (by assumption) ?rest99
    case hy99 => (intro w hSw; (try dsimp only at hSw); go_simp; try with_reducible rfl)
    try simp only [Act.put, List.setIfInBounds_toArray, List.set_cons_zero, List.set_cons_succ]
    refine' wpAnyH_take (i := 18) (v := ?v100) rfl (by kernel_rfl) (by kernel_rfl) (by kernel_rfl) (fun _ _ _ h => h) (Or.inl ⟨by rfl, ?hy100⟩) (by assumption) ?rest100
    case hy100 => (intro w hSw; (try dsimp only at hSw); go_simp; try with_reducible rfl)
    try simp only [Act.put, List.setIfInBounds_toArray, List.set_cons_zero, List.set_cons_succ]
    refine wpAnyH_ready (rs := [19]) (by kernel_rfl) (by simp) ?_
    refine AllReadyH.cons rfl (fun K101 hK101 => ?_) AllReadyH.nil
    go_simp
    refine hK101.out _ _ ?hS101 (fun hHeld101 => ?_)
    case hS101 => (try dsimp only); simp [*, go_sem]
    clear hK101 K101
    refine wpAnyH_done (by kernel_rfl) ?_ _
    go_wp2_with fail
    go_ret
    refine ⟨rfl, _, HM3.out.setOut HG3.out ?_ ?_, ?_⟩
    · have := HO3.out
      rw [List.length_append, List.map_append]
      exact this
    · intro e
      rcases HR3.out with h | h
      · exact HM.out.apart (h.symm.trans e)
      · rw [h] at e
        have := HM.out.lt.2
        simp at e
        omega
    · have hk := HK.out
      have hk2 := (hk.below ((Below.refl _ _).alloc (Nat.le_refl _) (.cells #[.int .i64 24, .int .i64 a, .int .i64 b, .int .i64 c, .int .i64 i] 24))).below ((Below.refl _ _).alloc (Nat.le_refl _) (.cells #[.int .i32 (reg m a)] 21))
      exact (hk2.grow HG3.out HR3.out).set hk.free.1 _ _

end Go.Proofs.Ythnehhidlaggeaa
