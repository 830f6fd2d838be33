/- A region that draws its order, whose last operations write what its loads read: one condition on worlds serves the loads, and is asked behind each operation but the late ones: no program in sight. -/
import Derived.Test.YthnehhidlaggeaaMkit
import Derived.OrdersHeld
import Derived.RegionTactic
namespace Go.Proofs.Ythnehhidlaggeaa
set_option linter.unusedVariables false
set_option linter.unusedSimpArgs false
section
variable {P : Program} {ops : Array Oper} {Q : Exit → Act → World → Prop} {md : Region.Mode} {S : World → Prop} {late : List Nat}

/-- whichever comes up: the condition is asked behind each but the late ones -/
def wpLate (P : Program) (md : Region.Mode) (ops : Array Oper) (Q : Exit → Act → World → Prop) (S : World → Prop) (late : List Nat) : Nat → Array Bool → Act → World → Prop
  | 0, did, a, w => Region.ready md ops did = [] ∧ Q .normal a w
  | n + 1, did, a, w => (Region.ready md ops did = [] → Q .normal a w) ∧
    ∀ j ∈ Region.ready md ops did, wpOp P ops Q j (fun b u => (j ∉ late → S u) ∧ wpLate P md ops Q S late n (did.setIfInBounds j true) b u) a w
theorem wpLate.any {n : Nat} : ∀ {did : Array Bool} {a : Act} {w : World}, wpLate P md ops Q S late n did a w → wpAny P md ops Q n did a w := by
  induction n with
  | zero => intro did a w h; exact h
  | succ n ih => intro did a w h; exact ⟨h.1, fun j hj => wpOp_mono (fun b u hb => ih hb.2) (h.2 j hj)⟩

/-- does j wait for i, over others? -/
def reach (md : Region.Mode) (ops : Array Oper) : Nat → Nat → Nat → Bool
  | 0, _, _ => false
  | f + 1, j, i => match ops[j]? with
    | none => false
    | some o => o.after.any fun e => Region.binds md e && (e.on == i || reach md ops f e.on i)
/-- with each one all that it waits for has been done -/
def Closed (md : Region.Mode) (ops : Array Oper) (did : Array Bool) : Prop :=
  ∀ j o, ops[j]? = some o → did.getD j false = true → ∀ e ∈ o.after, Region.binds md e = true → did.getD e.on false = true
def closedB (md : Region.Mode) (ops : Array Oper) (did : Array Bool) : Bool :=
  (List.range ops.size).all fun j => !did.getD j false || match ops[j]? with
    | none => true
    | some o => o.after.all fun e => !Region.binds md e || did.getD e.on false
theorem closed_of {did : Array Bool} (h : closedB md ops did = true) : Closed md ops did := by
  intro j o ho hj e he hb
  have hlt : j < ops.size := (Array.getElem?_eq_some_iff.1 ho).1
  have h1 := List.all_eq_true.1 h j (List.mem_range.2 hlt)
  rw [hj, ho] at h1
  simp only [Bool.not_true, Bool.false_or] at h1
  have h2 := Array.all_eq_true_iff_forall_mem.1 h1 e he
  rw [hb] at h2
  simpa using h2
theorem reach_did {did : Array Bool} (hc : Closed md ops did) (f : Nat) : ∀ (j i : Nat) (o : Oper), ops[j]? = some o → (∀ e ∈ o.after, Region.binds md e = true → did.getD e.on false = true) → reach md ops f j i = true → did.getD i false = true := by
  induction f with
  | zero => intro j i o _ _ h; cases h
  | succ f ih =>
    intro j i o ho hall h
    rw [reach, ho] at h
    simp only at h
    obtain ⟨e, he, hb⟩ := Array.any_eq_true'.1 h
    rw [Bool.and_eq_true, Bool.or_eq_true, beq_iff_eq] at hb
    obtain ⟨hb1, hb2⟩ := hb
    have hd := hall e he hb1
    rcases hb2 with rfl | hb2
    · exact hd
    · rcases e2 : ops[e.on]? with _ | o2
      · cases f with
        | zero => cases hb2
        | succ f => rw [reach, e2] at hb2; cases hb2
      · exact ih e.on i o2 e2 (hc e.on o2 e2 hd) hb2
theorem late_waits {did : Array Bool} (hc : Closed md ops did) {f i j : Nat} (hr : late.all (fun k => reach md ops f k i) = true) (hun : did.getD i true = false) (hj : j ∈ Region.ready md ops did) : j ∉ late := by
  intro hl
  obtain ⟨_, o, ho, hall⟩ := mem_ready.1 hj
  have h1 := reach_did hc f j i o ho hall (List.all_eq_true.1 hr j hl)
  rcases Nat.lt_or_ge i did.size with h | h
  · simp [h] at h1 hun
    rw [h1] at hun
    cases hun
  · simp [Array.getElem?_eq_none h] at hun
theorem closed_did {did : Array Bool} (hc : Closed md ops did) {j : Nat} (hj : j ∈ Region.ready md ops did) : Closed md ops (did.setIfInBounds j true) := by
  intro k o ho hk e he hb
  by_cases hkj : j = k
  · subst hkj
    obtain ⟨_, o2, ho2, hall⟩ := mem_ready.1 hj
    rw [ho] at ho2
    injection ho2 with ho2
    subst ho2
    exact getD_set_true (hall e he hb)
  · rw [getD_set_ne false hkj] at hk
    exact getD_set_true (hc k o ho hk e he hb)

/-- number i first -/
theorem wpLate_first {i : Nat} {oi : Oper} {v : Value} (hi : ops[i]? = some oi) (hs : Region.noSelect ops = true) (f : Nat) (hlate : late.all (fun k => reach md ops f k i) = true)
    (hQ : ∀ c a w, Q (.panic c) (a.put oi.dst v) w → Q (.panic c) a w) (n : Nat) : ∀ (did : Array Bool) (a : Act) (w : World), Closed md ops did →
      (∀ j oj, ops[j]? = some oj → j ≠ i → did.getD j true = false → (∀ e ∈ oj.after, Region.binds md e = true → e.on ≠ i) → oi.apart ops oj = true) →
      i ∈ Region.ready md ops did → YieldsIf P ops S oi v a → S w →
      wpLate P md ops Q S late n (did.setIfInBounds i true) (a.put oi.dst v) w → wpLate P md ops Q S late (n + 1) did a w := by
  induction n with
  | zero =>
    intro did a w hc hap hr hy hS H
    refine ⟨fun h0 => absurd (h0 ▸ hr) (by simp), fun j hj => ?_⟩
    rcases Decidable.em (j = i) with e | e
    · rw [e]
      exact hy.wpOp hi hS ⟨fun _ => hS, H⟩
    · exact absurd (H.1 ▸ ready_mono hj e) (by simp)
  | succ n ih =>
    intro did a w hc hap hr hy hS H
    have hun := (mem_ready.1 hr).1
    refine ⟨fun h0 => absurd (h0 ▸ hr) (by simp), fun j hj => ?_⟩
    rcases Decidable.em (j = i) with e | e
    · rw [e]
      exact hy.wpOp hi hS ⟨fun _ => hS, H⟩
    · have hnl := late_waits hc hlate hun hj
      obtain ⟨hju, oj, hoj, hall⟩ := mem_ready.1 hj
      have hno : ∀ x ∈ oj.after, Region.binds md x = true → x.on ≠ i := by
        intro x hx hb hxi
        have h1 := hall x hx hb
        rw [hxi] at h1
        rcases Nat.lt_or_ge i did.size with h | h
        · simp [h] at h1 hun
          rw [h1] at hun
          cases hun
        · simp [Array.getElem?_eq_none h] at h1
      have hmove := wpOp_putIf hoj (hap j oj hoj e hju hno) (fun cs b => Region.noSelect_spec hs i oi cs b hi) (fun cs b => Region.noSelect_spec hs j oj cs b hoj) hQ hy (H.2 j (ready_mono hj e))
      refine wpOp_mono (fun b u hb => ⟨hb.2.1, ih _ b u (closed_did hc hj) ?_ (ready_mono hr (fun h => e h.symm)) hb.1 (hb.2.1 hnl) ?_⟩) hmove
      · intro k ok hok hki hku hkn
        refine hap k ok hok hki ?_ hkn
        rcases Decidable.em (j = k) with ejk | ejk
        · rw [← ejk]; exact hju
        · rwa [getD_set_ne true ejk] at hku
      · rw [Array.setIfInBounds_comm _ _ e]
        exact hb.2.2
/-- take number i first -/
theorem wpLate_take {i : Nat} {oi : Oper} {v : Value} {n : Nat} {did : Array Bool} {a : Act} {w : World} (hi : ops[i]? = some oi) (hs : Region.noSelect ops = true)
    (hl : late.all (fun k => reach md ops ops.size k i) = true) (hc : closedB md ops did = true) (hf : Region.free md ops did i = true) (hr : (Region.ready md ops did).contains i = true)
    (hQ : ∀ c a w, Q (.panic c) (a.put oi.dst v) w → Q (.panic c) a w) (hy : YieldsIf P ops S oi v a) (hS : S w)
    (h : wpLate P md ops Q S late n (did.setIfInBounds i true) (a.put oi.dst v) w) : wpLate P md ops Q S late (n + 1) did a w :=
  wpLate_first hi hs ops.size hl hQ n did a w (closed_of hc) (Region.free_spec hi hf) (by simpa using hr) hy hS h
/-- whichever may come up -/
theorem wpLate_ready {rs : List Nat} {n : Nat} {did : Array Bool} {a : Act} {w : World} (hr : Region.ready md ops did = rs) (hne : rs ≠ [])
    (h : ∀ j ∈ rs, wpOp P ops Q j (fun b u => (j ∉ late → S u) ∧ wpLate P md ops Q S late n (did.setIfInBounds j true) b u) a w) : wpLate P md ops Q S late (n + 1) did a w :=
  ⟨fun h0 => absurd (hr ▸ h0) hne, hr ▸ h⟩
def ReadyL (P : Program) (md : Region.Mode) (ops : Array Oper) (Q : Exit → Act → World → Prop) (S : World → Prop) (late : List Nat) (n : Nat) (did : Array Bool) (a : Act) (w : World) (rs : List Nat) : Prop :=
  ∀ j ∈ rs, wpOp P ops Q j (fun b u => (j ∉ late → S u) ∧ wpLate P md ops Q S late n (did.setIfInBounds j true) b u) a w
theorem ReadyL.nil {n : Nat} {did : Array Bool} {a : Act} {w : World} : ReadyL P md ops Q S late n did a w [] := fun _ h => by cases h
theorem ReadyL.cons {n : Nat} {did : Array Bool} {a : Act} {w : World} {j : Nat} {o : Oper} {rs : List Nat} (ho : ops[j]? = some o)
    (h : ∀ K : Act → World → Prop, Shut (∀ b u, (j ∉ late → S u) → ((j ∉ late → S u) → wpLate P md ops Q S late n (did.setIfInBounds j true) b u) → K b u) → if Region.wanted o (yielded ops a.tmps) = true then Oper.wp P o a w K Q else K (a.put o.dst undef) w)
    (hs : ReadyL P md ops Q S late n did a w rs) : ReadyL P md ops Q S late n did a w (j :: rs) := fun k hk => by
  rcases List.mem_cons.1 hk with rfl | hk
  · exact wpOp_step ho (fun K hK => h K (fun b u hS hW => hK b u ⟨hS, hW hS⟩))
  · exact hs k hk
/-- all have come up -/
theorem wpLate_done {did : Array Bool} {a : Act} {w : World} (hr : Region.ready md ops did = []) (h : Q .normal a w) : ∀ n, wpLate P md ops Q S late n did a w
  | 0 => ⟨hr, h⟩
  | _ + 1 => ⟨fun _ => h, by rw [hr]; simp⟩
/-- the beginning -/
theorem wp_region_late (S : World → Prop) (late : List Nat) {id : Nat} {a : Act} {w : World} (hm : P.follows .mixedOrders = true) (hS : S w.drew)
    (h : S w.drew → wpLate P .any ops Q S late ops.size (Array.replicate ops.size false) a w.drew) : (Code.region id ops true).wp P Q a w :=
  wp_region_any hm (h hS).any
end
end Go.Proofs.Ythnehhidlaggeaa
