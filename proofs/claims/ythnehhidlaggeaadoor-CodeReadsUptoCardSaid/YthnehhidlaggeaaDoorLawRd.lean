/- For every text the program tells the instruction whose text it is, or that there is none: the statement CodeReads in its second form (what it reads is of bulk at most 1048576), as a tied card: the seven listed variables of Go's library hold what their text lays. -/
import Derived.Test.YthnehhidlaggeaaDoorRRead
import Derived.Test.YthnehhidlaggeaaDoorLaidW
namespace Go.Proofs.YthnehhidlaggeaaDoor
set_option linter.unusedVariables false
set_option linter.unusedSimpArgs false
open Go.RowKit

/-- a text's reading is one value -/
theorem tells_value (l : List UInt8) : ∃ o a b c i er : Int, ∀ e, ReadTells l e → e = .returned (.tuple #[.agg #[.int .i64 o, .int .i64 a, .int .i64 b, .int .i64 c, .int .i64 i], .int .i64 er]) := by
  by_cases h : ∃ op a b c i, Cp.Tells l op a b c i
  · obtain ⟨op, a, b, c, i, h⟩ := h
    refine ⟨op, a, b, c, i, 0, fun e he => ?_⟩
    rcases he with ⟨op', a', b', c', i', h', rfl⟩ | ⟨hn, _⟩
    · obtain ⟨rfl, rfl, rfl, rfl, rfl⟩ := Cp.tells_one h h'
      rfl
    · exact absurd h (hn _ _ _ _ _)
  · refine ⟨0, 0, 0, 0, 0, 2, fun e he => ?_⟩
    rcases he with ⟨op', a', b', c', i', h', _⟩ | ⟨_, rfl⟩
    · exact absurd ⟨_, _, _, _, _, h'⟩ h
    · rfl

set_option maxRecDepth 100000 in
set_option maxHeartbeats 1000000 in
theorem reads_law (s : ByteArray) (hs : s.size ≤ 1048576) (m : Int) (t0 t1 : TypeId) (p0 p1 : Value) (w : World) (h0 : w.cell? ⟨0, 0, none⟩ = some (.iface t0 p0)) (h1 : w.cell? ⟨1, 0, none⟩ = some (.iface t1 p1)) (hm : w.cell? ⟨2, 0, none⟩ = some (.int .i64 m))
    (htab : Lib.TabIs Tryd.prog w "internal/strconv.uint64pow10" .u64 Lib.pow10Tab) :
    Calls Tryd.prog 4 #[.string s] w fun e w' => e = .returned (.bool true) ∧ Below w.heap.size w w' := by
  obtain ⟨o, a, b, c, i, er, hv⟩ := tells_value s.data.toList
  have H1 := Lib.hid ((read_any s hs m t0 t1 p0 p1 w h0 h1 hm htab).mono (fun e w' ⟨h, hb⟩ => And.intro (hv e h) hb))
  have H2 := Lib.hid (fun w => (rread_any s hs w).mono (fun e w' ⟨h, hb⟩ => And.intro (hv e h) hb))
  clear hv h0 h1 hm htab
  go_enter Tryd.func4, Tryd.ntmps4
  go_wp2_with fail
  refine H1.out.mono ?_
  rintro e w1 ⟨rfl, hb1⟩
  go_wp2_with fail
  refine (H2.out _).mono ?_
  rintro e w2 ⟨rfl, hb2⟩
  have hI := (hb2.block w1.heap.size (by simp)).trans (heap_alloc_new w1 _)
  obtain ⟨p0, p1, p2, p3, p4, pz⟩ := blk5 hI
  have hs : w1.heap.size < w2.heap.size := by have := hb2.size; simp at this; omega
  have hB : Below w.heap.size w w2 := (hb1.alloc hb1.size _).trans (hb2.mono (by simp; have := hb1.size; omega))
  have HB := Lib.hid hB
  clear hb1 hb2 hI hB
  go_wp2_with fail
  go_ret
  clear p0 p1 p2 p3 p4 pz
  exact ⟨rfl, HB.out.alloc (by have := HB.out.size; omega) _⟩

end Go.Proofs.YthnehhidlaggeaaDoor

namespace Go.Proofs.YthnehhidlaggeaaDoor.lawRd
set_option linter.unusedVariables false
set_option linter.unusedSimpArgs false
open Go.ChangeShapes Go.WideShapes Go.ChangeAt Go.RowKit
open Go.ChangeMaps (open_string)

set_option maxRecDepth 100000 in
/-- what the walk gives, for every argument that is short enough and every world that fits -/
theorem contract (H : Type) (enc : TypeId × Value → H) (W : World) (base : Nat) (args : Array Value) (ds gs : List (DataW H)) (before : List MemPlace)
    (hval0 : ∀ (j : Nat) t v, Tryd.f4.params[j]? = some t → args[j]? = some v → Value.okWide Tryd.prog W .any base t v)
    (hW : DataW.Whole enc Tryd.prog Tryd.f4.params.toList Rows.codeReadsSpec.vars false W args.toList ds gs before) (hk : Rows.uptoSmall H (ds ++ gs) = true) (hL : laidMet Tryd.prog Rows.codeBackRow.laid W) (hsh : W.ShapedOpen Tryd.prog) :
    Calls Tryd.prog 4 args W fun e W' => ∃ v, e = .returned v ∧ Rows.codeReadsSpec.post enc Tryd.prog Tryd.f4 false true false false W args v W' := by
  have hval : ∀ (j : Nat) t v, Tryd.f4.params[j]? = some t → args[j]? = some v → Value.okWide Tryd.prog W .any base t v := hval0
  have hW' := hW
  obtain ⟨p, q, hA0, hV, rfl, hfz, hnd⟩ := hW
  have hA : DataW.TrodAll enc Tryd.prog W 0 (fun _ => true) true Tryd.f4.params.toList args.toList ds p := hA0
  obtain ⟨rfl, rfl⟩ := trodVars_none hV
  simp only [List.append_nil] at hW' hk
  have hA2 := hA
  rw [Tryd.params4] at hA2 hval
  obtain ⟨v0, vs0, d0, ds0, p0, q0, hargs, rfl, rfl, h0, r0⟩ := trodAll_cons hA2
  obtain ⟨rfl, rfl, rfl⟩ := trodAll_nil r0
  obtain rfl : args = #[v0] := by cases args; simp_all
  obtain ⟨s, rfl, rfl, rfl, ws⟩ := open_string Tryd.underlying9 (hval 0 9 v0 rfl rfl) h0
  have hb := of_decide_eq_true hk
  simp only [Rows.uptoBulkAll, Rows.uptoBulk] at hb
  have hs : s.size ≤ 1048576 := by
    have : s.size = s.data.toList.length := by rw [Array.length_toList]; rfl
    omega
  obtain ⟨t0, x0, hv0⟩ := syn_of_laid hL
  obtain ⟨t1, x1, hv1⟩ := rng_of_laid hL
  obtain ⟨m, hm⟩ := max_of_shaped hsh
  refine (reads_law s hs m t0 t1 x0 x1 W hv0 hv1 hm (tab_of_laid hL)).mono fun e W' ⟨he, hg⟩ => ?_
  subst he
  exact ⟨_, rfl, post_of_args (by kernel_rfl) (by rw [Tryd.params4]; decide +kernel) hW' hA (fun _ _ _ => (trodAll_cons_mk (shut_bool Tryd.underlying4 _) trodAll_mk0)) rfl (fun _ => rfl)
    hg (ok_one (by kernel_rfl) rfl (okWide_bool_mk Tryd.underlying4 _))⟩
theorem reads (os : Os) {H : Type} (enc : TypeId × Value → H) : ∃ places, DataW.whole enc Tryd.prog ((laidWorld os).forCall (fun _ _ => 0) ⟨#[], #[.string ⟨#[]⟩], []⟩).memory Tryd.f4.params.toList Rows.codeReadsSpec.vars false #[Value.string ⟨#[]⟩].toList 8 = some ([.lit (.string [])], [], places) :=
  ⟨[], by kernel_rfl⟩
theorem laid_met2 (os : Os) (args : Array Value) : laidMet Tryd.prog Rows.codeReadsUptoRow.laid ((laidWorld os).forCall (fun _ _ => 0) ⟨#[], args, []⟩).memory := laid_met os args

set_option maxRecDepth 100000 in
theorem lifted (os : Os) (started : os.Started) (H : Type) (enc : TypeId × Value → H) (F : Stop.Interp) :
    ReturnsInHanded {} Tryd.checked os 4 .any ((Rows.OpenSpec.upto Rows.codeReadsSpec).preRow enc Tryd.prog Tryd.f4 Rows.codeReadsUptoRow.domain false Rows.codeReadsUptoRow.laid) (((Rows.OpenSpec.upto Rows.codeReadsSpec).at F).post enc Tryd.prog Tryd.f4 false true false false) := by
  obtain ⟨places, hx⟩ := reads os enc
  refine returnsInHanded_of_row (C := Tryd.checked) (s := Rows.OpenSpec.upto Rows.codeReadsSpec) ownK started (by kernel_rfl) Tryd.func4
    (witness_row_at (enc := enc) (C := Tryd.checked) false (laidWorld os) #[.string ⟨#[]⟩] rfl (by kernel_rfl) (by kernel_rfl) (by kernel_rfl)
      (OpenSpec.preRow_of_cond 8 hx (by kernel_rfl) (fun k hk => by cases hk; kernel_rfl) (by kernel_rfl) (laid_met2 os _))) ?_
  intro W base args ds gs before hval hW _ hcond _ hL hsh _
  exact contract H enc W base args ds gs before hval hW (hcond _ rfl) hL hsh

theorem over : Rows.CodeReadsUptoSaid :=
  OpenClaim.holds_of_cond 4 Tryd.f4 rfl rfl rfl rfl rfl rfl rfl ⟨rfl, rfl, rfl, rfl, rfl⟩ rfl rfl rfl rfl rfl (by kernel_rfl) Tryd.func4 (by kernel_rfl)
    (of_decide_eq_true (by kernel_rfl)) (by unfold Func.isWrapper; first | (rw [if_pos (by decide +kernel)]; kernel_rfl) | (rw [if_neg (by decide +kernel)]; exact ⟨rfl, rfl⟩))
    (fun os started H enc _ F => by rw [OpenClaim.pre_eq_preRow]; exact lifted os started H enc F)

/-- the card: the listed variables are tied to the program's text -/
theorem proved : Rows.CodeReadsUptoCardSaid :=
  Claim7.holds_tied_plain_at .later [] _ _ _ _ over (fun _ h => by cases h) (by kernel_rfl) (fun _ h => by cases h) codeReadsUpto_row_tie rfl ⟨rfl, rfl⟩ (by kernel_rfl) rfl
    (fun f fn hf hfn => by
      obtain rfl : f = 4 := Option.some.inj ((show Tryd.prog.funcNamed "scarfjoint/scarfjointlaw.CodeReads" = some 4 by kernel_rfl).symm.trans hf) |>.symm
      obtain rfl : fn = Tryd.f4 := (Option.some.inj (Tryd.func4.symm.trans hfn)).symm
      exact ⟨by kernel_rfl, fun j t ht => by
        rw [Tryd.params4] at ht
        have h3 : t = 9 := by
          rcases j with _ | j
          · simpa using ht.symm
          · simp at ht
        subst h3
        exact (show Tryd.prog.wantsStandIn 9 = false by kernel_rfl)⟩)
    (by kernel_rfl)

end Go.Proofs.YthnehhidlaggeaaDoor.lawRd
