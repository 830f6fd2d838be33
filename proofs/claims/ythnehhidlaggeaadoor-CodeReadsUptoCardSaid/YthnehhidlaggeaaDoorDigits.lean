/- scarfjointref2.Digits: the walk. -/
import Derived.Test.YthnehhidlaggeaaDoorKit
import Derived.Test.YthnehhidlaggeaaDoorTextPlain
import Derived.Test.YthnehhidlaggeaaDoorShelf
import Derived.Lib.Hide
import Derived.IntWalk
import Derived.Laws.BytesArg
import Derived.Outline
namespace Go.Proofs.YthnehhidlaggeaaDoor
set_option linter.unusedVariables false
set_option linter.unusedSimpArgs false
open Go.RowKit

def u8V (b : UInt8) : Value := .int .u8 b.toNat
def str (l : List UInt8) : ByteArray := ⟨l.toArray⟩
theorem str_size (l : List UInt8) : (str l).size = l.length := by simp [str, ByteArray.size]
theorem str_list (l : List UInt8) : (str l).data.toList = l := rfl
theorem str_of (s : ByteArray) : str s.data.toList = s := by cases s; simp [str]
theorem str_add (a b : List UInt8) : str a ++ str b = str (a ++ b) := ByteArray.mk_append_mk a b
theorem str_nums (l : List UInt8) : strOfNums (l.map fun b => (b.toNat : Int)) = str l := by
  unfold strOfNums str
  congr 2
  rw [List.map_map]
  refine (List.map_congr_left (g := id) fun b _ => ?_).trans (List.map_id _)
  simp
/-- a []byte that is known, as a string -/
theorem run_str {w : World} {b off len cap : Nat} {l : List UInt8} (hl : l.length = len) (hc : ∀ i (h : i < l.length), w.cell? ⟨b, off + i, none⟩ = some (u8V l[i])) :
    (convert 69 9 (.slice (some ⟨b, off, none⟩) len cap)).run Tryd.prog w = .ok (.string (str l)) w := by
  rw [← str_nums]
  refine run_convert_bytes_arg w _ _ Tryd.underlying69 Tryd.underlying5 b off len cap _ (by simpa using hl) (fun i hi => ?_) _ Tryd.underlying9
  have hi' : i < l.length := by omega
  rw [hc i hi', u8V]
  simp [List.getD, hi']
theorem run_str_add (a b : List UInt8) (w : World) (h : a.length + b.length ≤ 4000000000) : (Op.stringOp .add (str a) (str b)).run Tryd.prog w = .ok (.string (str (a ++ b))) w := by
  rw [run_string_add_sum w _ _ (by rw [str_size, str_size]; omega), str_add]

theorem digit_val (u : Nat) : (Value.int .u8 (48 + (u : Int) % 10)) = u8V (UInt8.ofNat (48 + u % 10)) := by
  unfold u8V
  congr 1
  rw [UInt8.toNat_ofNat']
  omega

set_option maxRecDepth 100000 in
set_option maxHeartbeats 1000000 in
theorem digits_step (u : Nat) (hu : u ≤ 1000000) (ih : ¬ u < 10 → ∀ w, Calls Tryd.prog 19 #[.int .i64 (u / 10 : Nat)] w fun e w' => e = .returned (.string (str (Lib.decDigits (u / 10)))) ∧ Below w.heap.size w w') (w : World) :
    Calls Tryd.prog 19 #[.int .i64 u] w fun e w' => e = .returned (.string (str (Lib.decDigits u))) ∧ Below w.heap.size w w' := by
  obtain ⟨c, hc⟩ : ∃ c, c = UInt8.ofNat (48 + u % 10) := ⟨_, rfl⟩
  have hcv := run_str (w := w.alloc (.cells #[Value.int .u8 (48 + (u : Int) % 10)] 5)) (b := w.heap.size) (off := 0) (len := 1) (cap := 1) (l := [c]) rfl (by
    intro i hi
    rw [Nat.zero_add, cell_of_row _ _ i _ _ _ (heap_alloc_new w _), digit_val, ← hc]
    simp only [List.length_cons, List.length_nil, Nat.zero_add, Nat.lt_one_iff] at hi
    subst hi
    rfl)
  have h48 : IntKind.u8.wrap (48 + (u : Int) % 10) = 48 + (u : Int) % 10 := IntWalk.u8_in _ (by omega)
  by_cases h : u < 10
  · have hd : Lib.decDigits u = [c] := by rw [hc, Lib.decDigits_one h, Nat.mod_eq_of_lt h]
    rw [hd]
    clear hd ih hc
    go_enter Tryd.func19, Tryd.ntmps19
    go_wp2_with fail
    go_ret
    exact ⟨rfl, (Below.refl _ _).alloc (Nat.le_refl _) _⟩
  · have hd : Lib.decDigits u = Lib.decDigits (u / 10) ++ [c] := by rw [hc, Lib.decDigits, dif_neg h]
    have HI := Lib.hid (ih h)
    have hadd := fun w => run_str_add (Lib.decDigits (u / 10)) [c] w (by
      rw [Lib.decDigits_length, List.length_singleton]
      have := Cp.nDigits_le 8 (u / 10) (by omega)
      omega)
    rw [hd]
    clear hd ih hc
    go_enter Tryd.func19, Tryd.ntmps19
    go_wp2_with fail
    refine (HI.out _).mono ?_
    rintro e w1 ⟨rfl, hb⟩
    have HB := Lib.hid (((Below.refl w.heap.size w).alloc (Nat.le_refl _) _).trans (hb.mono (by simp)))
    clear hb
    go_wp2_with fail
    go_ret
    exact ⟨rfl, HB.out⟩

theorem digits_nat (u : Nat) (hu : u ≤ 1000000) : ∀ w, Calls Tryd.prog 19 #[.int .i64 u] w fun e w' => e = .returned (.string (str (Lib.decDigits u))) ∧ Below w.heap.size w w' := by
  induction u using Nat.strongRecOn with
  | _ u ih => exact digits_step u hu (fun h => ih (u / 10) (by omega) (by omega))

set_option maxRecDepth 100000 in
set_option maxHeartbeats 1000000 in
theorem digits_any (n : Int) (h0 : -32768 ≤ n) (h1 : n ≤ 65535) (w : World) :
    Calls Tryd.prog 19 #[.int .i64 n] w fun e w' => e = .returned (.string (str (Lib.itoa n))) ∧ Below w.heap.size w w' := by
  by_cases hn : n < 0
  · have hp := digits_nat n.natAbs (by omega)
    rw [show ((n.natAbs : Nat) : Int) = -n by omega] at hp
    have hl := Cp.itoa_len n h0 h1
    have he : Lib.itoa n = 45 :: Lib.decDigits n.natAbs := by unfold Lib.itoa; rw [if_pos hn]
    rw [he] at hl ⊢
    have hadd := fun w => run_str_add [45] (Lib.decDigits n.natAbs) w (by rw [List.length_cons] at hl; rw [List.length_singleton]; omega)
    have HP := Lib.hid hp
    clear hp he hl
    unfold str at hadd HP ⊢
    go_enter Tryd.func19, Tryd.ntmps19
    go_wp2_with fail
    refine (HP.out _).mono ?_
    rintro e w1 ⟨rfl, hb⟩
    have HB := Lib.hid hb
    clear hb
    go_wp2_with fail
    go_ret
    exact ⟨rfl, HB.out⟩
  · have hp := digits_nat n.toNat (by omega) w
    rw [Int.toNat_of_nonneg (by omega)] at hp
    have he : Lib.itoa n = Lib.decDigits n.toNat := by unfold Lib.itoa; rw [if_neg hn]
    rw [he]
    exact hp

end Go.Proofs.YthnehhidlaggeaaDoor
