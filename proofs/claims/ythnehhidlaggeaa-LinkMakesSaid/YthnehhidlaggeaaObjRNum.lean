/- scarfjointref17: four, counted: the walks. -/
import Derived.Test.YthnehhidlaggeaaObjNum
import Derived.Test.YthnehhidlaggeaaRw1
import Derived.IntWalk
import Derived.Laws.BytesArg
namespace Go.Proofs.Ythnehhidlaggeaa
set_option linter.unusedVariables false
set_option linter.unusedSimpArgs false
open Go.RowKit Ob

def str (l : List UInt8) : ByteArray := ⟨l.toArray⟩
theorem str_size (l : List UInt8) : (str l).size = l.length := by simp [str, ByteArray.size]
theorem str_list (l : List UInt8) : (str l).data.toList = l := rfl
theorem str_of (s : ByteArray) : str s.data.toList = s := by cases s; simp [str]
theorem str_add (a b : List UInt8) : str a ++ str b = str (a ++ b) := ByteArray.mk_append_mk a b
theorem str_nums (l : List UInt8) : strOfNums (l.map fun b => (b.toNat : Int)) = str l := by
  unfold strOfNums str
  congr 2
  rw [List.map_map]
  refine (List.map_congr_left (g := id) fun b _ => ?_).trans (List.map_id _)
  simp
/-- a []byte that is known, as a string -/
theorem run_str {w : World} {b off len cap : Nat} {l : List UInt8} (hl : l.length = len) (hc : ∀ i (h : i < l.length), w.cell? ⟨b, off + i, none⟩ = some (u8V l[i])) :
    (convert 61 9 (.slice (some ⟨b, off, none⟩) len cap)).run Try.prog w = .ok (.string (str l)) w := by
  rw [← str_nums]
  refine run_convert_bytes_arg w _ _ Try.underlying61 Try.underlying5 b off len cap _ (by simpa using hl) (fun i hi => ?_) _ Try.underlying9
  have hi' : i < l.length := by omega
  rw [hc i hi', u8V]
  simp [List.getD, hi']
/-- bytes of a row of the call's own, as a string -/
theorem run_str_own {w : World} {B : Nat} {v : Value} {l : List UInt8} {n : Nat} (h : w.ownsRow B 5 1 v n (l.map u8V)) : (convert 61 9 v).run Try.prog w = .ok (.string (str l)) w := by
  have hl := h.1
  rw [List.length_map, Nat.mul_one] at hl
  have hc := fun g => h.cells (g := g)
  rcases h.2 with ⟨rfl, rfl⟩ | ⟨g, cap, cur, rfl, _⟩
  · have : l = [] := List.eq_nil_of_length_eq_zero hl
    subst this
    exact run_convert_bytes_nil w _ _ Try.underlying61 Try.underlying5 0 0 _ Try.underlying9
  · refine run_str (off := 0) hl fun i hi => ?_
    have := hc g rfl i (u8V l[i]) (by simp [hi])
    rw [Nat.zero_add]
    rwa [add_at] at this
theorem run_str_add (a b : List UInt8) (w : World) (h : a.length + b.length ≤ 4000000000) : (Op.stringOp .add (str a) (str b)).run Try.prog w = .ok (.string (str (a ++ b))) w := by
  rw [run_string_add_sum w _ _ (by rw [str_size, str_size]; omega), str_add]
theorem four_cells (n : Int) (h0 : 0 ≤ n) (h1 : n ≤ 4294967295) : #[Value.int .u8 (n / 16777216), Value.int .u8 (n / 65536 % 256), Value.int .u8 (n / 256 % 256), Value.int .u8 (n % 256)] = ((be4 n).map u8V).toArray := by
  rw [← be4_cells, show n / 16777216 % 256 = n / 16777216 by omega]

set_option maxRecDepth 100000 in
set_option maxHeartbeats 1000000 in
theorem four_any (n : Int) (w : World) (h0 : 0 ≤ n) (h1 : n ≤ 4294967295) :
    Calls Try.prog 45 #[.int .i64 n] w fun e w' => e = .returned (.string (str (be4 n))) ∧ Below w.heap.size w w' := by
  have hcv := run_str (w := w.alloc (.cells #[Value.int .u8 (n / 16777216), Value.int .u8 (n / 65536 % 256), Value.int .u8 (n / 256 % 256), Value.int .u8 (n % 256)] 5)) (b := w.heap.size) (off := 0) (len := 4) (cap := 4) (l := be4 n) rfl (by
    intro i hi
    rw [Nat.zero_add, cell_of_row _ _ i _ _ _ (heap_alloc_new w _), four_cells n h0 h1]
    simp [hi])
  go_enter Try.func45, Try.ntmps45
  go_wp2_with fail
  go_ret
  exact ⟨rfl, (Below.refl _ _).alloc (Nat.le_refl _) _⟩

set_option maxRecDepth 100000 in
set_option maxHeartbeats 1000000 in
theorem counted_any (n : Nat) (s : ByteArray) (w : World) (h1 : n ≤ 4294967295) (hl : s.size ≤ 1000000000) :
    Calls Try.prog 47 #[.int .i64 n, .string s] w fun e w' => e = .returned (.string (str (be4 n ++ s.data.toList))) ∧ Below w.heap.size w w' := by
  have hadd := fun w => run_str_add (be4 n) s.data.toList w (by rw [be4_len, size_data]; omega)
  rw [str_of] at hadd
  go_enter Try.func47, Try.ntmps47
  go_wp2_with fail
  refine (four_any n w (by omega) (by omega)).mono ?_
  rintro e w1 ⟨rfl, hb⟩
  have HB := Lib.hid hb
  clear hb
  go_wp2_with fail
  go_ret
  exact ⟨rfl, HB.out⟩

end Go.Proofs.Ythnehhidlaggeaa
