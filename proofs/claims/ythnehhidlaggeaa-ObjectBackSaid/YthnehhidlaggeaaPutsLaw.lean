/- ObjectPuts: the walk. -/
import Derived.Test.YthnehhidlaggeaaObjRPut
namespace Go.Proofs.Ythnehhidlaggeaa
set_option linter.unusedVariables false
set_option linter.unusedSimpArgs false
open Go.RowKit Ob

/-- what is told of an object: an error's number, and bytes -/
def putE (o : Ob.Obj) : Int := if mayB o then 0 else 2
def putL (o : Ob.Obj) : List UInt8 := if mayB o then putB o else []
def PutTells (P : Program) (f : FuncId) (obj : Value) (k : Int) (l : List UInt8) (w : World) : Prop :=
  Calls P f #[obj] w fun e w' => ∃ v, e = .returned (.tuple #[v, .int .i64 k]) ∧ Below w.heap.size w w' ∧ BytesIn w' v l
theorem bytesIn_nil (w : World) : BytesIn w (.slice none 0 0) [] := ⟨0, 0, none, rfl, rfl, .inl ⟨rfl, rfl⟩⟩
section
variable (o : Ob.Obj) (pc pd ps pr : Option Addr) (n kn d kd m km r kr : Nat) (mx : Int) (w : World)
theorem oput_any (ho : ObjAt w pc pd ps pr n d m r o) (hmx : w.cell? ⟨0, 0, none⟩ = some (.int .i64 mx)) : PutTells Try.prog 23 (objV pc pd ps pr n kn d kd m km r kr) (putE o) (putL o) w := by
  unfold PutTells putE putL
  by_cases hb : mayB o = true
  · rw [if_pos hb, if_pos hb]
    refine (oput_yes o pc pd ps pr n kn d kd m km r kr mx w ho hmx hb).mono ?_
    rintro e w' ⟨v, rfl, h1, h2⟩
    exact ⟨v, rfl, h1, BytesIn.own h2⟩
  · rw [if_neg hb, if_neg hb]
    refine (oput_no o pc pd ps pr n kn d kd m km r kr mx w ho hmx (by simpa using hb)).mono ?_
    rintro e w' ⟨rfl, h1⟩
    exact ⟨_, rfl, h1, bytesIn_nil _⟩
theorem roput_any (ho : ObjAt w pc pd ps pr n d m r o) : PutTells Try.prog 24 (objV pc pd ps pr n kn d kd m km r kr) (putE o) (putL o) w := by
  unfold PutTells putE putL
  by_cases hb : mayB o = true
  · rw [if_pos hb, if_pos hb]
    exact roput_yes o pc pd ps pr n kn d kd m km r kr w ho hb
  · rw [if_neg hb, if_neg hb]
    refine (roput_no o pc pd ps pr n kn d kd m km r kr w ho (by simpa using hb)).mono ?_
    rintro e w' ⟨rfl, h1⟩
    exact ⟨_, rfl, h1, bytesIn_nil _⟩

set_option maxRecDepth 100000 in
set_option maxHeartbeats 2000000 in
theorem puts_law (ho : ObjAt w pc pd ps pr n d m r o) (hmx : w.cell? ⟨0, 0, none⟩ = some (.int .i64 mx)) :
    Calls Try.prog 7 #[objV pc pd ps pr n kn d kd m km r kr] w fun e w' => e = .returned (.bool true) ∧ Below w.heap.size w w' := by
  obtain ⟨t, ht⟩ : ∃ t, mayB o = t := ⟨_, rfl⟩
  obtain ⟨k, hk⟩ : ∃ k, putE o = k := ⟨_, rfl⟩
  obtain ⟨l, hl⟩ : ∃ l, putL o = l := ⟨_, rfl⟩
  have hlt := lt_of_cell hmx
  have HP : Hid (∀ w', Below w.heap.size w w' → Calls Try.prog 23 #[objV pc pd ps pr n kn d kd m km r kr] w' fun e w'' => ∃ v, e = .returned (.tuple #[v, .int .i64 k]) ∧ Below w'.heap.size w' w'' ∧ BytesIn w'' v l) := fun w' hb => by
    have h := oput_any o pc pd ps pr n kn d kd m km r kr mx w' (ho.below hb) ((hb.cell (p := ⟨0, 0, none⟩) hlt).trans hmx)
    rw [hk, hl] at h
    exact h
  have HR : Hid (∀ w', Below w.heap.size w w' → Calls Try.prog 24 #[objV pc pd ps pr n kn d kd m km r kr] w' fun e w'' => ∃ v, e = .returned (.tuple #[v, .int .i64 k]) ∧ Below w'.heap.size w' w'' ∧ BytesIn w'' v l) := fun w' hb => by
    have h := roput_any o pc pd ps pr n kn d kd m km r kr w' (ho.below hb)
    rw [hk, hl] at h
    exact h
  have HM : Hid (∀ w', Below w.heap.size w w' → Calls Try.prog 25 #[objV pc pd ps pr n kn d kd m km r kr] w' fun e w'' => e = .returned (.bool t) ∧ Below w'.heap.size w' w'') := fun w' hb => by
    have h := omay_any o pc pd ps pr n kn d kd m km r kr mx w' (ho.below hb) ((hb.cell (p := ⟨0, 0, none⟩) hlt).trans hmx)
    rw [ht] at h
    exact h
  have HN : Hid (∀ w', Below w.heap.size w w' → Calls Try.prog 26 #[objV pc pd ps pr n kn d kd m km r kr] w' fun e w'' => e = .returned (.bool t) ∧ Below w'.heap.size w' w'') := fun w' hb => by
    have h := rmayo_any o pc pd ps pr n kn d kd m km r kr w' (ho.below hb)
    rw [ht] at h
    exact h
  clear ht hk hl ho hmx hlt
  unfold objV at HP HR HM HN ⊢
  go_enter Try.func7, Try.ntmps7
  go_wp2_with fail
  refine (HP.out _ ((Below.refl _ _).alloc (Nat.le_refl _) _)).mono ?_
  rintro e w1 ⟨v1, rfl, hb1, hv1⟩
  have hm1 : RMid w w1 #[.slice pc n kn, .slice pd d kd, .slice ps m km, .slice pr r kr] :=
    (⟨(Below.refl _ _).alloc (Nat.le_refl _) _, heap_alloc_new w _⟩ : RMid w (w.alloc (.cells #[.slice pc n kn, .slice pd d kd, .slice ps m km, .slice pr r kr] 60)) #[.slice pc n kn, .slice pd d kd, .slice ps m km, .slice pr r kr]).go hb1
  obtain ⟨y0, y1, y2, y3, yz⟩ := blk4 hm1.box
  have HM1 := Lib.hid hm1
  have HV1 := Lib.hid hv1
  clear hb1 hm1 hv1
  go_wp2_with fail
  refine (HR.out _ HM1.out.below).mono ?_
  rintro e w2 ⟨v2, rfl, hb2, hv2⟩
  have hm2 := HM1.out.go hb2
  have hv1 := HV1.out.below hb2
  clear y0 y1 y2 y3 yz hb2 HM1 HV1
  obtain ⟨y0, y1, y2, y3, yz⟩ := blk4 hm2.box
  have k1 := hv1.run
  have k2 := hv2.run
  have k1d : (convert 61 9 v1).run Try.prog w2.drew = .ok (.string (str l)) w2.drew := BytesIn.run (w := w2.drew) hv1
  have k2d : (convert 61 9 v2).run Try.prog w2.drew = .ok (.string (str l)) w2.drew := BytesIn.run (w := w2.drew) hv2
  have HALL := Lib.hid (And.intro hm2 (And.intro hv1 hv2))
  clear hm2 hv1 hv2
  go_upto_region 3 with fail
  go_region_held3 (fun w' => w'.cell? ⟨w.heap.size, 0, none⟩ = some (.slice pc n kn) ∧ w'.cell? ⟨w.heap.size, 1, none⟩ = some (.slice pd d kd) ∧ w'.cell? ⟨w.heap.size, 2, none⟩ = some (.slice ps m km) ∧ w'.cell? ⟨w.heap.size, 3, none⟩ = some (.slice pr r kr) ∧ (convert 61 9 v1).run Try.prog w' = .ok (.string (str l)) w' ∧ (convert 61 9 v2).run Try.prog w' = .ok (.string (str l)) w') (go_keep) (first | (go_at_call 25; (with_reducible refine (HM.out _ HALL.out.1.below.drew).mono ?_); rintro e w' ⟨rfl, hb⟩; have hall := And.intro (HALL.out.1.go ⟨hb.os, hb.tape, hb.output, hb.size, hb.block⟩) (And.intro (HALL.out.2.1.below ⟨hb.os, hb.tape, hb.output, hb.size, hb.block⟩) (HALL.out.2.2.below ⟨hb.os, hb.tape, hb.output, hb.size, hb.block⟩)); clear y0 y1 y2 y3 yz k1 k2 HALL hb; obtain ⟨y0, y1, y2, y3, yz⟩ := blk4 hall.1.box; have k1 := hall.2.1.run; have k2 := hall.2.2.run; have HALL := Lib.hid hall; clear hall) | (go_at_call 26; (with_reducible refine (HN.out _ HALL.out.1.below).mono ?_); rintro e w' ⟨rfl, hb⟩; have hall := And.intro (HALL.out.1.go ⟨hb.os, hb.tape, hb.output, hb.size, hb.block⟩) (And.intro (HALL.out.2.1.below ⟨hb.os, hb.tape, hb.output, hb.size, hb.block⟩) (HALL.out.2.2.below ⟨hb.os, hb.tape, hb.output, hb.size, hb.block⟩)); clear y0 y1 y2 y3 yz k1 k2 HALL hb; obtain ⟨y0, y1, y2, y3, yz⟩ := blk4 hall.1.box; have k1 := hall.2.1.run; have k2 := hall.2.2.run; have HALL := Lib.hid hall; clear hall))
  all_goals
    go_wp2_with fail
    go_ret
    exact ⟨rfl, HALL.out.1.below⟩
end

end Go.Proofs.Ythnehhidlaggeaa
