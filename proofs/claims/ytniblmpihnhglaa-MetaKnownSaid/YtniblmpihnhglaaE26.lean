/- The statement MetaKnown, walked. Printed by gen_e26.py. -/
import Derived.Test.YtniblmpihnhglaaE20
import Derived.Deep.RegionHeldLaw
namespace Go.Proofs.Ytniblmpihnhglaa
open Go.RowKit
set_option linter.unusedVariables false

abbrev Z85x : Obj := .cells #[.int .u8 0, .int .u32 0, .int .u64 0, .int .u64 0] 85
theorem mc_new1 (x : Me) (w : World) (o : Obj) : MC (w.heap.size + 1) x ((w.alloc o).alloc (mO x)) := by rw [← alloc_size w o]; exact mc_new x _

set_option maxRecDepth 100000 in
theorem kPut (w : World) : Calls Try.prog 49 #[.agg #[.int .u8 1, .int .u32 258, .int .u64 0, .int .u64 1]] w fun x w' => x = .returned (.tuple #[.string ⟨#[1, 0, 0, 1, 2, 0, 0, 0, 0, 0, 0, 0, 0, 0, 0, 0, 0, 0, 0, 0, 1]⟩, .int .i64 0]) ∧ Bl w w' := by
  have h := mput_any 1 258 0 1 w (by decide) (by decide) (by decide) (by decide)
  unfold MPutP chk at h
  rw [if_pos (by decide +kernel), if_pos (by decide +kernel), show strL (metaL 1 258 0 1) = ⟨#[1, 0, 0, 1, 2, 0, 0, 0, 0, 0, 0, 0, 0, 0, 0, 0, 0, 0, 0, 0, 1]⟩ from by kernel_rfl] at h
  exact h

theorem kNone0 (w : World) : Calls Try.prog 53 #[.agg #[.int .u8 1, .int .u32 2049, .int .u64 0, .int .u64 0]] w fun x w' => x = .returned (.bool true) ∧ Bl w w' := by
  have h := none_any ⟨1, 2049, 0, 0⟩ w ⟨by decide, by decide, by decide, by decide⟩
  rw [show (!mayX ⟨1, 2049, 0, 0⟩) = true from by decide +kernel] at h
  exact h

theorem kNone1 (w : World) : Calls Try.prog 53 #[.agg #[.int .u8 2, .int .u32 1, .int .u64 0, .int .u64 0]] w fun x w' => x = .returned (.bool true) ∧ Bl w w' := by
  have h := none_any ⟨2, 1, 0, 0⟩ w ⟨by decide, by decide, by decide, by decide⟩
  rw [show (!mayX ⟨2, 1, 0, 0⟩) = true from by decide +kernel] at h
  exact h

theorem kNone2 (w : World) : Calls Try.prog 53 #[.agg #[.int .u8 1, .int .u32 0, .int .u64 9218868437227405313, .int .u64 0]] w fun x w' => x = .returned (.bool true) ∧ Bl w w' := by
  have h := none_any ⟨1, 0, 9218868437227405313, 0⟩ w ⟨by decide, by decide, by decide, by decide⟩
  rw [show (!mayX ⟨1, 0, 9218868437227405313, 0⟩) = true from by decide +kernel] at h
  exact h

theorem kNone3 (w : World) : Calls Try.prog 53 #[.agg #[.int .u8 2, .int .u32 0, .int .u64 9221120237041090561, .int .u64 0]] w fun x w' => x = .returned (.bool false) ∧ Bl w w' := by
  have h := none_any ⟨2, 0, 9221120237041090561, 0⟩ w ⟨by decide, by decide, by decide, by decide⟩
  rw [show (!mayX ⟨2, 0, 9221120237041090561, 0⟩) = false from by decide +kernel] at h
  exact h

theorem kNone4 (w : World) : Calls Try.prog 53 #[.agg #[.int .u8 1, .int .u32 2048, .int .u64 0, .int .u64 0]] w fun x w' => x = .returned (.bool false) ∧ Bl w w' := by
  have h := none_any ⟨1, 2048, 0, 0⟩ w ⟨by decide, by decide, by decide, by decide⟩
  rw [show (!mayX ⟨1, 2048, 0, 0⟩) = false from by decide +kernel] at h
  exact h

set_option maxRecDepth 100000 in
theorem kChange0 (w : World) : Calls Try.prog 40 #[.agg #[.int .u8 3, .int .u64 0, .int .u8 2, .int .u64 4609434218613702656]] w fun x w' => x = .returned (.tuple #[.string ⟨#[3, 2, 63, 248, 0, 0, 0, 0, 0, 0]⟩, .int .i64 0]) ∧ Bl w w' := by
  have h := cput_any 3 0 2 4609434218613702656 w (by decide) (by decide) (by decide) (by decide)
  unfold CPutP cE at h
  rw [if_pos (by decide +kernel), if_pos (by decide +kernel), show strL (changeL 3 0 2 4609434218613702656) = ⟨#[3, 2, 63, 248, 0, 0, 0, 0, 0, 0]⟩ from by kernel_rfl] at h
  exact h

set_option maxRecDepth 100000 in
theorem kChange1 (w : World) : Calls Try.prog 40 #[.agg #[.int .u8 4, .int .u64 7, .int .u8 0, .int .u64 0]] w fun x w' => x = .returned (.tuple #[.string ⟨#[4, 0, 0, 0, 0, 0, 0, 0, 7]⟩, .int .i64 0]) ∧ Bl w w' := by
  have h := cput_any 4 7 0 0 w (by decide) (by decide) (by decide) (by decide)
  unfold CPutP cE at h
  rw [if_pos (by decide +kernel), if_pos (by decide +kernel), show strL (changeL 4 7 0 0) = ⟨#[4, 0, 0, 0, 0, 0, 0, 0, 7]⟩ from by kernel_rfl] at h
  exact h

set_option maxRecDepth 100000 in
theorem kChange2 (w : World) : Calls Try.prog 40 #[.agg #[.int .u8 4, .int .u64 0, .int .u8 1, .int .u64 0]] w fun x w' => x = .returned (.tuple #[.string ⟨#[]⟩, .int .i64 4]) ∧ Bl w w' := by
  have h := cput_any 4 0 1 0 w (by decide) (by decide) (by decide) (by decide)
  unfold CPutP cE at h
  rw [if_neg (by decide +kernel), if_neg (by decide +kernel), show strL [] = ⟨#[]⟩ from by kernel_rfl] at h
  exact h

set_option maxRecDepth 100000 in
theorem kChange3 (w : World) : Calls Try.prog 40 #[.agg #[.int .u8 3, .int .u64 1, .int .u8 1, .int .u64 0]] w fun x w' => x = .returned (.tuple #[.string ⟨#[]⟩, .int .i64 4]) ∧ Bl w w' := by
  have h := cput_any 3 1 1 0 w (by decide) (by decide) (by decide) (by decide)
  unfold CPutP cE at h
  rw [if_neg (by decide +kernel), if_neg (by decide +kernel), show strL [] = ⟨#[]⟩ from by kernel_rfl] at h
  exact h

set_option maxRecDepth 100000 in
theorem kFails0 (w : World) : Calls Try.prog 55 #[.string ⟨#[5]⟩, .int .i64 4] w fun x w' => x = .returned (.bool true) ∧ Bl w w' :=
  fails_any [5] 4 w (by decide) (by unfold cTV; rw [show cOK [5] = false from by decide +kernel]; rfl) (by decide +kernel)

set_option maxRecDepth 100000 in
theorem kFails1 (w : World) : Calls Try.prog 55 #[.string ⟨#[1, 0]⟩, .int .i64 10] w fun x w' => x = .returned (.bool true) ∧ Bl w w' :=
  fails_any [1, 0] 10 w (by decide) (by unfold cTV; rw [show cOK [1, 0] = false from by decide +kernel]; rfl) (by decide +kernel)

set_option maxRecDepth 100000 in
theorem kFails2 (w : World) : Calls Try.prog 55 #[.string ⟨#[1, 0, 0, 8, 1]⟩, .int .i64 4] w fun x w' => x = .returned (.bool true) ∧ Bl w w' :=
  fails_any [1, 0, 0, 8, 1] 4 w (by decide) (by unfold cTV; rw [show cOK [1, 0, 0, 8, 1] = false from by decide +kernel]; rfl) (by decide +kernel)

set_option maxRecDepth 100000 in
theorem kFails3 (w : World) : Calls Try.prog 55 #[.string ⟨#[4, 0, 0, 0, 0, 0, 0, 0, 7, 0]⟩, .int .i64 4] w fun x w' => x = .returned (.bool true) ∧ Bl w w' :=
  fails_any [4, 0, 0, 0, 0, 0, 0, 0, 7, 0] 4 w (by decide) (by unfold cTV; rw [show cOK [4, 0, 0, 0, 0, 0, 0, 0, 7, 0] = false from by decide +kernel]; rfl) (by decide +kernel)

set_option maxRecDepth 100000 in
theorem kFails4 (w : World) : Calls Try.prog 55 #[.string ⟨#[0]⟩, .int .i64 4] w fun x w' => x = .returned (.bool true) ∧ Bl w w' :=
  fails_any [0] 4 w (by decide) (by unfold cTV; rw [show cOK [0] = false from by decide +kernel]; rfl) (by decide +kernel)

set_option maxRecDepth 100000 in
theorem kFails5 (w : World) : Calls Try.prog 55 #[.string ⟨#[3, 6, 63, 248, 0, 0, 0, 0, 0, 0]⟩, .int .i64 4] w fun x w' => x = .returned (.bool true) ∧ Bl w w' :=
  fails_any [3, 6, 63, 248, 0, 0, 0, 0, 0, 0] 4 w (by decide) (by unfold cTV; rw [show cOK [3, 6, 63, 248, 0, 0, 0, 0, 0, 0] = false from by decide +kernel]; rfl) (by decide +kernel)

set_option maxRecDepth 100000 in
theorem kTake0 (w : World) : Calls Try.prog 51 #[.string ⟨#[1, 0, 0, 1, 2, 0, 0, 0, 0, 0, 0, 0, 0, 0, 0, 0, 0, 0, 0, 0]⟩] w fun x w' => x = .returned (.tuple #[.agg #[.int .u8 0, .int .u32 0, .int .u64 0, .int .u64 0], .int .i64 10]) ∧ Bl w w' := by
  have h := take_any [1, 0, 0, 1, 2, 0, 0, 0, 0, 0, 0, 0, 0, 0, 0, 0, 0, 0, 0, 0] w (by decide)
  unfold TakeP tV at h
  rw [show tOK [1, 0, 0, 1, 2, 0, 0, 0, 0, 0, 0, 0, 0, 0, 0, 0, 0, 0, 0, 0] = false from by decide +kernel, show tE [1, 0, 0, 1, 2, 0, 0, 0, 0, 0, 0, 0, 0, 0, 0, 0, 0, 0, 0, 0] = 10 from by decide +kernel] at h
  exact h

set_option maxRecDepth 100000 in
theorem kTake1 (w : World) : Calls Try.prog 51 #[.string ⟨#[1, 0, 0, 1, 2, 0, 0, 0, 0, 0, 0, 0, 0, 0, 0, 0, 0, 0, 0, 0, 1, 0]⟩] w fun x w' => x = .returned (.tuple #[.agg #[.int .u8 0, .int .u32 0, .int .u64 0, .int .u64 0], .int .i64 4]) ∧ Bl w w' := by
  have h := take_any [1, 0, 0, 1, 2, 0, 0, 0, 0, 0, 0, 0, 0, 0, 0, 0, 0, 0, 0, 0, 1, 0] w (by decide)
  unfold TakeP tV at h
  rw [show tOK [1, 0, 0, 1, 2, 0, 0, 0, 0, 0, 0, 0, 0, 0, 0, 0, 0, 0, 0, 0, 1, 0] = false from by decide +kernel, show tE [1, 0, 0, 1, 2, 0, 0, 0, 0, 0, 0, 0, 0, 0, 0, 0, 0, 0, 0, 0, 1, 0] = 4 from by decide +kernel] at h
  exact h

theorem kApply0 (w : World) : Calls Try.prog 45 #[.agg #[.int .u8 1, .int .u32 5, .int .u64 0, .int .u64 0], .agg #[.int .u8 3, .int .u64 0, .int .u8 1, .int .u64 9218868437227405313]] w fun x w' => x = .returned (.agg #[.int .u8 1, .int .u32 5, .int .u64 9221120237041090561, .int .u64 0]) ∧ Bl w w' := by
  have h := apply_on ⟨1, 5, 0, 0⟩ ⟨3, 0, 1, 9218868437227405313⟩ w ⟨by decide, by decide, by decide, by decide⟩ ⟨by decide, by decide, by decide, by decide⟩
  unfold ApP at h
  rw [show apM ⟨1, 5, 0, 0⟩ ⟨3, 0, 1, 9218868437227405313⟩ = ⟨1, 5, 9221120237041090561, 0⟩ from by
    unfold apM apW
    rw [if_pos (by decide +kernel), if_neg (by decide), if_neg (by decide), if_pos rfl, show (stepI ((0 : Nat) : Int) ((1 : Nat) : Int) ((9218868437227405313 : Nat) : Int)).toNat = 9221120237041090561 from by decide +kernel]] at h
  exact h
theorem kApply1 (w : World) : Calls Try.prog 45 #[.agg #[.int .u8 2, .int .u32 0, .int .u64 0, .int .u64 0], .agg #[.int .u8 2, .int .u64 9, .int .u8 0, .int .u64 0]] w fun x w' => x = .returned (.agg #[.int .u8 2, .int .u32 0, .int .u64 0, .int .u64 0]) ∧ Bl w w' := by
  have h := apply_on ⟨2, 0, 0, 0⟩ ⟨2, 9, 0, 0⟩ w ⟨by decide, by decide, by decide, by decide⟩ ⟨by decide, by decide, by decide, by decide⟩
  unfold ApP at h
  rw [show apM ⟨2, 0, 0, 0⟩ ⟨2, 9, 0, 0⟩ = ⟨2, 0, 0, 0⟩ from by
    unfold apM apW
    rw [if_pos (by decide +kernel), if_neg (by decide), if_pos rfl, if_neg (by decide)]] at h
  exact h

theorem kDoes0 (w : World) : Calls Try.prog 56 #[.int .u8 1, .int .u64 9] w fun x w' => x = .returned (.int .u32 9) ∧ Bl w w' := by
  have h := does_any 1 9 w (by decide) (by decide)
  rw [show (apM ⟨1, 5, 0, 0⟩ ⟨1, 9, 0, 0⟩).s = 9 from by decide +kernel] at h
  exact h

theorem kDoes1 (w : World) : Calls Try.prog 56 #[.int .u8 2, .int .u64 9] w fun x w' => x = .returned (.int .u32 9) ∧ Bl w w' := by
  have h := does_any 2 9 w (by decide) (by decide)
  rw [show (apM ⟨1, 5, 0, 0⟩ ⟨2, 9, 0, 0⟩).s = 9 from by decide +kernel] at h
  exact h

theorem kDoes2 (w : World) : Calls Try.prog 56 #[.int .u8 1, .int .u64 2049] w fun x w' => x = .returned (.int .u32 5) ∧ Bl w w' := by
  have h := does_any 1 2049 w (by decide) (by decide)
  rw [show (apM ⟨1, 5, 0, 0⟩ ⟨1, 2049, 0, 0⟩).s = 5 from by decide +kernel] at h
  exact h

set_option maxRecDepth 100000 in
set_option maxHeartbeats 6400000 in
theorem metaKnown_on (w : World) : Calls Try.prog 12 #[] w fun x w' => x = .returned (.bool true) ∧ Bl w w' := by
  have ad1 : (⟨#[4, 0, 0, 0, 0, 0, 0, 0, 7]⟩ : ByteArray) ++ ⟨#[0]⟩ = ⟨#[4, 0, 0, 0, 0, 0, 0, 0, 7, 0]⟩ := by kernel_rfl
  have ad2 : (⟨#[3, 6]⟩ : ByteArray) ++ ⟨#[63, 248, 0, 0, 0, 0, 0, 0]⟩ = ⟨#[3, 6, 63, 248, 0, 0, 0, 0, 0, 0]⟩ := by kernel_rfl
  have ad3 : (⟨#[1, 0, 0, 1, 2, 0, 0, 0, 0, 0, 0, 0, 0, 0, 0, 0, 0, 0, 0, 0, 1]⟩ : ByteArray) ++ ⟨#[0]⟩ = ⟨#[1, 0, 0, 1, 2, 0, 0, 0, 0, 0, 0, 0, 0, 0, 0, 0, 0, 0, 0, 0, 1, 0]⟩ := by kernel_rfl
  have ex1 : (⟨#[3, 2, 63, 248, 0, 0, 0, 0, 0, 0]⟩ : ByteArray).extract 2 10 = ⟨#[63, 248, 0, 0, 0, 0, 0, 0]⟩ := by kernel_rfl
  have ex2 : (⟨#[1, 0, 0, 1, 2, 0, 0, 0, 0, 0, 0, 0, 0, 0, 0, 0, 0, 0, 0, 0, 1]⟩ : ByteArray).extract 0 20 = ⟨#[1, 0, 0, 1, 2, 0, 0, 0, 0, 0, 0, 0, 0, 0, 0, 0, 0, 0, 0, 0]⟩ := by kernel_rfl
  have N : Hid (Bl w w) := Lib.hid (Bl.refl w)
  go_enter Try.func12, Try.ntmps12
  go_wp2_with (first
    | (go_at_call 40; (with_reducible refine (kChange0 _).mono ?_); rintro e v1 ⟨rfl, h⟩; have N : Hid (Bl w v1) := Lib.hid (by first | exact N.out.trans h | exact (N.out.alloc _).trans h | exact ((N.out.alloc _).alloc _).trans h); clear h)
    | (go_at_call 40; (with_reducible refine (kChange1 _).mono ?_); rintro e v2 ⟨rfl, h⟩; have N : Hid (Bl w v2) := Lib.hid (by first | exact N.out.trans h | exact (N.out.alloc _).trans h | exact ((N.out.alloc _).alloc _).trans h); clear h)
    | (go_at_call 40; (with_reducible refine (kChange2 _).mono ?_); rintro e v3 ⟨rfl, h⟩; have N : Hid (Bl w v3) := Lib.hid (by first | exact N.out.trans h | exact (N.out.alloc _).trans h | exact ((N.out.alloc _).alloc _).trans h); clear h)
    | (go_at_call 40; (with_reducible refine (kChange3 _).mono ?_); rintro e v4 ⟨rfl, h⟩; have N : Hid (Bl w v4) := Lib.hid (by first | exact N.out.trans h | exact (N.out.alloc _).trans h | exact ((N.out.alloc _).alloc _).trans h); clear h)
    | (go_at_call 55; (with_reducible refine (kFails0 _).mono ?_); rintro e v5 ⟨rfl, h⟩; have N : Hid (Bl w v5) := Lib.hid (by first | exact N.out.trans h | exact (N.out.alloc _).trans h | exact ((N.out.alloc _).alloc _).trans h); clear h)
    | (go_at_call 55; (with_reducible refine (kFails1 _).mono ?_); rintro e v6 ⟨rfl, h⟩; have N : Hid (Bl w v6) := Lib.hid (by first | exact N.out.trans h | exact (N.out.alloc _).trans h | exact ((N.out.alloc _).alloc _).trans h); clear h)
    | (go_at_call 55; (with_reducible refine (kFails2 _).mono ?_); rintro e v7 ⟨rfl, h⟩; have N : Hid (Bl w v7) := Lib.hid (by first | exact N.out.trans h | exact (N.out.alloc _).trans h | exact ((N.out.alloc _).alloc _).trans h); clear h)
    | (go_at_call 55; (with_reducible refine (kFails3 _).mono ?_); rintro e v8 ⟨rfl, h⟩; have N : Hid (Bl w v8) := Lib.hid (by first | exact N.out.trans h | exact (N.out.alloc _).trans h | exact ((N.out.alloc _).alloc _).trans h); clear h)
    | (go_at_call 55; (with_reducible refine (kFails4 _).mono ?_); rintro e v9 ⟨rfl, h⟩; have N : Hid (Bl w v9) := Lib.hid (by first | exact N.out.trans h | exact (N.out.alloc _).trans h | exact ((N.out.alloc _).alloc _).trans h); clear h)
    | (go_at_call 55; (with_reducible refine (kFails5 _).mono ?_); rintro e v10 ⟨rfl, h⟩; have N : Hid (Bl w v10) := Lib.hid (by first | exact N.out.trans h | exact (N.out.alloc _).trans h | exact ((N.out.alloc _).alloc _).trans h); clear h)
    | (go_at_call 51; (with_reducible refine (kTake0 _).mono ?_); rintro e v11 ⟨rfl, h⟩; have N : Hid (Bl w v11) := Lib.hid (by first | exact N.out.trans h | exact (N.out.alloc _).trans h | exact ((N.out.alloc _).alloc _).trans h); clear h)
    | (go_at_call 51; (with_reducible refine (kTake1 _).mono ?_); rintro e v12 ⟨rfl, h⟩; have N : Hid (Bl w v12) := Lib.hid (by first | exact N.out.trans h | exact (N.out.alloc _).trans h | exact ((N.out.alloc _).alloc _).trans h); clear h)
    | (go_at_call 45; (with_reducible refine (kApply0 _).mono ?_); rintro e v13 ⟨rfl, h⟩; have N : Hid (Bl w v13) := Lib.hid (by first | exact N.out.trans h | exact (N.out.alloc _).trans h | exact ((N.out.alloc _).alloc _).trans h); have D13 := Lib.hid (D12.out.bl h); clear h)
    | (go_at_call 53; (with_reducible refine (kNone0 _).mono ?_); rintro e v14 ⟨rfl, h⟩; have N : Hid (Bl w v14) := Lib.hid (by first | exact N.out.trans h | exact (N.out.alloc _).trans h | exact ((N.out.alloc _).alloc _).trans h); clear h)
    | (go_at_call 53; (with_reducible refine (kNone1 _).mono ?_); rintro e v15 ⟨rfl, h⟩; have N : Hid (Bl w v15) := Lib.hid (by first | exact N.out.trans h | exact (N.out.alloc _).trans h | exact ((N.out.alloc _).alloc _).trans h); clear h)
    | (go_at_call 53; (with_reducible refine (kNone2 _).mono ?_); rintro e v16 ⟨rfl, h⟩; have N : Hid (Bl w v16) := Lib.hid (by first | exact N.out.trans h | exact (N.out.alloc _).trans h | exact ((N.out.alloc _).alloc _).trans h); clear h)
    | (go_at_call 53; (with_reducible refine (kNone3 _).mono ?_); rintro e v17 ⟨rfl, h⟩; have N : Hid (Bl w v17) := Lib.hid (by first | exact N.out.trans h | exact (N.out.alloc _).trans h | exact ((N.out.alloc _).alloc _).trans h); clear h)
    | (go_at_call 53; (with_reducible refine (kNone4 _).mono ?_); rintro e v18 ⟨rfl, h⟩; have N : Hid (Bl w v18) := Lib.hid (by first | exact N.out.trans h | exact (N.out.alloc _).trans h | exact ((N.out.alloc _).alloc _).trans h); clear h)
    | (go_at_call 49; (with_reducible refine (kPut _).mono ?_); rintro e v19 ⟨rfl, h⟩; have N : Hid (Bl w v19) := Lib.hid (by first | exact N.out.trans h | exact (N.out.alloc _).trans h | exact ((N.out.alloc _).alloc _).trans h); clear h)
    | (go_at_call 54; refine (file_any _ _).mono ?_; rintro e v0 ⟨rfl, h⟩; have N : Hid (Bl w v0) := Lib.hid (by first | exact N.out.trans h | exact (N.out.alloc _).trans h | exact ((N.out.alloc _).alloc _).trans h); (try (have D12 := Lib.hid ((mc_new1 ⟨2, 0, 0, 0⟩ v12 Z85x).bl h))); clear h))
  have K1 : Hid (MC (v12.heap.size + 1) ⟨2, 0, 0, 0⟩ (v13.alloc (mO ⟨1, 5, 9221120237041090561, 0⟩))) := Lib.hid (D13.out.alloc _)
  have K2 : Hid (MC v13.heap.size ⟨1, 5, 9221120237041090561, 0⟩ (v13.alloc (mO ⟨1, 5, 9221120237041090561, 0⟩))) := Lib.hid (mc_new _ v13)
  have N1 : Hid (Bl w (v13.alloc (mO ⟨1, 5, 9221120237041090561, 0⟩))) := Lib.hid (N.out.alloc _)
  generalize hV : v13.alloc (.cells #[.int .u8 1, .int .u32 5, .int .u64 9221120237041090561, .int .u64 0] 85) = V
  have hV' : v13.alloc (mO ⟨1, 5, 9221120237041090561, 0⟩) = V := hV
  rw [hV'] at K1 K2 N1
  clear hV hV'
  have KS : Hid (∀ w', Bl V w' → (((w'.cell? ⟨v12.heap.size + 1, 0, none⟩ = some (.int .u8 2) ∧ w'.cell? ⟨v12.heap.size + 1, 1, none⟩ = some (.int .u32 0) ∧ w'.cell? ⟨v12.heap.size + 1, 2, none⟩ = some (.int .u64 0) ∧ w'.cell? ⟨v12.heap.size + 1, 3, none⟩ = some (.int .u64 0)) ∧
  (w'.cell? ⟨v13.heap.size, 1, none⟩ = some (.int .u32 5) ∧ w'.cell? ⟨v13.heap.size, 2, none⟩ = some (.int .u64 9221120237041090561))) ∧ Bl V w')) := Lib.hid (fun w' hb => by
    obtain ⟨a0, a1, a2, a3, _⟩ := four_cells (K1.out.bl hb)
    obtain ⟨b0, b1, b2, b3, _⟩ := four_cells (K2.out.bl hb)
    exact ⟨⟨⟨a0, a1, a2, a3⟩, b1, b2⟩, hb⟩)
  go_region_held_law (fun w' => ((w'.cell? ⟨v12.heap.size + 1, 0, none⟩ = some (.int .u8 2) ∧ w'.cell? ⟨v12.heap.size + 1, 1, none⟩ = some (.int .u32 0) ∧ w'.cell? ⟨v12.heap.size + 1, 2, none⟩ = some (.int .u64 0) ∧ w'.cell? ⟨v12.heap.size + 1, 3, none⟩ = some (.int .u64 0)) ∧
  (w'.cell? ⟨v13.heap.size, 1, none⟩ = some (.int .u32 5) ∧ w'.cell? ⟨v13.heap.size, 2, none⟩ = some (.int .u64 9221120237041090561))) ∧ Bl V w')
    (first
      | assumption
      | exact KS.out _ (Bl.refl V).drew
      | exact KS.out _ (Bl.trans (And.right (by assumption)) (by assumption)))
    (first
      | (go_at_call 39; refine (mawake_any _).mono ?_; rintro e w' ⟨rfl, hb⟩)
      | (go_at_call 45; refine (kApply1 _).mono ?_; rintro e w' ⟨rfl, hb⟩)
      | (go_at_call 56; (with_reducible refine (kDoes0 _).mono ?_); rintro e w' ⟨rfl, hb⟩)
      | (go_at_call 56; (with_reducible refine (kDoes1 _).mono ?_); rintro e w' ⟨rfl, hb⟩)
      | (go_at_call 56; (with_reducible refine (kDoes2 _).mono ?_); rintro e w' ⟨rfl, hb⟩))
  all_goals go_wp2_with fail
  all_goals go_ret
  all_goals exact ⟨rfl, N1.out.trans (And.right (by assumption))⟩
theorem metaKnown_walk (w : World) : Calls Try.prog 12 #[] w fun x w' => x = .returned (.bool true) ∧ Bl w w' := metaKnown_on w
end Go.Proofs.Ytniblmpihnhglaa

