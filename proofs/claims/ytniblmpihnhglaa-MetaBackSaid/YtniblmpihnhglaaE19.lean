/- Walks: awake of layer 7's statements. -/
import Derived.Test.YtniblmpihnhglaaE18
namespace Go.Proofs.Ytniblmpihnhglaa
open Go.RowKit
set_option linter.unusedVariables false

set_option maxRecDepth 100000 in
theorem awPut (w : World) : Calls Try.prog 40 #[.agg #[.int .u8 1, .int .u64 5, .int .u8 0, .int .u64 0]] w fun x w' => x = .returned (.tuple #[.string ⟨#[1, 0, 0, 0, 5]⟩, .int .i64 0]) ∧ Bl w w' := by
  have h := cput_any 1 5 0 0 w (by decide) (by decide) (by decide) (by decide)
  unfold CPutP cE at h
  rw [if_pos (by decide +kernel), if_pos (by decide +kernel), show strL (changeL 1 5 0 0) = ⟨#[1, 0, 0, 0, 5]⟩ from by kernel_rfl] at h
  exact h
theorem awDoes1 (w : World) : Calls Try.prog 56 #[.int .u8 1, .int .u64 3] w fun x w' => x = .returned (.int .u32 5) ∧ Bl w w' := by
  have h := does_any 1 3 w (by decide) (by decide)
  rw [show (apM ⟨1, 5, 0, 0⟩ ⟨1, 3, 0, 0⟩).s = 5 from by decide +kernel] at h
  exact h
theorem awDoes2 (w : World) : Calls Try.prog 56 #[.int .u8 2, .int .u64 3] w fun x w' => x = .returned (.int .u32 3) ∧ Bl w w' := by
  have h := does_any 2 3 w (by decide) (by decide)
  rw [show (apM ⟨1, 5, 0, 0⟩ ⟨2, 3, 0, 0⟩).s = 3 from by decide +kernel] at h
  exact h
theorem awNone (w : World) : Calls Try.prog 53 #[.agg #[.int .u8 3, .int .u32 0, .int .u64 0, .int .u64 0]] w fun x w' => x = .returned (.bool true) ∧ Bl w w' := by
  have h := none_any ⟨3, 0, 0, 0⟩ w ⟨by decide, by decide, by decide, by decide⟩
  rw [show (!mayX ⟨3, 0, 0, 0⟩) = true from by decide +kernel] at h
  exact h
theorem awFails (w : World) : Calls Try.prog 55 #[.string ⟨#[]⟩, .int .i64 10] w fun x w' => x = .returned (.bool true) ∧ Bl w w' :=
  fails_any [] 10 w (by decide) rfl rfl

set_option maxRecDepth 100000 in
set_option maxHeartbeats 1600000 in
theorem mawake_any (w : World) : Calls Try.prog 39 #[] w fun x w' => x = .returned (.bool true) ∧ Bl w w' := by
  go_enter Try.func39, Try.ntmps39
  go_wp2_with (first
    | (go_at_call 55; refine (awFails _).mono ?_; rintro e w5 ⟨rfl, h⟩; have B5 := Lib.hid h; clear h)
    | (go_at_call 53; refine (awNone _).mono ?_; rintro e w4 ⟨rfl, h⟩; have B4 := Lib.hid h; clear h)
    | (go_at_call_of 56 (Value.int .u8 2); refine (awDoes2 _).mono ?_; rintro e w3 ⟨rfl, h⟩; have B3 := Lib.hid h; clear h)
    | (go_at_call_of 56 (Value.int .u8 1); refine (awDoes1 _).mono ?_; rintro e w2 ⟨rfl, h⟩; have B2 := Lib.hid h; clear h)
    | (go_at_call 40; refine (awPut _).mono ?_; rintro e w1 ⟨rfl, h⟩; have B1 := Lib.hid h; clear h))
  go_ret
  exact ⟨rfl, (((B1.out.trans B2.out).trans B3.out).trans B4.out).trans B5.out⟩
end Go.Proofs.Ytniblmpihnhglaa
