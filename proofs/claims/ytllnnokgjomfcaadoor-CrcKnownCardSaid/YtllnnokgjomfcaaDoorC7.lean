/- The walk of CrcKnown: the chapter's examples. -/
import Derived.Test.YtllnnokgjomfcaaDoorC6
import Derived.Test.YtllnnokgjomfcaaDoorShelf
namespace Go.Proofs.YtllnnokgjomfcaaDoor
open Go.RowKit
set_option linter.unusedVariables false

/-- 32 times one byte. -/
def reps (c : UInt8) : ByteArray := ⟨(List.replicate 32 c).toArray⟩
theorem repeat_at (c : UInt8) (w : World) : Calls Tryd.prog 16 #[.string ⟨#[c]⟩, .int .i64 32] w fun e w' => e = .returned (.string (reps c)) ∧ Bl w w' := by
  have := Tryd.strings_Repeat ⟨#[c]⟩ 32 w (by omega) (by show 1 * 32 ≤ _; omega)
  exact this
theorem sum_reps0 (w : World) (hw : Fo w) : Calls Tryd.prog 10 #[.string (reps 0)] w fun e w' => e = .returned (.int .u32 2324772522) ∧ w = w' :=
  sum_at (reps 0) 2324772522 (by decide +kernel) (by decide +kernel) w hw
theorem sum_reps255 (w : World) (hw : Fo w) : Calls Tryd.prog 10 #[.string (reps 255)] w fun e w' => e = .returned (.int .u32 1655221059) ∧ w = w' :=
  sum_at (reps 255) 1655221059 (by decide +kernel) (by decide +kernel) w hw

set_option maxRecDepth 100000 in
set_option maxHeartbeats 1600000 in
theorem crcKnown_walk (w : World) (hw : Fo w) : Calls Tryd.prog 8 #[] w fun e w' => e = .returned (.bool true) ∧ Bl w w' := by
  have H := Lib.hid hw
  clear hw
  have S1 : Hid (∀ w, Fo w → Calls Tryd.prog 10 #[.string ⟨#[49, 50, 51, 52]⟩] w fun e w' => e = .returned (.int .u32 4131058926) ∧ w = w') := Lib.hid (sum_at ⟨#[49, 50, 51, 52]⟩ 4131058926 (by decide +kernel) (by decide))
  have S2 : Hid (∀ w, Fo w → Calls Tryd.prog 10 #[.string ⟨#[53, 54, 55, 56, 57]⟩] w fun e w' => e = .returned (.int .u32 2209703384) ∧ w = w') := Lib.hid (sum_at ⟨#[53, 54, 55, 56, 57]⟩ 2209703384 (by decide +kernel) (by decide))
  have U1 : Hid (∀ w, Fo w → Calls Tryd.prog 12 #[.int .u32 4131058926, .string ⟨#[53, 54, 55, 56, 57]⟩] w fun e w' => e = .returned (.int .u32 3808858755) ∧ w = w') := Lib.hid (fun w hw => by
    have := update_any 4131058926 ⟨#[53, 54, 55, 56, 57]⟩ w (by omega) (by decide) hw
    rw [show upd 4131058926 (ByteArray.mk #[53, 54, 55, 56, 57]).data.toList = 3808858755 from by decide +kernel] at this
    exact this)
  have J1 : Hid (∀ w, Fo w → Calls Tryd.prog 14 #[.int .u32 4131058926, .int .u32 2209703384, .int .i64 5] w fun e w' => JPost 3808858755 w e w') := Lib.hid (join_at 4131058926 2209703384 5 3808858755 (by decide +kernel) (by omega) (by omega))
  have J2 : Hid (∀ w, Fo w → Calls Tryd.prog 14 #[.int .u32 7, .int .u32 9, .int .i64 0] w fun e w' => JPost 14 w e w') := Lib.hid (join_at 7 9 0 14 (by decide +kernel) (by omega) (by omega))
  go_enter Tryd.func8, Tryd.ntmps8
  go_wp2_with fail
  refine (S1.out _ H.out).mono ?_
  rintro e w' ⟨rfl, rfl⟩
  go_wp2_with fail
  refine (S2.out _ H.out).mono ?_
  rintro e w' ⟨rfl, rfl⟩
  go_wp2_with fail
  refine (works_any _ H.out).mono ?_
  rintro e w1 ⟨rfl, b1⟩
  have H1 := Lib.hid (H.out.bl b1)
  go_wp2_with fail
  refine (repeat_at 0 _).mono ?_
  rintro e w2 ⟨rfl, b2⟩
  have H2 := Lib.hid (H1.out.bl b2)
  go_wp2_with fail
  refine (sum_reps0 _ H2.out).mono ?_
  rintro e w' ⟨rfl, rfl⟩
  go_wp2_with fail
  refine (repeat_at 255 _).mono ?_
  rintro e w3 ⟨rfl, b3⟩
  have H3 := Lib.hid (H2.out.bl b3)
  go_wp2_with fail
  refine (sum_reps255 _ H3.out).mono ?_
  rintro e w' ⟨rfl, rfl⟩
  go_wp2_with fail
  refine (U1.out _ H3.out).mono ?_
  rintro e w' ⟨rfl, rfl⟩
  go_wp2_with fail
  refine (J1.out _ H3.out).mono ?_
  rintro e w4 ⟨rfl, b4⟩
  have H4 := Lib.hid (H3.out.bl b4)
  go_wp2_with fail
  refine (J2.out _ H4.out).mono ?_
  rintro e w5 ⟨rfl, b5⟩
  have H5 := Lib.hid (H4.out.bl b5)
  go_wp2_with fail
  refine (works_any _ H5.out).mono ?_
  rintro e w6 ⟨rfl, b6⟩
  go_wp2_with fail
  go_ret
  exact ⟨rfl, ((((b1.trans b2).trans b3).trans b4).trans b5).trans b6⟩
end Go.Proofs.YtllnnokgjomfcaaDoor
