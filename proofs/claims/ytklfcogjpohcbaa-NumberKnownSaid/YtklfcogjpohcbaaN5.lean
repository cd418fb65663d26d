/- Layer 1: the walk of NumberKnown: the chapter's examples. -/
import Derived.Test.YtklfcogjpohcbaaN4
namespace Go.Proofs.Ytklfcogjpohcbaa
open Go.RowKit
set_option linter.unusedVariables false

theorem kq1 : quietI 18442240474082181121 = 9221120237041090561 := by decide +kernel
theorem kq2 : quietI 9223372036854775808 = 9223372036854775808 := by decide +kernel
theorem kq3 : quietI 9218868437227405312 = 9218868437227405312 := by decide +kernel
theorem ko1 : ordI 9223372036854775808 = 9223372036854775807 := by decide +kernel
theorem ko2 : ordI 4609434218613702656 = 13832806255468478464 := by decide +kernel
theorem kb1 : backI 9223372036854775807 = 9223372036854775808 := by decide +kernel
theorem ks1 : sameB 9221120237041090561 9221120237041090561 = false := by decide +kernel
theorem ks2 : sameB 1 2 = false := by decide +kernel
theorem ke1 : stepI 5 0 0 = 0 := by decide +kernel
theorem ke2 : stepI 5 6 0 = 0 := by decide +kernel
theorem ke3 : stepE 0 = 2 := by decide +kernel
theorem ke4 : stepE 6 = 2 := by decide +kernel

set_option maxRecDepth 100000 in
set_option maxHeartbeats 1600000 in
theorem numberKnown_walk (w : World) : Calls Try.prog 6 #[] w fun e w' => e = .returned (.bool true) ∧ Bl w w' := by
  have q1 := kq1
  have q2 := kq2
  have q3 := kq3
  have o1 := ko1
  have o2 := ko2
  have b1 := kb1
  have s1 := ks1
  have s2 := ks2
  have e1 := ke1
  have e2 := ke2
  have e3 := ke3
  have e4 := ke4
  go_enter Try.func6, Try.ntmps6
  go_wp2_with (first | (go_at_call 21; refine (bits_any _ _).mono ?_; rintro e w' ⟨rfl, rfl⟩) | (go_at_call 22; refine (is_true _ _ _ _ _ (by omega) (by omega) (by omega) (by omega) (by decide +kernel) (by decide +kernel)).mono ?_; rintro e w1 ⟨rfl, hb1⟩) | (go_at_call 14; refine (quiet_any _ _).mono ?_; rintro e w' ⟨rfl, rfl⟩) | (go_at_call 10; refine (order_any _ _ (by omega) (by omega)).mono ?_; rintro e w' ⟨rfl, rfl⟩) | (go_at_call 17; refine (same_any _ _ _).mono ?_; rintro e w' ⟨rfl, rfl⟩) | (go_at_call 12; refine (back_any _ _ (by omega) (by omega)).mono ?_; rintro e w' ⟨rfl, rfl⟩) | (go_at_call 19; refine (apply_any _ _ _ _ (by omega) (by omega) (by omega) (by omega)).mono ?_; rintro e w1 ⟨rfl, hb1⟩) | (go_at_call 16; refine (awake_any _).mono ?_; rintro e w1 ⟨rfl, hb1⟩))
  go_ret
  refine ⟨rfl, ?_⟩
  repeat (first | assumption | exact Bl.refl _ | refine Bl.trans ?_ (by assumption))
end Go.Proofs.Ytklfcogjpohcbaa
