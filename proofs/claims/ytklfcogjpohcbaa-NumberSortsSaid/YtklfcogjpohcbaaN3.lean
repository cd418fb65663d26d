/- Layer 1: the small thing that one knows ('awake') is true. -/
import Derived.Test.YtklfcogjpohcbaaN2
import Derived.Deep.RegionWith
namespace Go.Proofs.Ytklfcogjpohcbaa
open Go.RowKit

theorem aw1 : stepI 4609434218613702656 2 4612248968380809216 = 4615626668101337088 := by decide +kernel
theorem aw2 : stepI 9218868437227405312 2 18442240474082181120 = 9221120237041090561 := by decide +kernel
theorem aw3 : ordI 0 = 9223372036854775808 := by decide +kernel
theorem aw4 : sameB 0 9223372036854775808 = true := by decide +kernel
theorem aw5 : backI 9223372036854775808 = 0 := by decide +kernel

set_option maxHeartbeats 800000 in
theorem awake_any (w : World) : Calls Try.prog 16 #[] w fun e w' => e = .returned (.bool true) ∧ Bl w w' := by
  have h3 := aw3
  have h4 := aw4
  have h5 := aw5
  have c1 := fun w => is_true 4609434218613702656 2 4612248968380809216 4615626668101337088 w (by omega) (by omega) (by omega) (by omega) aw1 rfl
  have c2 := fun w => is_true 9218868437227405312 2 18442240474082181120 9221120237041090561 w (by omega) (by omega) (by omega) (by omega) aw2 rfl
  have C1 := Lib.hid c1
  have C2 := Lib.hid c2
  clear c1 c2
  go_enter Try.func16, Try.ntmps16
  go_wp2_with (first | (go_at_call 21; refine (bits_any _ _).mono ?_; rintro e w' ⟨rfl, rfl⟩) | (go_at_call_of 22 (Value.int IntKind.u64 4609434218613702656); refine (C1.out _).mono ?_; rintro e w1 ⟨rfl, hb1⟩) | (go_at_call_of 22 (Value.int IntKind.u64 9218868437227405312); refine (C2.out _).mono ?_; rintro e w2 ⟨rfl, hb2⟩) | (go_at_call 10; refine (order_any _ _ (by omega) (by omega)).mono ?_; rintro e w' ⟨rfl, rfl⟩) | (go_at_call 17; refine (same_any _ _ _).mono ?_; rintro e w' ⟨rfl, rfl⟩) | (go_at_call 12; refine (back_any _ _ (by omega) (by omega)).mono ?_; rintro e w' ⟨rfl, rfl⟩))
  go_ret
  exact ⟨rfl, Bl.trans (by assumption) (by assumption)⟩
end Go.Proofs.Ytklfcogjpohcbaa
