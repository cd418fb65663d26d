/- Layer 1: the walk of NumberWhole. -/
import Derived.Test.YtklfcogjpohcbaaN4
import Derived.Test.YtklfcogjpohcbaaF1
namespace Go.Proofs.Ytklfcogjpohcbaa
open Go.RowKit
set_option linter.unusedVariables false

theorem quiet_word (neg : Bool) (m : Nat) (h : m < 9007199254740992) : quietI (Ieee.double.word neg (wrung m) : Nat) = (Ieee.double.word neg (wrung m) : Nat) := by
  unfold quietI nanI
  rw [Int.toNat_natCast, word_nan neg m h]
  rfl
theorem word_u64 (neg : Bool) (m : Nat) (h : m < 9007199254740992) : Ieee.double.word neg (wrung m) < 18446744073709551616 := by
  have := wrung_lt m h
  unfold Ieee.Format.word
  rw [dbl_sign]
  split <;> omega
theorem arith_sum (x y : Int) (hx : x.natAbs < 67108864) (hy : y.natAbs < 67108864) : stepI (floatOfInt .f64 x : Nat) 2 (floatOfInt .f64 y : Nat) = (floatOfInt .f64 (x + y) : Nat) := by
  show arithN .add _ _ = _
  unfold arithN
  rw [Int.toNat_natCast, Int.toNat_natCast]
  have h : floatBits .add .f64 (floatOfInt .f64 x) (floatOfInt .f64 y) = some (fI (x + y)) := add_whole x y (by omega) (by omega)
  rw [h]
  show quietI (fI (x + y) : Nat) = (fI (x + y) : Nat)
  rw [fI_word _ (by omega), quiet_word _ _ (by omega)]
theorem prod_lt (x y : Int) (hx : x.natAbs < 67108864) (hy : y.natAbs < 67108864) : x.natAbs * y.natAbs < 4503599627370496 := by
  rcases Nat.eq_zero_or_pos x.natAbs with h | h
  · rw [h]; omega
  · calc x.natAbs * y.natAbs < x.natAbs * 67108864 := Nat.mul_lt_mul_of_pos_left hy h
      _ ≤ 67108864 * 67108864 := Nat.mul_le_mul_right _ (by omega)
def prodW (x y : Int) : Nat := Ieee.double.word (decide (x < 0) ^^ decide (y < 0)) (wrung (x * y).natAbs)
theorem arith_prod (x y : Int) (hx : x.natAbs < 67108864) (hy : y.natAbs < 67108864) : stepI (floatOfInt .f64 x : Nat) 5 (floatOfInt .f64 y : Nat) = (prodW x y : Nat) := by
  have hp := prod_lt x y hx hy
  show arithN .mul _ _ = _
  unfold arithN
  rw [Int.toNat_natCast, Int.toNat_natCast]
  have h : floatBits .mul .f64 (floatOfInt .f64 x) (floatOfInt .f64 y) = some (prodW x y) := mul_whole x y (by omega) (by omega) (by omega)
  rw [h]
  show quietI (prodW x y : Nat) = (prodW x y : Nat)
  exact quiet_word _ _ (by rw [Int.natAbs_mul]; omega)
theorem same_sum (v : Int) (h : v.natAbs < 9007199254740992) : sameB (floatOfInt .f64 v : Nat) (floatOfInt .f64 v : Nat) = true := by
  show sameB (fI v : Nat) (fI v : Nat) = true
  rw [fI_word v h]
  unfold sameB nanI
  rw [Int.toNat_natCast, word_nan _ _ h]
  simp
theorem same_prod (x y : Int) (hx : x.natAbs < 67108864) (hy : y.natAbs < 67108864) : sameB (prodW x y : Nat) (floatOfInt .f64 (x * y) : Nat) = true := by
  have hp := prod_lt x y hx hy
  have hm : (x * y).natAbs < 9007199254740992 := by rw [Int.natAbs_mul]; omega
  show sameB (prodW x y : Nat) (fI (x * y) : Nat) = true
  unfold prodW
  rw [fI_word _ hm]
  unfold sameB nanI
  rw [Int.toNat_natCast, Int.toNat_natCast, word_nan _ _ hm, word_nan _ _ hm, rk_word _ _ hm, rk_word _ _ hm]
  simp only [Bool.not_false, Bool.true_and, decide_eq_true_eq]
  by_cases hz : x * y = 0
  · rw [hz, show wrung (0 : Int).natAbs = 0 from rfl]; split <;> rfl
  · have hx0 : x ≠ 0 := fun e => hz (by rw [e, Int.zero_mul])
    have hy0 : y ≠ 0 := fun e => hz (by rw [e, Int.mul_zero])
    have hs : (decide (x < 0) ^^ decide (y < 0)) = decide (x * y < 0) := by
      rcases Int.lt_or_gt_of_ne hx0 with a | a <;> rcases Int.lt_or_gt_of_ne hy0 with b | b
      · have := Int.mul_pos_of_neg_of_neg a b
        simp [a, b]; omega
      · have := Int.mul_neg_of_neg_of_pos a b
        simp [a, this]; omega
      · have := Int.mul_neg_of_pos_of_neg a b
        simp [b, this]; omega
      · have := Int.mul_pos a b
        have h1 : ¬ x < 0 := by omega
        have h2 : ¬ y < 0 := by omega
        have h3 : ¬ x * y < 0 := by omega
        simp [h1, h2, h3]
    rw [hs]
    simp only [decide_eq_true_eq]

set_option maxRecDepth 100000 in
set_option maxHeartbeats 800000 in
theorem numberWhole_walk (a : Int) (wa : (Lit.int .i32 a).wf = true) (b : Int) (wb : (Lit.int .i32 b).wf = true) (w : World) :
    Calls Try.prog 9 #[.int .i32 a, .int .i32 b] w fun e w' => e = .returned (.bool true) ∧ Bl w w' := by
  have ha : -2147483648 ≤ a ∧ a ≤ 2147483647 := by simpa [Lit.wf, IntKind.min, IntKind.max, IntKind.signed, IntKind.bits] using wa
  have hb : -2147483648 ≤ b ∧ b ≤ 2147483647 := by simpa [Lit.wf, IntKind.min, IntKind.max, IntKind.signed, IntKind.bits] using wb
  clear wa wb
  obtain ⟨a0, a1⟩ := ha
  obtain ⟨b0, b1⟩ := hb
  have ta := Int.tmod_lt_of_pos a (show (0 : Int) < 67108864 by omega)
  have ta' := Int.lt_tmod_of_pos a (show (0 : Int) < 67108864 by omega)
  have tb := Int.tmod_lt_of_pos b (show (0 : Int) < 67108864 by omega)
  have tb' := Int.lt_tmod_of_pos b (show (0 : Int) < 67108864 by omega)
  go_enter Try.func9, Try.ntmps9
  go_wp2_with fail
  generalize a.tmod 67108864 = x at *
  generalize b.tmod 67108864 = y at *
  have hx : x.natAbs < 67108864 := by omega
  have hy : y.natAbs < 67108864 := by omega
  have hp := prod_lt x y hx hy
  have m0 : -4503599627370496 < x * y := by have : (x * y).natAbs < 4503599627370496 := by rw [Int.natAbs_mul]; exact hp
                                            omega
  have m1 : x * y < 4503599627370496 := by have : (x * y).natAbs < 4503599627370496 := by rw [Int.natAbs_mul]; exact hp
                                           omega
  have lt : ∀ v : Int, v.natAbs < 9007199254740992 → ((floatOfInt .f64 v : Nat) : Int) < 18446744073709551616 := by
    intro v hv
    have := word_u64 (decide (v < 0)) v.natAbs hv
    rw [← fI_word v hv] at this
    have e : fI v = floatOfInt .f64 v := rfl
    omega
  have lx := lt x (by omega)
  have ly := lt y (by omega)
  clear lt hp
  have A1 : Hid (∀ w, Calls Try.prog 19 #[.int .u64 (floatOfInt .f64 x : Nat), .agg #[.int .u8 2, .int .u64 (floatOfInt .f64 y : Nat)]] w fun e w' => AT (floatOfInt .f64 (x + y) : Nat) 0 w e w') := Lib.hid (fun w => by
    have := apply_any (floatOfInt .f64 x : Nat) 2 (floatOfInt .f64 y : Nat) w (by omega) lx (by omega) ly
    rw [arith_sum x y hx hy] at this; exact this)
  have A2 : Hid (∀ w, Calls Try.prog 19 #[.int .u64 (floatOfInt .f64 x : Nat), .agg #[.int .u8 5, .int .u64 (floatOfInt .f64 y : Nat)]] w fun e w' => AT (prodW x y : Nat) 0 w e w') := Lib.hid (fun w => by
    have := apply_any (floatOfInt .f64 x : Nat) 5 (floatOfInt .f64 y : Nat) w (by omega) lx (by omega) ly
    rw [arith_prod x y hx hy] at this; exact this)
  have s1 := same_sum (x + y) (by omega)
  have s2 := same_prod x y hx hy
  clear hx hy lx ly
  go_wp2_with (first | (go_at_call 21; refine (bits_any _ _).mono ?_; rintro e w' ⟨rfl, rfl⟩) | (go_at_call_of 19 (Value.int IntKind.u8 2); refine (A1.out _).mono ?_; rintro e w1 ⟨rfl, hb1⟩) | (go_at_call_of 19 (Value.int IntKind.u8 5); refine (A2.out _).mono ?_; rintro e w1 ⟨rfl, hb1⟩) | (go_at_call 17; refine (same_any _ _ _).mono ?_; rintro e w' ⟨rfl, rfl⟩) | (go_at_call 16; refine (awake_any _).mono ?_; rintro e w1 ⟨rfl, hb1⟩))
  go_ret
  refine ⟨rfl, ?_⟩
  repeat (first | assumption | exact Bl.refl _ | refine Bl.trans ?_ (by assumption))
end Go.Proofs.Ytklfcogjpohcbaa
