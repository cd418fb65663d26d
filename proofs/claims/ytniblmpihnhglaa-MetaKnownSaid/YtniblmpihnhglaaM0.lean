/- Walks of the functions of layer 1 (number) and of its reference: what each returns, as plain functions of numbers. -/
import Derived.Test.YtniblmpihnhglaaRows
import Derived.Test.YtniblmpihnhglaaF0
import Derived.Test.YtniblmpihnhglaaK
import Derived.WalkKit
import Derived.WalkSpells
import Derived.WalkLawsBesides
import Derived.Laws.Externs
import Derived.Laws.BitsAll
import Derived.Lib.Hide
import Derived.Outline
namespace Go.Proofs.Ytniblmpihnhglaa
open Go.RowKit

theorem run_from (n : Int) (w : World) : (callFunc 83 #[.int .u64 n]).run Try.prog w = .ok (.value (.float .f64 n.toNat)) w := by
  rw [run_callFunc_extern (P := Try.prog) Try.func83 (by kernel_rfl) (by kernel_rfl) (by kernel_rfl) (e := Extern.MathFloatBits.float64frombits) (by kernel_rfl)]
  rfl
theorem run_bits (n : Nat) (w : World) : (callFunc 82 #[.float .f64 n]).run Try.prog w = .ok (.value (.int .u64 n)) w := by
  rw [run_callFunc_extern (P := Try.prog) Try.func82 (by kernel_rfl) (by kernel_rfl) (by kernel_rfl) (e := Extern.MathFloatBits.float64bits) (by kernel_rfl)]
  rfl

def nanI (x : Int) : Bool := nanN x.toNat
def quietI (x : Int) : Int := if nanI x then 9221120237041090561 else x
def ordI (x : Int) : Int := if 9223372036854775808 ≤ x then 18446744073709551615 - x else x + 9223372036854775808
def backI (x : Int) : Int := if 9223372036854775808 ≤ x then x - 9223372036854775808 else 18446744073709551615 - x
def sameB (a b : Int) : Bool := !nanI a && !nanI b && decide (rk a.toNat = rk b.toNat)
def u64 (x : Int) : Prop := 0 ≤ x ∧ x < 18446744073709551616


theorem nanI_eq (x : Int) (h0 : 0 ≤ x) : nanI x = decide (9218868437227405312 < x % 9223372036854775808) := by
  unfold nanI nanN rung
  rw [Bool.eq_iff_iff]; simp only [decide_eq_true_eq]; omega
theorem order_ne (x : Nat) : (FloatKind.f64.format.order x x != some Ordering.eq) = nanN x := ne_self x
theorem order_eq (x y : Nat) : (FloatKind.f64.format.order x y == some Ordering.eq) = (!nanN x && !nanN y && decide (rk x = rk y)) := eq_rk x y

theorem and_top (x : Int) (h0 : 0 ≤ x) (h1 : x < 18446744073709551616) : bits .and .u64 x 9223372036854775808 = if 9223372036854775808 ≤ x then 9223372036854775808 else 0 := by
  go_bits2
  all_goals (split <;> omega)
theorem not_64 (x : Int) (h0 : 0 ≤ x) (h1 : x < 18446744073709551616) : bits .xor .u64 IntKind.u64.max x = 18446744073709551615 - x := by
  obtain ⟨n, rfl⟩ := Int.eq_ofNat_of_zero_le h0
  rw [show IntKind.u64.max = ((18446744073709551615 : Nat) : Int) from by decide +kernel, bits_xor_u64_nat _ _ (by omega) (by omega)]
  have e : 18446744073709551615 ^^^ n = 18446744073709551615 - n := by
    have := BitVec.toNat_not (x := BitVec.ofNat 64 n)
    rw [← BitVec.allOnes_xor] at this
    rw [BitVec.toNat_xor, BitVec.toNat_ofNat, Nat.mod_eq_of_lt (by omega)] at this
    simpa using this
  rw [e]; omega
theorem or_top (x : Int) (h0 : 0 ≤ x) (h1 : x < 9223372036854775808) : bits .or .u64 x 9223372036854775808 = x + 9223372036854775808 := by
  rw [u64_or x _ h0 (by omega) (by omega) (by omega)]
  rw [Nat.or_comm]
  rw [nat_join 63 _ _ (by decide +kernel) (by omega)]
  omega
theorem andNot_top (x : Int) (h0 : 9223372036854775808 ≤ x) (h1 : x < 18446744073709551616) : bits .andNot .u64 x 9223372036854775808 = x - 9223372036854775808 := by
  rw [u64_andNot x _ (by omega) (by omega) (by omega) (by omega)]
  have : x.toNat &&& 9223372036854775807 = x.toNat % 9223372036854775808 := Nat.and_two_pow_sub_one_eq_mod x.toNat 63
  rw [show (18446744073709551615 - (9223372036854775808 : Int).toNat) = 9223372036854775807 from by decide +kernel, this]
  omega

set_option maxHeartbeats 400000 in
theorem quiet_any (x : Int) (w : World) : Calls Try.prog 79 #[.int .u64 x] w fun e w' => e = .returned (.int .u64 (quietI x)) ∧ w = w' := by
  have hf := run_from x
  have hd := order_ne x.toNat
  have hq : quietI x = if nanN x.toNat then 9221120237041090561 else x := rfl
  cases hb : nanN x.toNat
  all_goals
    rw [hb] at hd hq
    have Hq := Lib.hid hq; clear hq hb
    go_enter Try.func79, Try.ntmps79
    go_wp2
    go_ret
    exact ⟨ret_int Hq.out.symm, rfl⟩

set_option maxHeartbeats 400000 in
theorem order_any (x : Int) (w : World) (h0 : 0 ≤ x) (h1 : x < 18446744073709551616) : Calls Try.prog 87 #[.int .u64 x] w fun e w' => e = .returned (.int .u64 (ordI x)) ∧ w = w' := by
  have hd := and_top x h0 h1
  by_cases hc : 9223372036854775808 ≤ x
  · rw [if_pos hc] at hd
    have ht : (bits .and .u64 x 9223372036854775808 != 0) = true := by rw [hd]; rfl
    have Hq : Hid (bits .xor .u64 IntKind.u64.max x = ordI x) := Lib.hid (by unfold ordI; rw [if_pos hc]; exact not_64 x h0 h1)
    clear hd
    go_enter Try.func87, Try.ntmps87
    go_wp2
    go_ret
    exact ⟨ret_int Hq.out, rfl⟩
  · rw [if_neg hc] at hd
    have ht : (bits .and .u64 x 9223372036854775808 != 0) = false := by rw [hd]; rfl
    have Hq : Hid (bits .or .u64 x 9223372036854775808 = ordI x) := Lib.hid (by unfold ordI; rw [if_neg hc]; exact or_top x h0 (by omega))
    clear hd
    go_enter Try.func87, Try.ntmps87
    go_wp2
    go_ret
    exact ⟨ret_int Hq.out, rfl⟩
set_option maxHeartbeats 400000 in
theorem back_any (x : Int) (w : World) (h0 : 0 ≤ x) (h1 : x < 18446744073709551616) : Calls Try.prog 86 #[.int .u64 x] w fun e w' => e = .returned (.int .u64 (backI x)) ∧ w = w' := by
  have hd := and_top x h0 h1
  by_cases hc : 9223372036854775808 ≤ x
  · rw [if_pos hc] at hd
    have ht : (bits .and .u64 x 9223372036854775808 != 0) = true := by rw [hd]; rfl
    have Hq : Hid (bits .andNot .u64 x 9223372036854775808 = backI x) := Lib.hid (by unfold backI; rw [if_pos hc]; exact andNot_top x hc h1)
    clear hd
    go_enter Try.func86, Try.ntmps86
    go_wp2
    go_ret
    exact ⟨ret_int Hq.out, rfl⟩
  · rw [if_neg hc] at hd
    have ht : (bits .and .u64 x 9223372036854775808 != 0) = false := by rw [hd]; rfl
    have Hq : Hid (bits .xor .u64 IntKind.u64.max x = backI x) := Lib.hid (by unfold backI; rw [if_neg hc]; exact not_64 x h0 h1)
    clear hd
    go_enter Try.func86, Try.ntmps86
    go_wp2
    go_ret
    exact ⟨ret_int Hq.out, rfl⟩
set_option maxHeartbeats 400000 in
theorem rorder_any (x : Int) (w : World) (h0 : 0 ≤ x) (h1 : x < 18446744073709551616) : Calls Try.prog 91 #[.int .u64 x] w fun e w' => e = .returned (.int .u64 (ordI x)) ∧ w = w' := by
  by_cases hc : 9223372036854775808 ≤ x
  · have Hq : Hid (18446744073709551615 - x = ordI x) := Lib.hid (by unfold ordI; rw [if_pos hc])
    go_enter Try.func91, Try.ntmps91
    go_wp2
    go_ret
    exact ⟨ret_int Hq.out, rfl⟩
  · have Hq : Hid (x + 9223372036854775808 = ordI x) := Lib.hid (by unfold ordI; rw [if_neg hc])
    go_enter Try.func91, Try.ntmps91
    go_wp2
    go_ret
    exact ⟨ret_int Hq.out, rfl⟩
theorem and_exp (x : Int) (h0 : 0 ≤ x) (h1 : x < 18446744073709551616) : bits .and .u64 (x / 4503599627370496) 2047 = x / 4503599627370496 % 2048 := by
  have : 0 ≤ x / 4503599627370496 ∧ x / 4503599627370496 < 18446744073709551616 := by omega
  obtain ⟨a, b⟩ := this
  generalize x / 4503599627370496 = y at *
  go_bits2
  all_goals omega
set_option maxHeartbeats 400000 in
theorem rnan_any (x : Int) (w : World) (h0 : 0 ≤ x) (h1 : x < 18446744073709551616) : Calls Try.prog 92 #[.int .u64 x] w fun e w' => e = .returned (.bool (nanI x)) ∧ w = w' := by
  have hd := and_exp x h0 h1
  have Hn := Lib.hid (nanI_eq x h0)
  have Hw := Lib.hid (IntKind.wrap_u64 (x * 4096))
  by_cases hc : x / 4503599627370496 % 2048 = 2047
  · rw [hc] at hd
    go_enter Try.func92, Try.ntmps92
    go_wp2
    go_ret
    refine ⟨ret_bool ?_, rfl⟩
    rw [Hn.out, Hw.out, Bool.eq_iff_iff, bne_iff_ne, decide_eq_true_eq]
    omega
  · have ht : (bits .and .u64 (x / 4503599627370496) 2047 == 2047) = false := by rw [hd]; simpa using hc
    have hc' : ¬ bits .and .u64 (x / 4503599627370496) 2047 = 2047 := by rw [hd]; exact hc
    have Hc := Lib.hid hc
    clear hd hc
    go_enter Try.func92, Try.ntmps92
    go_wp2
    go_ret
    refine ⟨ret_bool ?_, rfl⟩
    have := Hc.out
    rw [Hn.out]; symm; rw [decide_eq_false_iff_not]
    omega
theorem nan_cases (x : Int) : nanI x = true ∨ nanI x = false := by cases nanI x <;> simp
set_option maxHeartbeats 400000 in
theorem rquiet_any (x : Int) (w : World) (h0 : 0 ≤ x) (h1 : x < 18446744073709551616) : Calls Try.prog 88 #[.int .u64 x] w fun e w' => e = .returned (.int .u64 (quietI x)) ∧ w = w' := by
  have hq : quietI x = if nanI x then 9221120237041090561 else x := rfl
  rcases nan_cases x with hb | hb
  all_goals
    rw [hb] at hq
    have Hq := Lib.hid hq; clear hq
    go_enter Try.func88, Try.ntmps88
    go_wp2_with (go_at_call 92; refine (rnan_any _ _ h0 h1).mono ?_; rintro e w' ⟨rfl, rfl⟩)
    go_ret
    exact ⟨ret_int Hq.out.symm, rfl⟩

end Go.Proofs.Ytniblmpihnhglaa
