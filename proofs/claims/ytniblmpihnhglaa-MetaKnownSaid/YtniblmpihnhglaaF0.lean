/- Floats of 64 bits as ranks: how the model's order of two words stands to the words themselves. Plain Lean, no program. -/
import Derived.Laws.FloatBits
namespace Go.Proofs.Ytniblmpihnhglaa
open Ieee

theorem cmp_eq_iff (a b : Int) : compare a b = .eq ↔ a = b := by
  simp only [compare, compareOfLessAndEq]
  split
  · simp; omega
  · split <;> simp_all
theorem cmp_lt_iff (a b : Int) : compare a b = .lt ↔ a < b := by
  simp only [compare, compareOfLessAndEq]
  split
  · simp_all
  · split <;> simp_all
theorem cmp_same {a b c d : Int} (h : a < b ↔ c < d) (e : a = b ↔ c = d) : compare a b = compare c d := by
  simp only [compare, compareOfLessAndEq, h, e]

theorem dbl_sign : double.signWeight = 9223372036854775808 := by decide +kernel
theorem dbl_binade : double.binade = 4503599627370496 := by decide +kernel
theorem dbl_inf : double.infRung = 9218868437227405312 := by decide +kernel
theorem dbl_least : double.leastPlace = -1074 := by decide +kernel

/-- The magnitude of a rung, in units of the least one. -/
def vnat (r : Nat) : Nat := if r < 4503599627370496 then r else (4503599627370496 + r % 4503599627370496) * 2 ^ (r / 4503599627370496 - 1)
/-- The exponent of a rung, and its digits. -/
def vexp (r : Nat) : Nat := if r < 4503599627370496 then 0 else r / 4503599627370496 - 1
def vmag (r : Nat) : Nat := if r < 4503599627370496 then r else 4503599627370496 + r % 4503599627370496
theorem vnat_eq (r : Nat) : vnat r = vmag r * 2 ^ vexp r := by
  unfold vnat vmag vexp
  split <;> simp

def neg64 (x : Nat) : Bool := x / 9223372036854775808 % 2 == 1
def rung (x : Nat) : Nat := x % 9223372036854775808
def sval (x : Nat) : Int := if neg64 x then -(vnat (rung x) : Int) else vnat (rung x)
def rk (x : Nat) : Int := if neg64 x then -(rung x : Int) else rung x

theorem read_num (x : Nat) (h : rung x < 9218868437227405312) : double.read x = .number (neg64 x) (vmag (rung x)) (-1074 + (vexp (rung x) : Int)) := by
  unfold Format.read neg64 vmag vexp
  unfold rung at h ⊢
  rw [dbl_sign, dbl_binade, dbl_inf, dbl_least]
  by_cases h1 : x % 9223372036854775808 < 4503599627370496
  · simp only [h1, if_true]; rfl
  · simp only [h1, h, if_true, if_false]
theorem read_inf (x : Nat) (h : rung x = 9218868437227405312) : double.read x = .infinity (neg64 x) := by
  unfold Format.read neg64
  unfold rung at h
  rw [dbl_sign, dbl_binade, dbl_inf, dbl_least]
  simp only [h]
  rw [if_neg (by omega), if_neg (by omega), if_pos trivial]
theorem read_nan (x : Nat) (h : 9218868437227405312 < rung x) : double.read x = .nan (neg64 x) (rung x - 9218868437227405312) := by
  unfold Format.read neg64
  unfold rung at h ⊢
  rw [dbl_sign, dbl_binade, dbl_inf, dbl_least]
  simp only []
  rw [if_neg (by omega), if_neg (by omega), if_neg (by omega)]

theorem vnat_lt {a b : Nat} (h : a < b) : vnat a < vnat b := by
  unfold vnat
  by_cases ha : a < 4503599627370496
  · rw [if_pos ha]
    by_cases hb : b < 4503599627370496
    · rw [if_pos hb]; exact h
    · rw [if_neg hb]
      have : 0 < 2 ^ (b / 4503599627370496 - 1) := Nat.two_pow_pos _
      calc a < (4503599627370496 + b % 4503599627370496) * 1 := by omega
        _ ≤ _ := Nat.mul_le_mul_left _ this
  · have hb : ¬ b < 4503599627370496 := by omega
    rw [if_neg ha, if_neg hb]
    by_cases e : a / 4503599627370496 = b / 4503599627370496
    · rw [e]
      exact Nat.mul_lt_mul_of_pos_right (by omega) (Nat.two_pow_pos _)
    · have hlt : a / 4503599627370496 < b / 4503599627370496 := by omega
      have hp : 2 ^ (a / 4503599627370496 - 1 + 1) ≤ 2 ^ (b / 4503599627370496 - 1) := Nat.pow_le_pow_right (by omega) (by omega)
      rw [Nat.pow_succ] at hp
      have h0 : 0 < 2 ^ (a / 4503599627370496 - 1) := Nat.two_pow_pos _
      calc (4503599627370496 + a % 4503599627370496) * 2 ^ (a / 4503599627370496 - 1)
          < (4503599627370496 * 2) * 2 ^ (a / 4503599627370496 - 1) := Nat.mul_lt_mul_of_pos_right (by omega) h0
        _ = 4503599627370496 * (2 ^ (a / 4503599627370496 - 1) * 2) := by rw [Nat.mul_assoc, Nat.mul_comm 2]
        _ ≤ 4503599627370496 * 2 ^ (b / 4503599627370496 - 1) := Nat.mul_le_mul_left _ hp
        _ ≤ _ := Nat.mul_le_mul_right _ (by omega)
theorem vnat_inj {a b : Nat} (h : vnat a = vnat b) : a = b := by
  rcases Nat.lt_trichotomy a b with h1 | h1 | h1
  · have := vnat_lt h1; omega
  · exact h1
  · have := vnat_lt h1; omega
theorem vnat_zero : vnat 0 = 0 := rfl
theorem vnat_pos {a : Nat} (h : 0 < a) : 0 < vnat a := by have := vnat_lt h; rw [vnat_zero] at this; exact this

theorem sval_lt (x y : Nat) : sval x < sval y ↔ rk x < rk y := by
  unfold sval rk
  have hm : ∀ a b : Nat, (vnat a : Int) < vnat b ↔ (a : Int) < b := by
    intro a b
    rcases Nat.lt_trichotomy a b with h | h | h
    · have := vnat_lt h; omega
    · subst h; omega
    · have := vnat_lt h; omega
  have z : ∀ a : Nat, (0 : Int) < vnat a ↔ (0 : Int) < a := by
    intro a; have := hm 0 a; rw [vnat_zero] at this; exact this
  have := hm (rung x) (rung y)
  have := hm (rung y) (rung x)
  have := z (rung x)
  have := z (rung y)
  by_cases h1 : neg64 x <;> by_cases h2 : neg64 y <;> simp only [h1, h2, if_true, if_false, Bool.false_eq_true] <;> omega
theorem sval_eq (x y : Nat) : sval x = sval y ↔ rk x = rk y := by
  have h1 := sval_lt x y
  have h2 := sval_lt y x
  omega

theorem signed_mul (s : Bool) (m e k : Nat) : signed s m (e + k) = signed s m e * (2 ^ k : Nat) := by
  unfold signed
  rw [Nat.shiftLeft_eq, Nat.shiftLeft_eq, Nat.pow_add, ← Nat.mul_assoc]
  split
  · rw [Int.natCast_mul, Int.neg_mul]
  · rw [Int.natCast_mul]

theorem signed_val (s : Bool) (m e : Nat) : signed s m e = if s then -((m * 2 ^ e : Nat) : Int) else ((m * 2 ^ e : Nat) : Int) := by
  unfold signed; rw [Nat.shiftLeft_eq]

theorem order_num (x y : Nat) (hx : rung x < 9218868437227405312) (hy : rung y < 9218868437227405312) : double.order x y = some (compare (rk x) (rk y)) := by
  unfold Format.order
  rw [read_num x hx, read_num y hy]
  simp only [Datum.order]
  congr 1
  generalize hb : min (-1074 + (vexp (rung x) : Int)) (-1074 + (vexp (rung y) : Int)) = base
  have hk : ∃ k : Nat, base = -1074 + (k : Int) ∧ k ≤ vexp (rung x) ∧ k ≤ vexp (rung y) := ⟨min (vexp (rung x)) (vexp (rung y)), by omega, by omega, by omega⟩
  obtain ⟨k, rfl, k1, k2⟩ := hk
  have e1 : (-1074 + (vexp (rung x) : Int) - (-1074 + (k : Int))).toNat = vexp (rung x) - k := by omega
  have e2 : (-1074 + (vexp (rung y) : Int) - (-1074 + (k : Int))).toNat = vexp (rung y) - k := by omega
  rw [e1, e2]
  have f1 : sval x = signed (neg64 x) (vmag (rung x)) (vexp (rung x) - k) * (2 ^ k : Nat) := by
    rw [← signed_mul, Nat.sub_add_cancel k1, signed_val, ← vnat_eq]; rfl
  have f2 : sval y = signed (neg64 y) (vmag (rung y)) (vexp (rung y) - k) * (2 ^ k : Nat) := by
    rw [← signed_mul, Nat.sub_add_cancel k2, signed_val, ← vnat_eq]; rfl
  have hp : (0 : Int) < ((2 ^ k : Nat) : Int) := by have := Nat.two_pow_pos k; omega
  refine cmp_same ?_ ?_
  · rw [← sval_lt, f1, f2]
    exact ⟨fun h => Int.mul_lt_mul_of_pos_right h hp, fun h => Int.lt_of_mul_lt_mul_right h (by omega)⟩
  · rw [← sval_eq, f1, f2]
    exact ⟨fun h => by rw [h], fun h => Int.eq_of_mul_eq_mul_right (by omega) h⟩

def nanN (x : Nat) : Bool := decide (9218868437227405312 < rung x)

theorem order_nan (x y : Nat) (h : nanN x = true ∨ nanN y = true) : double.order x y = none := by
  unfold Format.order
  rcases h with h | h
  · rw [read_nan x (of_decide_eq_true h)]; rfl
  · rw [read_nan y (of_decide_eq_true h)]
    cases double.read x <;> rfl

theorem order_rk (x y : Nat) (hx : nanN x = false) (hy : nanN y = false) : double.order x y = some (compare (rk x) (rk y)) := by
  have hx' : rung x ≤ 9218868437227405312 := by have := of_decide_eq_false hx; omega
  have hy' : rung y ≤ 9218868437227405312 := by have := of_decide_eq_false hy; omega
  rcases Nat.lt_or_eq_of_le hx' with h1 | h1
  · rcases Nat.lt_or_eq_of_le hy' with h2 | h2
    · exact order_num x y h1 h2
    · unfold Format.order
      rw [read_num x h1, read_inf y h2]
      simp only [Datum.order]
      congr 1
      unfold rk
      cases hn : neg64 y
      · symm; simp only [Bool.false_eq_true, if_false]; rw [cmp_lt_iff]
        split <;> omega
      · symm; simp only [if_true]
        have : compare (if neg64 x = true then -(rung x : Int) else (rung x : Int)) (-(rung y : Int)) = compare (1 : Int) 0 := cmp_same (by split <;> omega) (by split <;> omega)
        rw [this]; rfl
  · rcases Nat.lt_or_eq_of_le hy' with h2 | h2
    · unfold Format.order
      rw [read_inf x h1, read_num y h2]
      simp only [Datum.order]
      congr 1
      unfold rk
      cases hn : neg64 x
      · symm; simp only [Bool.false_eq_true, if_false]
        have : compare (rung x : Int) (if neg64 y = true then -(rung y : Int) else (rung y : Int)) = compare (1 : Int) 0 := cmp_same (by split <;> omega) (by split <;> omega)
        rw [this]; rfl
      · symm; simp only [if_true]; rw [cmp_lt_iff]
        split <;> omega
    · unfold Format.order
      rw [read_inf x h1, read_inf y h2]
      simp only [Datum.order]
      congr 1
      unfold rk
      rw [h1, h2]
      cases neg64 x <;> cases neg64 y <;> rfl

/-- '==' of two floats. -/
theorem eq_rk (x y : Nat) : (double.order x y == some .eq) = (!nanN x && !nanN y && decide (rk x = rk y)) := by
  cases hx : nanN x
  · cases hy : nanN y
    · rw [order_rk x y hx hy, Bool.eq_iff_iff]
      simp only [beq_iff_eq, Option.some.injEq, cmp_eq_iff]
      simp
    · rw [order_nan x y (.inr hy)]; rfl
  · rw [order_nan x y (.inl hx)]; rfl
/-- '<' of two floats. -/
theorem lt_rk (x y : Nat) : (double.order x y == some .lt) = (!nanN x && !nanN y && decide (rk x < rk y)) := by
  cases hx : nanN x
  · cases hy : nanN y
    · rw [order_rk x y hx hy, Bool.eq_iff_iff]
      simp only [beq_iff_eq, Option.some.injEq, cmp_lt_iff]
      simp
    · rw [order_nan x y (.inr hy)]; rfl
  · rw [order_nan x y (.inl hx)]; rfl
theorem ne_self (x : Nat) : (double.order x x != some .eq) = nanN x := by
  rw [bne, eq_rk]; cases nanN x <;> simp

end Go.Proofs.Ytniblmpihnhglaa
