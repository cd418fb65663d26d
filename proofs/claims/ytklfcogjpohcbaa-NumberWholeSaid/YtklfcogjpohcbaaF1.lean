/- Whole numbers as floats: below 2^53 they are exact, and so are their sums and products. Plain Lean, no program. -/
import Derived.Test.YtklfcogjpohcbaaF0
import Derived.Laws.Cover2
import Derived.Laws.FloatArith
namespace Go.Proofs.Ytklfcogjpohcbaa
open Ieee

theorem nearest_zero (neg : Bool) (p : Int) : double.nearest neg 0 p = double.word neg 0 := by
  unfold Format.nearest; rfl

theorem cut_zero (way : Toward) (neg : Bool) (n : Nat) : way.cut neg n 0 = n := by
  unfold Toward.cut
  have e : (1 <<< min 0 (n.log2 + 2) : Nat) = 1 := by simp
  simp only [e, Nat.div_one, Nat.mod_one]
  cases way <;> simp
theorem cut_exact (neg : Bool) (n d : Nat) (hd : d ≤ (n * 2 ^ d).log2 + 2) : Toward.even.cut neg (n * 2 ^ d) d = n := by
  unfold Toward.cut
  have e : (1 <<< min d ((n * 2 ^ d).log2 + 2) : Nat) = 2 ^ d := by rw [Nat.min_eq_left hd, Nat.one_shiftLeft]
  have p : 0 < 2 ^ d := Nat.two_pow_pos d
  simp only [e, Nat.mul_div_cancel _ p, Nat.mul_mod_left]
  have h1 : ¬ 2 ^ d < 2 * 0 := by omega
  have h2 : ¬ 2 ^ d = 2 * 0 := by omega
  simp

/-- The rung of the whole number m. -/
def wrung (m : Nat) : Nat := if m = 0 then 0 else (m.log2 + 1022) * 4503599627370496 + m * 2 ^ (52 - m.log2)

theorem log2_mul_pow (m k : Nat) (hm : m ≠ 0) : (m * 2 ^ k).log2 = m.log2 + k := by
  rw [Nat.log2_eq_iff (Nat.mul_ne_zero hm (Nat.ne_of_gt (Nat.two_pow_pos k)))]
  have h := (Nat.log2_eq_iff hm).1 rfl
  have p : 0 < 2 ^ k := Nat.two_pow_pos k
  rw [Nat.pow_add, show m.log2 + k + 1 = (m.log2 + 1) + k from by omega, Nat.pow_add _ (m.log2 + 1)]
  exact ⟨Nat.mul_le_mul_right _ h.1, Nat.mul_lt_mul_of_pos_right h.2 p⟩

theorem m_range (m : Nat) (hm : m ≠ 0) (h : m < 9007199254740992) : m.log2 ≤ 52 ∧ 4503599627370496 ≤ m * 2 ^ (52 - m.log2) ∧ m * 2 ^ (52 - m.log2) < 9007199254740992 := by
  have hl := (Nat.log2_eq_iff hm).1 rfl
  have h52 : m.log2 ≤ 52 := by
    have : m.log2 < 53 := (Nat.log2_lt hm).2 h
    omega
  have e1 : (2 : Nat) ^ m.log2 * 2 ^ (52 - m.log2) = 4503599627370496 := by rw [← Nat.pow_add, show m.log2 + (52 - m.log2) = 52 from by omega]
  have e2 : (2 : Nat) ^ (m.log2 + 1) * 2 ^ (52 - m.log2) = 9007199254740992 := by rw [← Nat.pow_add, show m.log2 + 1 + (52 - m.log2) = 53 from by omega]
  have p : 0 < 2 ^ (52 - m.log2) := Nat.two_pow_pos _
  exact ⟨h52, e1 ▸ Nat.mul_le_mul_right _ hl.1, e2 ▸ Nat.mul_lt_mul_of_pos_right hl.2 p⟩

theorem nearest_exact (neg : Bool) (m k : Nat) (h : m < 9007199254740992) : double.nearest neg (m * 2 ^ k) (-(k : Int)) = double.word neg (wrung m) := by
  by_cases hm : m = 0
  · subst hm; rw [Nat.zero_mul, nearest_zero]; rfl
  · obtain ⟨h52, r1, r2⟩ := m_range m hm h
    have hne : m * 2 ^ k ≠ 0 := Nat.mul_ne_zero hm (Nat.ne_of_gt (Nat.two_pow_pos k))
    unfold Format.nearest
    rw [if_neg hne, log2_mul_pow m k hm]
    have el : max (-(k : Int) + ((m.log2 + k : Nat) : Int) - (double.fractionBits : Int)) (-1074) = (m.log2 : Int) - 52 := by
      rw [show double.fractionBits = 52 from rfl]; omega
    simp only [dbl_least, dbl_binade, dbl_inf, el]
    have ek : Toward.even.cut neg ((m * 2 ^ k) <<< (-(k : Int) - ((m.log2 : Int) - 52)).toNat) ((m.log2 : Int) - 52 - -(k : Int)).toNat = m * 2 ^ (52 - m.log2) := by
      rw [Nat.shiftLeft_eq]
      by_cases hk : k ≤ 52 - m.log2
      · have e0 : ((m.log2 : Int) - 52 - -(k : Int)).toNat = 0 := by omega
        have e1 : (-(k : Int) - ((m.log2 : Int) - 52)).toNat = 52 - m.log2 - k := by omega
        rw [e0, e1, cut_zero, Nat.mul_assoc, ← Nat.pow_add, show k + (52 - m.log2 - k) = 52 - m.log2 from by omega]
      · have e0 : ((m.log2 : Int) - 52 - -(k : Int)).toNat = k - (52 - m.log2) := by omega
        have e1 : (-(k : Int) - ((m.log2 : Int) - 52)).toNat = 0 := by omega
        rw [e0, e1, Nat.pow_zero, Nat.mul_one]
        have e2 : m * 2 ^ k = (m * 2 ^ (52 - m.log2)) * 2 ^ (k - (52 - m.log2)) := by rw [Nat.mul_assoc, ← Nat.pow_add, show 52 - m.log2 + (k - (52 - m.log2)) = k from by omega]
        rw [e2, cut_exact]
        rw [← e2, log2_mul_pow m k hm]; omega
    rw [ek]
    have e3 : ((m.log2 : Int) - 52 - -1074).toNat = m.log2 + 1022 := by omega
    rw [e3]
    unfold wrung
    rw [if_neg hm]
    congr 1
    omega

theorem word_rung (neg : Bool) (r : Nat) (h : r < 9223372036854775808) : rung (double.word neg r) = r ∧ neg64 (double.word neg r) = neg := by
  unfold rung neg64 Format.word
  rw [dbl_sign]
  cases neg
  · refine ⟨by simp; omega, ?_⟩
    have : r / 9223372036854775808 % 2 = 0 := by omega
    simp [this]
  · refine ⟨by simp; omega, ?_⟩
    rw [beq_iff_eq]; simp only [if_true]; omega
theorem wrung_lt (m : Nat) (h : m < 9007199254740992) : wrung m < 9218868437227405312 := by
  unfold wrung
  split
  · omega
  · rename_i hm
    obtain ⟨h52, r1, r2⟩ := m_range m hm h
    omega
theorem word_nan (neg : Bool) (m : Nat) (h : m < 9007199254740992) : nanN (double.word neg (wrung m)) = false := by
  have := wrung_lt m h
  unfold nanN
  rw [(word_rung neg _ (by omega)).1, decide_eq_false_iff_not]
  omega

/-- Below 2^53 a whole number's word reads as that number. -/
theorem read_whole (neg : Bool) (m : Nat) (h : m < 9007199254740992) : ∃ j : Nat, double.read (double.word neg (wrung m)) = .number neg (m * 2 ^ j) (-(j : Int)) := by
  have hl := wrung_lt m h
  obtain ⟨e1, e2⟩ := word_rung neg (wrung m) (by omega)
  rw [read_num _ (by rw [e1]; exact hl), e1, e2]
  by_cases hm : m = 0
  · subst hm
    obtain ⟨j, hj⟩ : ∃ j : Nat, j = 1074 := ⟨_, rfl⟩
    refine ⟨j, ?_⟩
    rw [show wrung 0 = 0 from rfl, show vmag 0 = 0 from rfl, show vexp 0 = 0 from rfl, Nat.zero_mul, hj]; rfl
  · obtain ⟨h52, r1, r2⟩ := m_range m hm h
    refine ⟨52 - m.log2, ?_⟩
    have hr : wrung m = (m.log2 + 1022) * 4503599627370496 + m * 2 ^ (52 - m.log2) := by unfold wrung; rw [if_neg hm]
    generalize m * 2 ^ (52 - m.log2) = q at *
    have hv : vmag (wrung m) = q := by unfold vmag; rw [hr, if_neg (by omega)]; omega
    have hx : vexp (wrung m) = m.log2 + 1022 := by unfold vexp; rw [hr, if_neg (by omega)]; omega
    rw [hv, hx, show (-1074 + ((m.log2 + 1022 : Nat) : Int)) = -((52 - m.log2 : Nat) : Int) from by omega]

/-- The word of a whole number. -/
def fI (n : Int) : Nat := floatOfInt .f64 n
theorem fI_word (n : Int) (h : n.natAbs < 9007199254740992) : fI n = double.word (decide (n < 0)) (wrung n.natAbs) := by
  have := nearest_exact (decide (n < 0)) n.natAbs 0 h
  rw [Nat.pow_zero, Nat.mul_one] at this
  exact this

theorem signed_at (s : Bool) (m i e : Nat) : signed s (m * 2 ^ i) e = (if s then -(m : Int) else (m : Int)) * ((2 ^ (i + e) : Nat) : Int) := by
  rw [signed_val, Nat.mul_assoc, ← Nat.pow_add]
  cases s
  · simp
  · simp [Int.neg_mul]

theorem signed_abs (x : Int) : (if decide (x < 0) = true then -(x.natAbs : Int) else (x.natAbs : Int)) = x := by
  by_cases h : x < 0
  · simp [h]; omega
  · simp [h]; omega

theorem add_whole (x y : Int) (hx : x.natAbs < 4503599627370496) (hy : y.natAbs < 4503599627370496) : double.add (fI x) (fI y) = some (fI (x + y)) := by
  rw [fI_word x (by omega), fI_word y (by omega), fI_word (x + y) (by omega)]
  obtain ⟨i, hi⟩ := read_whole (decide (x < 0)) x.natAbs (by omega)
  obtain ⟨j, hj⟩ := read_whole (decide (y < 0)) y.natAbs (by omega)
  unfold Format.add
  rw [hi, hj]
  simp only [Datum.sum, Option.map_some, Format.write, Option.some.injEq]
  have eb : min (-(i : Int)) (-(j : Int)) = -((max i j : Nat) : Int) := by omega
  rw [eb]
  generalize hK : max i j = K
  have e1 : (-(i : Int) - -(K : Int)).toNat = K - i := by omega
  have e2 : (-(j : Int) - -(K : Int)).toNat = K - j := by omega
  rw [e1, e2, signed_at, signed_at, show i + (K - i) = K from by omega, show j + (K - j) = K from by omega, signed_abs, signed_abs, ← Int.add_mul]
  have hp : (0 : Int) < ((2 ^ K : Nat) : Int) := by have := Nat.two_pow_pos K; omega
  have ea : ((x + y) * ((2 ^ K : Nat) : Int)).natAbs = (x + y).natAbs * 2 ^ K := by rw [Int.natAbs_mul]; rfl
  rw [ea, nearest_exact _ _ _ (by omega)]
  congr 1
  by_cases hz : x + y = 0
  · rw [hz, Int.zero_mul, if_pos rfl]
    by_cases hx0 : x < 0 <;> by_cases hy0 : y < 0 <;> simp [hx0, hy0] <;> omega
  · have hne : ¬ (x + y) * ((2 ^ K : Nat) : Int) = 0 := by
      intro h
      rcases Int.mul_eq_zero.1 h with h | h <;> omega
    rw [if_neg hne]
    congr 1
    apply propext
    constructor
    · intro h
      rcases Int.lt_or_le (x + y) 0 with h1 | h1
      · exact h1
      · have := Int.mul_nonneg h1 (Int.le_of_lt hp); omega
    · intro h; exact Int.mul_neg_of_neg_of_pos h hp

theorem mul_whole (x y : Int) (hxy : x.natAbs * y.natAbs < 9007199254740992) (hx : x.natAbs < 9007199254740992) (hy : y.natAbs < 9007199254740992) :
    double.mul (fI x) (fI y) = some (double.word (decide (x < 0) ^^ decide (y < 0)) (wrung (x * y).natAbs)) := by
  rw [fI_word x hx, fI_word y hy]
  obtain ⟨i, hi⟩ := read_whole (decide (x < 0)) x.natAbs hx
  obtain ⟨j, hj⟩ := read_whole (decide (y < 0)) y.natAbs hy
  unfold Format.mul
  rw [hi, hj]
  simp only [Datum.product, Option.map_some, Format.write, Option.some.injEq]
  have e1 : x.natAbs * 2 ^ i * (y.natAbs * 2 ^ j) = (x * y).natAbs * 2 ^ (i + j) := by
    rw [Int.natAbs_mul, Nat.pow_add]
    simp only [Nat.mul_assoc, Nat.mul_left_comm]
  rw [e1, show -(i : Int) + -(j : Int) = -((i + j : Nat) : Int) from by omega, nearest_exact _ _ _ (by rw [Int.natAbs_mul]; exact hxy)]

theorem rk_word (neg : Bool) (m : Nat) (h : m < 9007199254740992) : rk (double.word neg (wrung m)) = if neg then -(wrung m : Int) else wrung m := by
  have hl := wrung_lt m h
  obtain ⟨e1, e2⟩ := word_rung neg (wrung m) (by omega)
  unfold rk
  rw [e1, e2]

end Go.Proofs.Ytklfcogjpohcbaa
