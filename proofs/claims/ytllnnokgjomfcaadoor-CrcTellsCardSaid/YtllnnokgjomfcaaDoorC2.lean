/- Rules of crc.Join: what noughts make of each single bit, and what a rule makes of a number. Plain Lean, no program. -/
import Derived.Test.YtllnnokgjomfcaaDoorC0
namespace Go.Proofs.YtllnnokgjomfcaaDoor

/-- What a rule makes of a number: the numbers of its set bits, combined. -/
def ofL : List Nat → Nat → Nat
  | [], _ => 0
  | x :: t, c => (if c % 2 = 1 then x else 0) ^^^ ofL t (c / 2)
/-- A rule, by what it makes of single bits, from bit i on. -/
def tab (F : Nat → Nat) : Nat → Nat → List Nat
  | _, 0 => []
  | i, n + 1 => F (2 ^ i) :: tab F (i + 1) n
theorem tab_length (F : Nat → Nat) (n : Nat) : ∀ i, (tab F i n).length = n := by
  induction n with
  | zero => intro i; rfl
  | succ n ih => intro i; rw [tab, List.length_cons, ih]
theorem tab_get (F : Nat → Nat) (n : Nat) : ∀ i j, j < n → (tab F i n)[j]? = some (F (2 ^ (i + j))) := by
  induction n with
  | zero => intro i j h; omega
  | succ n ih =>
    intro i j h
    cases j with
    | zero => rfl
    | succ j => rw [tab, List.getElem?_cons_succ, ih (i + 1) j (by omega)]; congr 3; omega

theorem ofL_tab (F : Nat → Nat) (hF : ∀ a b, F (a ^^^ b) = F a ^^^ F b) (h0 : F 0 = 0) (n : Nat) : ∀ i c, c < 2 ^ n → ofL (tab F i n) c = F (2 ^ i * c) := by
  induction n with
  | zero => intro i c h; have : c = 0 := by simpa using h
            subst this; rw [Nat.mul_zero, h0]; rfl
  | succ n ih =>
    intro i c h
    have hc : c / 2 < 2 ^ n := by rw [Nat.pow_succ] at h; omega
    rw [tab, ofL, ih (i + 1) (c / 2) hc]
    have hm : c % 2 = 0 ∨ c % 2 = 1 := by omega
    have e : 2 ^ i * c = 2 ^ i * (c % 2) ^^^ 2 ^ (i + 1) * (c / 2) := by
      have h1 := split_xor 1 c
      rw [Nat.pow_one] at h1
      have h2 : ∀ x y : Nat, 2 ^ i * (x ^^^ y) = 2 ^ i * x ^^^ 2 ^ i * y := by
        intro x y
        apply Nat.eq_of_testBit_eq
        intro j
        simp only [Nat.testBit_two_pow_mul, Nat.testBit_xor]
        by_cases hj : i ≤ j <;> simp [hj]
      rw [Nat.pow_succ, Nat.mul_assoc, ← h2, Nat.xor_comm (c % 2), h1]
    rw [e, hF]
    rcases hm with hm | hm
    · rw [hm, if_neg (by omega), Nat.mul_zero, h0]
    · rw [hm, if_pos rfl, Nat.mul_one]
theorem ofL_zero (t : List Nat) : ofL t 0 = 0 := by
  induction t with
  | nil => rfl
  | cons x t ih => rw [ofL, if_neg (by omega), Nat.zero_xor]; exact ih
theorem ofL_step (t : List Nat) (k x : Nat) (h : t[k]? = some x) (c : Nat) : ofL (t.drop k) c = (if c % 2 = 1 then x else 0) ^^^ ofL (t.drop (k + 1)) (c / 2) := by
  have hk : k < t.length := (List.getElem?_eq_some_iff.1 h).1
  have hx : t[k] = x := (List.getElem?_eq_some_iff.1 h).2
  rw [List.drop_eq_getElem_cons hk, hx]; rfl

/-- Noughts, in powers of two. -/
def zp (k : Nat) (c : Nat) : Nat := zerosN (2 ^ k) c
theorem zp_zero (c : Nat) : zp 0 c = zeroN c := rfl
theorem zp_succ (k c : Nat) : zp (k + 1) c = zp k (zp k c) := by
  unfold zp
  rw [show 2 ^ (k + 1) = 2 ^ k + 2 ^ k from by rw [Nat.pow_succ]; omega, zerosN_add]
theorem zp_xor (k a b : Nat) : zp k (a ^^^ b) = zp k a ^^^ zp k b := zerosN_xor _ a b
theorem zp_nought (k : Nat) : zp k 0 = 0 := zerosN_zero _
theorem zp_lt (k : Nat) {c : Nat} (h : c < 4294967296) : zp k c < 4294967296 := zerosN_lt _ h
theorem of_zp (k c : Nat) (h : c < 4294967296) : ofL (tab (zp k) 0 32) c = zp k c := by
  rw [ofL_tab (zp k) (zp_xor k) (zp_nought k) 32 0 c h, Nat.pow_zero, Nat.one_mul]
/-- One round of Join: n's lowest bit, and the rest. -/
theorem join_odd (k n a : Nat) (h : n % 2 = 1) : zerosN (n / 2 * 2 ^ (k + 1)) (zp k a) = zerosN (n * 2 ^ k) a := by
  unfold zp
  rw [← zerosN_add]
  congr 1
  rw [Nat.pow_succ]
  have : n = 2 * (n / 2) + 1 := by omega
  calc 2 ^ k + n / 2 * (2 ^ k * 2) = (2 * (n / 2) + 1) * 2 ^ k := by rw [Nat.add_mul, Nat.one_mul, Nat.mul_comm (2 ^ k) 2, ← Nat.mul_assoc, Nat.mul_comm (n / 2) 2, Nat.add_comm]
    _ = n * 2 ^ k := by rw [← this]
theorem join_even (k n a : Nat) (h : n % 2 = 0) : zerosN (n / 2 * 2 ^ (k + 1)) a = zerosN (n * 2 ^ k) a := by
  congr 1
  rw [Nat.pow_succ]
  have : n = 2 * (n / 2) := by omega
  calc n / 2 * (2 ^ k * 2) = (2 * (n / 2)) * 2 ^ k := by rw [Nat.mul_comm (2 ^ k) 2, ← Nat.mul_assoc, Nat.mul_comm (n / 2) 2]
    _ = n * 2 ^ k := by rw [← this]
end Go.Proofs.YtllnnokgjomfcaaDoor
