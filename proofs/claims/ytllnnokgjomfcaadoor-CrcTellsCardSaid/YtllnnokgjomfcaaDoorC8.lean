/- Bits turned within 32 that stand together: the sum is another one. Plain Lean, no program. -/
import Derived.Test.YtllnnokgjomfcaaDoorC0
namespace Go.Proofs.YtllnnokgjomfcaaDoor

/-- A list of bytes as one number, its first byte lowest. -/
def val : List UInt8 → Nat
  | [] => 0
  | b :: l => b.toNat ^^^ 2 ^ 8 * val l

theorem mul_xor (n x y : Nat) : 2 ^ n * (x ^^^ y) = 2 ^ n * x ^^^ 2 ^ n * y := by
  apply Nat.eq_of_testBit_eq
  intro j
  simp only [Nat.testBit_two_pow_mul, Nat.testBit_xor]
  by_cases hj : n ≤ j <;> simp [hj]

theorem run_val (l : List UInt8) : ∀ c : Nat, run c l = bsN (8 * l.length) (c ^^^ val l) := by
  induction l with
  | nil => intro c; show c = c ^^^ 0; rw [Nat.xor_zero]
  | cons b l ih =>
    intro c
    show run (stepN c b.toNat) l = _
    rw [ih]
    unfold stepN
    have e : bsN 8 (c ^^^ b.toNat) ^^^ val l = bsN 8 (c ^^^ val (b :: l)) := by
      rw [val, ← Nat.xor_assoc, bsN_xor 8 (c ^^^ b.toNat), bsN_pow]
    rw [e, ← bsN_add, List.length_cons]
    congr 1
    omega

theorem val_set (l : List UInt8) (m : UInt8) : ∀ (i : Nat) (b : UInt8), l[i]? = some b → val (l.set i (b ^^^ m)) = val l ^^^ 2 ^ (8 * i) * m.toNat := by
  induction l with
  | nil => intro i b h; simp at h
  | cons a l ih =>
    intro i b h
    cases i with
    | zero =>
      simp only [List.getElem?_cons_zero, Option.some.injEq] at h
      subst h
      rw [List.set_cons_zero, val, val, UInt8.toNat_xor, Nat.mul_zero, Nat.pow_zero, Nat.one_mul]
      ac_rfl
    | succ i =>
      rw [List.getElem?_cons_succ] at h
      rw [List.set_cons_succ, val, val, ih i b h, mul_xor, ← Nat.mul_assoc, ← Nat.pow_add, ← Nat.xor_assoc]
      congr 3
      omega

theorem mod_low (b x : Nat) (hb : b < 256) : (b ^^^ 2 ^ 8 * x) % 2 ^ 8 = b := by
  apply Nat.eq_of_testBit_eq
  intro j
  rw [Nat.testBit_mod_two_pow, Nat.testBit_xor, Nat.testBit_two_pow_mul]
  by_cases hj : j < 8
  · simp [hj, Nat.not_le.2 hj]
  · have : b.testBit j = false := Nat.testBit_lt_two_pow (Nat.lt_of_lt_of_le hb (Nat.pow_le_pow_right (n := 2) (by omega) (show 8 ≤ j by omega)))
    simp [hj, this]
theorem div_low (b x : Nat) (hb : b < 256) : (b ^^^ 2 ^ 8 * x) / 2 ^ 8 = x := by
  apply Nat.eq_of_testBit_eq
  intro j
  rw [Nat.testBit_div_two_pow, Nat.testBit_xor, Nat.testBit_two_pow_mul]
  have : b.testBit (j + 8) = false := Nat.testBit_lt_two_pow (Nat.lt_of_lt_of_le hb (Nat.pow_le_pow_right (n := 2) (by omega) (show 8 ≤ j + 8 by omega)))
  simp [this]
theorem val_inj : ∀ l m : List UInt8, l.length = m.length → val l = val m → l = m
  | [], [], _, _ => rfl
  | a :: l, b :: m, hl, h => by
    rw [val, val] at h
    have h1 := congrArg (· % 2 ^ 8) h
    have h2 := congrArg (· / 2 ^ 8) h
    simp only [mod_low _ _ a.toNat_lt, mod_low _ _ b.toNat_lt] at h1
    simp only [div_low _ _ a.toNat_lt, div_low _ _ b.toNat_lt] at h2
    rw [UInt8.toNat_inj.1 h1, val_inj l m (by simpa using hl) h2]

/-- Numbers that differ only within 32 bits are told apart. -/
theorem upd_tells (l t : List UInt8) (from_ w : Nat) (hlen : t.length = l.length) (hf : from_ ≤ 8 * l.length) (hw : w < 4294967296) (hv : val t = val l ^^^ 2 ^ from_ * w) :
    upd 0 t = upd 0 l ↔ t = l := by
  constructor
  · intro h
    unfold upd at h
    have h1 := turn_inj h
    rw [run_val, run_val, hlen, hv] at h1
    have h2 : bsN (8 * l.length) (2 ^ from_ * w) = 0 := by
      have e : turn 0 ^^^ (val l ^^^ 2 ^ from_ * w) = (turn 0 ^^^ val l) ^^^ 2 ^ from_ * w := by rw [Nat.xor_assoc]
      rw [e, bsN_xor] at h1
      have h3 : bsN (8 * l.length) (turn 0 ^^^ val l) ^^^ bsN (8 * l.length) (2 ^ from_ * w) ^^^ bsN (8 * l.length) (turn 0 ^^^ val l) = 0 := by rw [h1, Nat.xor_self]
      rw [Nat.xor_comm (bsN (8 * l.length) (turn 0 ^^^ val l)), Nat.xor_assoc, Nat.xor_self, Nat.xor_zero] at h3
      exact h3
    have h4 : 8 * l.length = from_ + (8 * l.length - from_) := by omega
    rw [h4, bsN_add, bsN_pow] at h2
    have h5 : w = 0 := bsN_inj _ hw (by omega) (by rw [h2, bsN_zero])
    refine val_inj t l hlen ?_
    rw [hv, h5, Nat.mul_zero, Nat.xor_zero]
  · intro h; rw [h]

/-- One bit more of those that are turned. -/
theorem flip_more (l L : List UInt8) (from_ k w : Nat) (b : UInt8) (hv : val L = val l ^^^ 2 ^ from_ * w) (hw : w < 2 ^ k) (hb : L[(from_ + k) / 8]? = some b) :
    val (L.set ((from_ + k) / 8) (b ^^^ UInt8.ofNat (2 ^ ((from_ + k) % 8)))) = val l ^^^ 2 ^ from_ * (w + 2 ^ k) ∧ w + 2 ^ k < 2 ^ (k + 1) := by
  have hm : (UInt8.ofNat (2 ^ ((from_ + k) % 8))).toNat = 2 ^ ((from_ + k) % 8) := by
    rw [UInt8.toNat_ofNat']
    exact Nat.mod_eq_of_lt (Nat.pow_lt_pow_right (by omega) (Nat.mod_lt _ (by omega)))
  refine ⟨?_, by rw [Nat.pow_succ]; omega⟩
  rw [val_set L _ _ _ hb, hm, hv, Nat.xor_assoc, ← Nat.pow_add]
  congr 1
  have e : 8 * ((from_ + k) / 8) + (from_ + k) % 8 = from_ + k := Nat.div_add_mod _ _
  rw [e, Nat.pow_add, ← mul_xor]
  congr 1
  have := Nat.two_pow_add_eq_or_of_lt hw 1
  rw [Nat.mul_one, Nat.add_comm] at this
  rw [this]
  apply Nat.eq_of_testBit_eq
  intro j
  rw [Nat.testBit_xor, Nat.testBit_or, Nat.testBit_two_pow]
  by_cases hj : k = j
  · subst hj
    rw [Nat.testBit_lt_two_pow hw]; simp
  · simp [hj]
end Go.Proofs.YtllnnokgjomfcaaDoor
