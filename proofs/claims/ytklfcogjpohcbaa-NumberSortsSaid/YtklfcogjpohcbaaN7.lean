/- Layer 1: the walk of NumberSorts, and the plain laws that it stands on. -/
import Derived.Test.YtklfcogjpohcbaaN4
namespace Go.Proofs.Ytklfcogjpohcbaa
open Go.RowKit
set_option linter.unusedVariables false

theorem order_lt (x y : Nat) : (FloatKind.f64.format.order x y == some Ordering.lt) = (!nanN x && !nanN y && decide (rk x < rk y)) := lt_rk x y

theorem rk_int (x : Int) (x0 : 0 ≤ x) (x1 : x < 18446744073709551616) : rk x.toNat = if 9223372036854775808 ≤ x then 9223372036854775808 - x else x := by
  unfold rk neg64 rung
  simp only [beq_iff_eq]
  split <;> split <;> omega
theorem nan_int (x : Int) (x0 : 0 ≤ x) (x1 : x < 18446744073709551616) (b : Bool) (h : nanI x = b) : (b = true ↔ 9218868437227405312 < x % 9223372036854775808) := by
  rw [nanI_eq x x0] at h
  subst h
  rw [decide_eq_true_eq]

theorem so_inj (x y : Int) (x0 : 0 ≤ x) (x1 : x < 18446744073709551616) (y0 : 0 ≤ y) (y1 : y < 18446744073709551616) : ((ordI x == ordI y) == (x == y)) = true := by
  rw [beq_iff_eq, Bool.eq_iff_iff, beq_iff_eq, beq_iff_eq]
  unfold ordI
  split <;> split <;> omega
theorem so_left (x y : Int) (x0 : 0 ≤ x) (x1 : x < 18446744073709551616) (y0 : 0 ≤ y) (y1 : y < 18446744073709551616) (hx : nanI x = true) (hy : nanI y = false) : (decide (ordI x < ordI y) == (x / 9223372036854775808 == 1)) = true := by
  have h1 := nan_int x x0 x1 _ hx
  have h2 := nan_int y y0 y1 _ hy
  simp only [true_iff, Bool.false_eq_true, false_iff] at h1 h2
  rw [beq_iff_eq, Bool.eq_iff_iff, decide_eq_true_eq, beq_iff_eq]
  unfold ordI
  split <;> split <;> omega
theorem so_right (x y : Int) (x0 : 0 ≤ x) (x1 : x < 18446744073709551616) (y0 : 0 ≤ y) (y1 : y < 18446744073709551616) (hx : nanI x = false) (hy : nanI y = true) : (decide (ordI x < ordI y) == (y / 9223372036854775808 == 0)) = true := by
  have h1 := nan_int x x0 x1 _ hx
  have h2 := nan_int y y0 y1 _ hy
  simp only [true_iff, Bool.false_eq_true, false_iff] at h1 h2
  rw [beq_iff_eq, Bool.eq_iff_iff, decide_eq_true_eq, beq_iff_eq]
  unfold ordI
  split <;> split <;> omega
theorem so_same (x y : Int) (x0 : 0 ≤ x) (x1 : x < 18446744073709551616) (y0 : 0 ≤ y) (y1 : y < 18446744073709551616) (h : rk x.toNat = rk y.toNat) : ordI x < ordI y ↔ (x / 9223372036854775808 = 1 ∧ y / 9223372036854775808 = 0) := by
  rw [rk_int x x0 x1, rk_int y y0 y1] at h
  unfold ordI
  revert h
  split <;> split <;> omega
theorem so_less (x y : Int) (x0 : 0 ≤ x) (x1 : x < 18446744073709551616) (y0 : 0 ≤ y) (y1 : y < 18446744073709551616) (h : ¬ rk x.toNat = rk y.toNat) : ordI x < ordI y ↔ rk x.toNat < rk y.toNat := by
  rw [rk_int x x0 x1, rk_int y y0 y1] at *
  unfold ordI
  revert h
  split <;> split <;> omega

set_option maxRecDepth 100000 in
set_option maxHeartbeats 1600000 in
theorem numberSorts_walk (x : Int) (wx : (Lit.int .u64 x).wf = true) (y : Int) (wy : (Lit.int .u64 y).wf = true) (w : World) :
    Calls Try.prog 7 #[.int .u64 x, .int .u64 y] w fun e w' => e = .returned (.bool true) ∧ Bl w w' := by
  obtain ⟨x0, x1⟩ := wf_u64 wx
  obtain ⟨y0, y1⟩ := wf_u64 wy
  clear wx wy
  have hf1 := run_from x
  have hf2 := run_from y
  have c0 := o_lo x x0 x1
  have c1 := o_hi x x0 x1
  have d0 : 0 ≤ backI x := by unfold backI; split <;> omega
  have d1 : backI x < 18446744073709551616 := by unfold backI; split <;> omega
  have k1 := back_ord x x0 x1
  have k2 := ord_back x x0 x1
  have n1 : (FloatKind.f64.format.order x.toNat x.toNat != some Ordering.eq) = nanI x := order_ne _
  have n2 : (FloatKind.f64.format.order y.toNat y.toNat != some Ordering.eq) = nanI y := order_ne _
  have close : ∀ (v : (nanI x = true ∧ nanI y = true ∧ ((ordI x == ordI y) == (x == y)) = true) ∨ (nanI x = true ∧ nanI y = false ∧ (decide (ordI x < ordI y) == (x / 9223372036854775808 == 1)) = true)
      ∨ (nanI x = false ∧ nanI y = true ∧ (decide (ordI x < ordI y) == (y / 9223372036854775808 == 0)) = true)
      ∨ (nanI x = false ∧ nanI y = false ∧ (FloatKind.f64.format.order x.toNat y.toNat == some Ordering.eq) = true ∧ (x / 9223372036854775808 == 1) = true ∧ (y / 9223372036854775808 == 0) = true ∧ decide (ordI x < ordI y) = true)
      ∨ (nanI x = false ∧ nanI y = false ∧ (FloatKind.f64.format.order x.toNat y.toNat == some Ordering.eq) = true ∧ (x / 9223372036854775808 == 1) = true ∧ (y / 9223372036854775808 == 0) = false ∧ decide (ordI x < ordI y) = false)
      ∨ (nanI x = false ∧ nanI y = false ∧ (FloatKind.f64.format.order x.toNat y.toNat == some Ordering.eq) = true ∧ (x / 9223372036854775808 == 1) = false ∧ decide (ordI x < ordI y) = false)
      ∨ (nanI x = false ∧ nanI y = false ∧ (FloatKind.f64.format.order x.toNat y.toNat == some Ordering.eq) = false ∧ (decide (ordI x < ordI y) == (FloatKind.f64.format.order x.toNat y.toNat == some Ordering.lt)) = true)),
      Calls Try.prog 7 #[.int .u64 x, .int .u64 y] w fun e w' => e = .returned (.bool true) ∧ Bl w w' := by
    intro v
    rcases v with ⟨a1, a2, a3⟩ | ⟨a1, a2, a3⟩ | ⟨a1, a2, a3⟩ | ⟨a1, a2, a3, a4, a5, a6⟩ | ⟨a1, a2, a3, a4, a5, a6⟩ | ⟨a1, a2, a3, a4, a5⟩ | ⟨a1, a2, a3, a4⟩
    all_goals
      rw [a1] at n1
      rw [a2] at n2
      clear a1 a2
      go_enter Try.func7, Try.ntmps7
      go_wp2_with (first | (go_at_call_of 10 (Value.int IntKind.u64 x); refine (order_any x _ x0 x1).mono ?_; rintro e w' ⟨rfl, rfl⟩) | (go_at_call_of 10 (Value.int IntKind.u64 y); refine (order_any y _ y0 y1).mono ?_; rintro e w' ⟨rfl, rfl⟩) | (go_at_call_of 10 (Value.int IntKind.u64 (backI x)); refine (order_any _ _ d0 d1).mono ?_; rintro e w' ⟨rfl, rfl⟩) | (go_at_call_of 12 (Value.int IntKind.u64 x); refine (back_any x _ x0 x1).mono ?_; rintro e w' ⟨rfl, rfl⟩) | (go_at_call_of 12 (Value.int IntKind.u64 (ordI x)); refine (back_any _ _ c0 c1).mono ?_; rintro e w' ⟨rfl, rfl⟩) | (go_at_call 16; refine (awake_any _).mono ?_; rintro e w1 ⟨rfl, hb1⟩))
      go_ret
      refine ⟨rfl, ?_⟩
      assumption
  refine close ?_
  rcases nan_cases x with hx | hx <;> rcases nan_cases y with hy | hy
  · exact .inl ⟨hx, hy, so_inj x y x0 x1 y0 y1⟩
  · exact .inr (.inl ⟨hx, hy, so_left x y x0 x1 y0 y1 hx hy⟩)
  · exact .inr (.inr (.inl ⟨hx, hy, so_right x y x0 x1 y0 y1 hx hy⟩))
  · have he := order_eq x.toNat y.toNat
    have hl := order_lt x.toNat y.toNat
    rw [show nanN x.toNat = false from hx, show nanN y.toNat = false from hy] at he hl
    by_cases hr : rk x.toNat = rk y.toNat
    · have hs := so_same x y x0 x1 y0 y1 hr
      have he' : (FloatKind.f64.format.order x.toNat y.toNat == some Ordering.eq) = true := by rw [he]; simp [hr]
      by_cases hp : x / 9223372036854775808 = 1
      · by_cases hq : y / 9223372036854775808 = 0
        · exact .inr (.inr (.inr (.inl ⟨hx, hy, he', by simpa using hp, by simpa using hq, by rw [decide_eq_true_eq]; exact hs.2 ⟨hp, hq⟩⟩)))
        · exact .inr (.inr (.inr (.inr (.inl ⟨hx, hy, he', by simpa using hp, by rw [beq_eq_false_iff_ne]; exact hq, by rw [decide_eq_false_iff_not]; exact fun h => hq (hs.1 h).2⟩))))
      · exact .inr (.inr (.inr (.inr (.inr (.inl ⟨hx, hy, he', by rw [beq_eq_false_iff_ne]; exact hp, by rw [decide_eq_false_iff_not]; exact fun h => hp (hs.1 h).1⟩)))))
    · have hs := so_less x y x0 x1 y0 y1 hr
      exact .inr (.inr (.inr (.inr (.inr (.inr ⟨hx, hy, by rw [he]; simp [hr], by rw [hl, beq_iff_eq, Bool.eq_iff_iff]; simp [hs]⟩)))))
end Go.Proofs.Ytklfcogjpohcbaa
