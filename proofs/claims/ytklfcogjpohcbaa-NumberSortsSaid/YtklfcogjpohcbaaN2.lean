/- Walks of layer 1: Same, the reference's Apply, and the small functions of the statements' own package. -/
import Derived.Test.YtklfcogjpohcbaaN1
namespace Go.Proofs.Ytklfcogjpohcbaa
open Go.RowKit
set_option linter.unusedVariables false

set_option maxHeartbeats 400000 in
theorem same_any (x y : Int) (w : World) : Calls Try.prog 17 #[.int .u64 x, .int .u64 y] w fun e w' => e = .returned (.bool (sameB x y)) ∧ w = w' := by
  have hf1 := run_from x
  have hf2 := run_from y
  have H : Hid ((FloatKind.f64.format.order x.toNat y.toNat == some Ordering.eq) = sameB x y) := Lib.hid (order_eq _ _)
  go_enter Try.func17, Try.ntmps17
  go_wp2
  go_ret
  exact ⟨ret_bool H.out, rfl⟩

set_option maxHeartbeats 400000 in
theorem isnan_any (x : Int) (w : World) : Calls Try.prog 24 #[.int .u64 x] w fun e w' => e = .returned (.bool (nanI x)) ∧ w = w' := by
  have H : Hid ((!sameB x x) = nanI x) := Lib.hid (by unfold sameB; cases nanI x <;> simp)
  go_enter Try.func24, Try.ntmps24
  go_wp2_with (go_at_call 17; refine (same_any _ _ _).mono ?_; rintro e w' ⟨rfl, rfl⟩)
  go_ret
  exact ⟨ret_bool H.out, rfl⟩

set_option maxHeartbeats 400000 in
theorem bits_any (n : Nat) (w : World) : Calls Try.prog 21 #[.float .f64 n] w fun e w' => e = .returned (.int .u64 n) ∧ w = w' := by
  have hb := run_bits
  go_enter Try.func21, Try.ntmps21
  go_wp2
  go_ret
  exact ⟨rfl, rfl⟩

theorem rsame_eq (x y : Int) (x0 : 0 ≤ x) (x1 : x < 18446744073709551616) (y0 : 0 ≤ y) (y1 : y < 18446744073709551616) (hx : nanI x = false) (hy : nanI y = false) :
    sameB x y = (decide (x = y) || (decide (x * 2 % 18446744073709551616 = 0) && decide (y * 2 % 18446744073709551616 = 0))) := by
  unfold sameB
  rw [hx, hy, Bool.eq_iff_iff]
  simp only [Bool.not_false, Bool.true_and, decide_eq_true_eq, Bool.or_eq_true, Bool.and_eq_true]
  unfold rk neg64 rung
  simp only [beq_iff_eq]
  split <;> split <;> omega

set_option maxHeartbeats 800000 in
theorem rsame_any (x y : Int) (w : World) (x0 : 0 ≤ x) (x1 : x < 18446744073709551616) (y0 : 0 ≤ y) (y1 : y < 18446744073709551616) : Calls Try.prog 18 #[.int .u64 x, .int .u64 y] w fun e w' => e = .returned (.bool (sameB x y)) ∧ w = w' := by
  rcases nan_cases x with hx | hx
  · have H : Hid (sameB x y = false) := Lib.hid (by unfold sameB; rw [hx]; rfl)
    go_enter Try.func18, Try.ntmps18
    go_wp2_with (go_at_call 25; refine (rnan_any _ _ x0 x1).mono ?_; rintro e w' ⟨rfl, rfl⟩)
    go_ret
    exact ⟨ret_bool H.out.symm, rfl⟩
  · rcases nan_cases y with hy | hy
    · have H : Hid (sameB x y = false) := Lib.hid (by unfold sameB; rw [hx, hy]; rfl)
      go_enter Try.func18, Try.ntmps18
      go_wp2_with (go_at_call 25; refine (rnan_any _ _ (by assumption) (by assumption)).mono ?_; rintro e w' ⟨rfl, rfl⟩)
      go_ret
      exact ⟨ret_bool H.out.symm, rfl⟩
    · have hs := rsame_eq x y x0 x1 y0 y1 hx hy
      have Hs := Lib.hid hs; clear hs
      have Hw1 := Lib.hid (IntKind.wrap_u64 (x * 2))
      have Hw2 := Lib.hid (IntKind.wrap_u64 (y * 2))
      by_cases hc : x = y
      · subst hc
        go_enter Try.func18, Try.ntmps18
        go_wp2_with (go_at_call 25; refine (rnan_any _ _ x0 x1).mono ?_; rintro e w' ⟨rfl, rfl⟩)
        go_ret
        exact ⟨ret_bool (by rw [Hs.out]; simp), rfl⟩
      · have hc' : (x == y) = false := by simpa using hc
        by_cases hz : x * 2 % 18446744073709551616 = 0
        · have hz' : (IntKind.u64.wrap (x * 2) == 0) = true := by rw [Hw1.out, hz]; rfl
          have Hz := Lib.hid hz; clear hz
          go_enter Try.func18, Try.ntmps18
          go_wp2_with (go_at_call 25; refine (rnan_any _ _ (by assumption) (by assumption)).mono ?_; rintro e w' ⟨rfl, rfl⟩)
          go_ret
          exact ⟨ret_bool (by rw [Hs.out, Hz.out, Hw2.out]; simp [hc]; rfl), rfl⟩
        · have hz' : (IntKind.u64.wrap (x * 2) == 0) = false := by rw [Hw1.out]; simpa using hz
          have Hz := Lib.hid hz; clear hz
          go_enter Try.func18, Try.ntmps18
          go_wp2_with (go_at_call 25; refine (rnan_any _ _ (by assumption) (by assumption)).mono ?_; rintro e w' ⟨rfl, rfl⟩)
          go_ret
          exact ⟨ret_bool (by rw [Hs.out]; have := Hz.out; simp [hc, this]), rfl⟩

set_option maxHeartbeats 400000 in
theorem rsum_any (x y : Int) (w : World) : Calls Try.prog 30 #[.int .u64 x, .int .u64 y] w fun e w' => e = .returned (.int .u64 (arithN .add x.toNat y.toNat)) ∧ Bl w w' := by
  have hf1 := run_from x
  have hf2 := run_from y
  have hb := run_bits
  obtain ⟨r, n, hl, hq, hrun⟩ := run_arith .add (.inl rfl) x.toNat y.toNat w
  have Hq := Lib.hid hq; clear hq
  have r0 : (0 : Int) ≤ r := by omega
  have r1 : (r : Int) < 18446744073709551616 := by omega
  go_enter Try.func30, Try.ntmps30
  go_wp2_with (go_at_call 15; refine (rquiet_any _ _ r0 r1).mono ?_; rintro e w' ⟨rfl, rfl⟩)
  go_ret
  exact ⟨ret_int Hq.out, (Bl.refl w).drewN _⟩
set_option maxHeartbeats 400000 in
theorem rprod_any (x y : Int) (w : World) : Calls Try.prog 31 #[.int .u64 x, .int .u64 y] w fun e w' => e = .returned (.int .u64 (arithN .mul x.toNat y.toNat)) ∧ Bl w w' := by
  have hf1 := run_from x
  have hf2 := run_from y
  have hb := run_bits
  obtain ⟨r, n, hl, hq, hrun⟩ := run_arith .mul (.inr rfl) x.toNat y.toNat w
  have Hq := Lib.hid hq; clear hq
  have r0 : (0 : Int) ≤ r := by omega
  have r1 : (r : Int) < 18446744073709551616 := by omega
  go_enter Try.func31, Try.ntmps31
  go_wp2_with (go_at_call 15; refine (rquiet_any _ _ r0 r1).mono ?_; rintro e w' ⟨rfl, rfl⟩)
  go_ret
  exact ⟨ret_int Hq.out, (Bl.refl w).drewN _⟩

theorem ret_fst {a b c : Int} (h : a = b) : Ending.returned (.tuple #[.int .u64 a, .int .i64 c]) = .returned (.tuple #[.int .u64 b, .int .i64 c]) := by rw [h]
set_option maxHeartbeats 400000 in
theorem rapply_set (x y : Int) (w : World) (a0 : 0 ≤ x) (a1 : x < 18446744073709551616) (b0 : 0 ≤ y) (b1 : y < 18446744073709551616) : Calls Try.prog 20 #[.int .u64 x, .int .u8 1, .int .u64 y] w fun e w' => AT (quietI y) 0 w e w' := by
  go_enter Try.func20, Try.ntmps20
  go_wp2_with (first | (go_at_call 15; refine (rquiet_any _ _ (by assumption) (by assumption)).mono ?_; rintro e w' ⟨rfl, rfl⟩))
  go_ret2
  exact ⟨rfl, Bl.refl w⟩
set_option maxHeartbeats 400000 in
theorem rapply_add (x y : Int) (w : World) (a0 : 0 ≤ x) (a1 : x < 18446744073709551616) (b0 : 0 ≤ y) (b1 : y < 18446744073709551616) : Calls Try.prog 20 #[.int .u64 x, .int .u8 2, .int .u64 y] w fun e w' => AT (arithN .add x.toNat y.toNat) 0 w e w' := by
  go_enter Try.func20, Try.ntmps20
  go_wp2_with (first | (go_at_call 30; refine (rsum_any _ _ _).mono ?_; rintro e w' ⟨rfl, hb⟩))
  go_ret2
  exact ⟨rfl, by assumption⟩
set_option maxHeartbeats 400000 in
theorem rapply_mul (x y : Int) (w : World) (a0 : 0 ≤ x) (a1 : x < 18446744073709551616) (b0 : 0 ≤ y) (b1 : y < 18446744073709551616) : Calls Try.prog 20 #[.int .u64 x, .int .u8 5, .int .u64 y] w fun e w' => AT (arithN .mul x.toNat y.toNat) 0 w e w' := by
  go_enter Try.func20, Try.ntmps20
  go_wp2_with (first | (go_at_call 31; refine (rprod_any _ _ _).mono ?_; rintro e w' ⟨rfl, hb⟩))
  go_ret2
  exact ⟨rfl, by assumption⟩
set_option maxHeartbeats 400000 in
theorem rapply_great1 (x y : Int) (w : World) (a0 : 0 ≤ x) (a1 : x < 18446744073709551616) (b0 : 0 ≤ y) (b1 : y < 18446744073709551616) (hc : ordI (quietI x) < ordI (quietI y)) : Calls Try.prog 20 #[.int .u64 x, .int .u8 3, .int .u64 y] w fun e w' => AT (greatI x y) 0 w e w' := by
  have Hv : Hid (quietI y = greatI x y) := Lib.hid (by unfold greatI; rw [if_pos hc])
  have p0 := q_lo x a0
  have p1 := q_hi x a1
  have r0 := q_lo y b0
  have r1 := q_hi y b1
  go_enter Try.func20, Try.ntmps20
  go_wp2_with (first | (go_at_call 15; refine (rquiet_any _ _ (by assumption) (by assumption)).mono ?_; rintro e w' ⟨rfl, rfl⟩) | (go_at_call 11; refine (rorder_any _ _ (by assumption) (by assumption)).mono ?_; rintro e w' ⟨rfl, rfl⟩))
  go_ret2
  exact ⟨ret_fst Hv.out, Bl.refl w⟩
set_option maxHeartbeats 400000 in
theorem rapply_great0 (x y : Int) (w : World) (a0 : 0 ≤ x) (a1 : x < 18446744073709551616) (b0 : 0 ≤ y) (b1 : y < 18446744073709551616) (hc : ¬ ordI (quietI x) < ordI (quietI y)) : Calls Try.prog 20 #[.int .u64 x, .int .u8 3, .int .u64 y] w fun e w' => AT (greatI x y) 0 w e w' := by
  have Hv : Hid (quietI x = greatI x y) := Lib.hid (by unfold greatI; rw [if_neg hc])
  have p0 := q_lo x a0
  have p1 := q_hi x a1
  have r0 := q_lo y b0
  have r1 := q_hi y b1
  go_enter Try.func20, Try.ntmps20
  go_wp2_with (first | (go_at_call 15; refine (rquiet_any _ _ (by assumption) (by assumption)).mono ?_; rintro e w' ⟨rfl, rfl⟩) | (go_at_call 11; refine (rorder_any _ _ (by assumption) (by assumption)).mono ?_; rintro e w' ⟨rfl, rfl⟩))
  go_ret2
  exact ⟨ret_fst Hv.out, Bl.refl w⟩
set_option maxHeartbeats 400000 in
theorem rapply_least1 (x y : Int) (w : World) (a0 : 0 ≤ x) (a1 : x < 18446744073709551616) (b0 : 0 ≤ y) (b1 : y < 18446744073709551616) (hc : ordI (quietI y) < ordI (quietI x)) : Calls Try.prog 20 #[.int .u64 x, .int .u8 4, .int .u64 y] w fun e w' => AT (leastI x y) 0 w e w' := by
  have Hv : Hid (quietI y = leastI x y) := Lib.hid (by unfold leastI; rw [if_pos hc])
  have p0 := q_lo x a0
  have p1 := q_hi x a1
  have r0 := q_lo y b0
  have r1 := q_hi y b1
  go_enter Try.func20, Try.ntmps20
  go_wp2_with (first | (go_at_call 15; refine (rquiet_any _ _ (by assumption) (by assumption)).mono ?_; rintro e w' ⟨rfl, rfl⟩) | (go_at_call 11; refine (rorder_any _ _ (by assumption) (by assumption)).mono ?_; rintro e w' ⟨rfl, rfl⟩))
  go_ret2
  exact ⟨ret_fst Hv.out, Bl.refl w⟩
set_option maxHeartbeats 400000 in
theorem rapply_least0 (x y : Int) (w : World) (a0 : 0 ≤ x) (a1 : x < 18446744073709551616) (b0 : 0 ≤ y) (b1 : y < 18446744073709551616) (hc : ¬ ordI (quietI y) < ordI (quietI x)) : Calls Try.prog 20 #[.int .u64 x, .int .u8 4, .int .u64 y] w fun e w' => AT (leastI x y) 0 w e w' := by
  have Hv : Hid (quietI x = leastI x y) := Lib.hid (by unfold leastI; rw [if_neg hc])
  have p0 := q_lo x a0
  have p1 := q_hi x a1
  have r0 := q_lo y b0
  have r1 := q_hi y b1
  go_enter Try.func20, Try.ntmps20
  go_wp2_with (first | (go_at_call 15; refine (rquiet_any _ _ (by assumption) (by assumption)).mono ?_; rintro e w' ⟨rfl, rfl⟩) | (go_at_call 11; refine (rorder_any _ _ (by assumption) (by assumption)).mono ?_; rintro e w' ⟨rfl, rfl⟩))
  go_ret2
  exact ⟨ret_fst Hv.out, Bl.refl w⟩
set_option maxHeartbeats 400000 in
theorem rapply_bad (x y op : Int) (w : World) (a0 : 0 ≤ x) (a1 : x < 18446744073709551616) (b0 : 0 ≤ y) (b1 : y < 18446744073709551616)  (h1 : (op == 1) = false) (h2 : (op == 2) = false) (h3 : (op == 3) = false) (h4 : (op == 4) = false) (h5 : (op == 5) = false) : Calls Try.prog 20 #[.int .u64 x, .int .u8 op, .int .u64 y] w fun e w' => AT (0) 2 w e w' := by
  go_enter Try.func20, Try.ntmps20
  go_wp2_with (first | fail)
  go_ret2
  exact ⟨rfl, Bl.refl w⟩
theorem rapply_any (x op y : Int) (w : World) (a0 : 0 ≤ x) (a1 : x < 18446744073709551616) (b0 : 0 ≤ y) (b1 : y < 18446744073709551616) : Calls Try.prog 20 #[.int .u64 x, .int .u8 op, .int .u64 y] w fun e w' => AT (stepI x op y) (stepE op) w e w' := by
  rcases op_cases op with rfl | rfl | rfl | rfl | rfl | ⟨h1, h2, h3, h4, h5⟩
  · exact rapply_set x y w a0 a1 b0 b1
  · exact rapply_add x y w a0 a1 b0 b1
  · by_cases hc : ordI (quietI x) < ordI (quietI y)
    · exact rapply_great1 x y w a0 a1 b0 b1 hc
    · exact rapply_great0 x y w a0 a1 b0 b1 hc
  · by_cases hc : ordI (quietI y) < ordI (quietI x)
    · exact rapply_least1 x y w a0 a1 b0 b1 hc
    · exact rapply_least0 x y w a0 a1 b0 b1 hc
  · exact rapply_mul x y w a0 a1 b0 b1
  · have e1 : stepI x op y = 0 := by unfold stepI; rw [if_neg h1, if_neg h2, if_neg h3, if_neg h4, if_neg h5]
    have e2 : stepE op = 2 := by unfold stepE; rw [if_neg (by omega)]
    rw [e1, e2]
    exact rapply_bad x y op w a0 a1 b0 b1 (by simpa using h1) (by simpa using h2) (by simpa using h3) (by simpa using h4) (by simpa using h5)

set_option maxHeartbeats 400000 in
/-- 'is' answers true where the step makes just that. -/
theorem is_true (x op y want : Int) (w : World) (a0 : 0 ≤ x) (a1 : x < 18446744073709551616) (b0 : 0 ≤ y) (b1 : y < 18446744073709551616) (hv : stepI x op y = want) (he : stepE op = 0) :
    Calls Try.prog 22 #[.int .u64 x, .int .u8 op, .int .u64 y, .int .u64 want] w fun e w' => e = .returned (.bool true) ∧ Bl w w' := by
  have hA := fun w => apply_any x op y w a0 a1 b0 b1
  rw [hv, he] at hA
  have HA := Lib.hid hA; clear hA hv he
  go_enter Try.func22, Try.ntmps22
  go_wp2_with (go_at_call 19; refine (HA.out _).mono ?_; rintro e w' ⟨rfl, hb⟩)
  go_ret
  exact ⟨rfl, by assumption⟩

end Go.Proofs.Ytklfcogjpohcbaa
