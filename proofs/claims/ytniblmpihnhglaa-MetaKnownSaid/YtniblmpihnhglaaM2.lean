/- Walks of layer 1: Same, the reference's Apply, and the small functions of the statements' own package. -/
import Derived.Test.YtniblmpihnhglaaM1
namespace Go.Proofs.Ytniblmpihnhglaa
open Go.RowKit
set_option linter.unusedVariables false

set_option maxHeartbeats 400000 in
theorem rsum_any (x y : Int) (w : World) : Calls Try.prog 89 #[.int .u64 x, .int .u64 y] w fun e w' => e = .returned (.int .u64 (arithN .add x.toNat y.toNat)) ∧ Bl w w' := by
  have hf1 := run_from x
  have hf2 := run_from y
  have hb := run_bits
  obtain ⟨r, n, hl, hq, hrun⟩ := run_arith .add (.inl rfl) x.toNat y.toNat w
  have Hq := Lib.hid hq; clear hq
  have r0 : (0 : Int) ≤ r := by omega
  have r1 : (r : Int) < 18446744073709551616 := by omega
  go_enter Try.func89, Try.ntmps89
  go_wp2_with (go_at_call 88; refine (rquiet_any _ _ r0 r1).mono ?_; rintro e w' ⟨rfl, rfl⟩)
  go_ret
  exact ⟨ret_int Hq.out, (Bl.refl w).drewN _⟩
set_option maxHeartbeats 400000 in
theorem rprod_any (x y : Int) (w : World) : Calls Try.prog 90 #[.int .u64 x, .int .u64 y] w fun e w' => e = .returned (.int .u64 (arithN .mul x.toNat y.toNat)) ∧ Bl w w' := by
  have hf1 := run_from x
  have hf2 := run_from y
  have hb := run_bits
  obtain ⟨r, n, hl, hq, hrun⟩ := run_arith .mul (.inr rfl) x.toNat y.toNat w
  have Hq := Lib.hid hq; clear hq
  have r0 : (0 : Int) ≤ r := by omega
  have r1 : (r : Int) < 18446744073709551616 := by omega
  go_enter Try.func90, Try.ntmps90
  go_wp2_with (go_at_call 88; refine (rquiet_any _ _ r0 r1).mono ?_; rintro e w' ⟨rfl, rfl⟩)
  go_ret
  exact ⟨ret_int Hq.out, (Bl.refl w).drewN _⟩

theorem ret_fst {a b c : Int} (h : a = b) : Ending.returned (.tuple #[.int .u64 a, .int .i64 c]) = .returned (.tuple #[.int .u64 b, .int .i64 c]) := by rw [h]
set_option maxHeartbeats 400000 in
theorem rapply_set (x y : Int) (w : World) (a0 : 0 ≤ x) (a1 : x < 18446744073709551616) (b0 : 0 ≤ y) (b1 : y < 18446744073709551616) : Calls Try.prog 78 #[.int .u64 x, .int .u8 1, .int .u64 y] w fun e w' => AT (quietI y) 0 w e w' := by
  go_enter Try.func78, Try.ntmps78
  go_wp2_with (first | (go_at_call 88; refine (rquiet_any _ _ (by assumption) (by assumption)).mono ?_; rintro e w' ⟨rfl, rfl⟩))
  go_ret2
  exact ⟨rfl, Bl.refl w⟩
set_option maxHeartbeats 400000 in
theorem rapply_add (x y : Int) (w : World) (a0 : 0 ≤ x) (a1 : x < 18446744073709551616) (b0 : 0 ≤ y) (b1 : y < 18446744073709551616) : Calls Try.prog 78 #[.int .u64 x, .int .u8 2, .int .u64 y] w fun e w' => AT (arithN .add x.toNat y.toNat) 0 w e w' := by
  go_enter Try.func78, Try.ntmps78
  go_wp2_with (first | (go_at_call 89; refine (rsum_any _ _ _).mono ?_; rintro e w' ⟨rfl, hb⟩))
  go_ret2
  exact ⟨rfl, by assumption⟩
set_option maxHeartbeats 400000 in
theorem rapply_mul (x y : Int) (w : World) (a0 : 0 ≤ x) (a1 : x < 18446744073709551616) (b0 : 0 ≤ y) (b1 : y < 18446744073709551616) : Calls Try.prog 78 #[.int .u64 x, .int .u8 5, .int .u64 y] w fun e w' => AT (arithN .mul x.toNat y.toNat) 0 w e w' := by
  go_enter Try.func78, Try.ntmps78
  go_wp2_with (first | (go_at_call 90; refine (rprod_any _ _ _).mono ?_; rintro e w' ⟨rfl, hb⟩))
  go_ret2
  exact ⟨rfl, by assumption⟩
set_option maxHeartbeats 400000 in
theorem rapply_great1 (x y : Int) (w : World) (a0 : 0 ≤ x) (a1 : x < 18446744073709551616) (b0 : 0 ≤ y) (b1 : y < 18446744073709551616) (hc : ordI (quietI x) < ordI (quietI y)) : Calls Try.prog 78 #[.int .u64 x, .int .u8 3, .int .u64 y] w fun e w' => AT (greatI x y) 0 w e w' := by
  have Hv : Hid (quietI y = greatI x y) := Lib.hid (by unfold greatI; rw [if_pos hc])
  have p0 := q_lo x a0
  have p1 := q_hi x a1
  have r0 := q_lo y b0
  have r1 := q_hi y b1
  go_enter Try.func78, Try.ntmps78
  go_wp2_with (first | (go_at_call 88; refine (rquiet_any _ _ (by assumption) (by assumption)).mono ?_; rintro e w' ⟨rfl, rfl⟩) | (go_at_call 91; refine (rorder_any _ _ (by assumption) (by assumption)).mono ?_; rintro e w' ⟨rfl, rfl⟩))
  go_ret2
  exact ⟨ret_fst Hv.out, Bl.refl w⟩
set_option maxHeartbeats 400000 in
theorem rapply_great0 (x y : Int) (w : World) (a0 : 0 ≤ x) (a1 : x < 18446744073709551616) (b0 : 0 ≤ y) (b1 : y < 18446744073709551616) (hc : ¬ ordI (quietI x) < ordI (quietI y)) : Calls Try.prog 78 #[.int .u64 x, .int .u8 3, .int .u64 y] w fun e w' => AT (greatI x y) 0 w e w' := by
  have Hv : Hid (quietI x = greatI x y) := Lib.hid (by unfold greatI; rw [if_neg hc])
  have p0 := q_lo x a0
  have p1 := q_hi x a1
  have r0 := q_lo y b0
  have r1 := q_hi y b1
  go_enter Try.func78, Try.ntmps78
  go_wp2_with (first | (go_at_call 88; refine (rquiet_any _ _ (by assumption) (by assumption)).mono ?_; rintro e w' ⟨rfl, rfl⟩) | (go_at_call 91; refine (rorder_any _ _ (by assumption) (by assumption)).mono ?_; rintro e w' ⟨rfl, rfl⟩))
  go_ret2
  exact ⟨ret_fst Hv.out, Bl.refl w⟩
set_option maxHeartbeats 400000 in
theorem rapply_least1 (x y : Int) (w : World) (a0 : 0 ≤ x) (a1 : x < 18446744073709551616) (b0 : 0 ≤ y) (b1 : y < 18446744073709551616) (hc : ordI (quietI y) < ordI (quietI x)) : Calls Try.prog 78 #[.int .u64 x, .int .u8 4, .int .u64 y] w fun e w' => AT (leastI x y) 0 w e w' := by
  have Hv : Hid (quietI y = leastI x y) := Lib.hid (by unfold leastI; rw [if_pos hc])
  have p0 := q_lo x a0
  have p1 := q_hi x a1
  have r0 := q_lo y b0
  have r1 := q_hi y b1
  go_enter Try.func78, Try.ntmps78
  go_wp2_with (first | (go_at_call 88; refine (rquiet_any _ _ (by assumption) (by assumption)).mono ?_; rintro e w' ⟨rfl, rfl⟩) | (go_at_call 91; refine (rorder_any _ _ (by assumption) (by assumption)).mono ?_; rintro e w' ⟨rfl, rfl⟩))
  go_ret2
  exact ⟨ret_fst Hv.out, Bl.refl w⟩
set_option maxHeartbeats 400000 in
theorem rapply_least0 (x y : Int) (w : World) (a0 : 0 ≤ x) (a1 : x < 18446744073709551616) (b0 : 0 ≤ y) (b1 : y < 18446744073709551616) (hc : ¬ ordI (quietI y) < ordI (quietI x)) : Calls Try.prog 78 #[.int .u64 x, .int .u8 4, .int .u64 y] w fun e w' => AT (leastI x y) 0 w e w' := by
  have Hv : Hid (quietI x = leastI x y) := Lib.hid (by unfold leastI; rw [if_neg hc])
  have p0 := q_lo x a0
  have p1 := q_hi x a1
  have r0 := q_lo y b0
  have r1 := q_hi y b1
  go_enter Try.func78, Try.ntmps78
  go_wp2_with (first | (go_at_call 88; refine (rquiet_any _ _ (by assumption) (by assumption)).mono ?_; rintro e w' ⟨rfl, rfl⟩) | (go_at_call 91; refine (rorder_any _ _ (by assumption) (by assumption)).mono ?_; rintro e w' ⟨rfl, rfl⟩))
  go_ret2
  exact ⟨ret_fst Hv.out, Bl.refl w⟩
set_option maxHeartbeats 400000 in
theorem rapply_bad (x y op : Int) (w : World) (a0 : 0 ≤ x) (a1 : x < 18446744073709551616) (b0 : 0 ≤ y) (b1 : y < 18446744073709551616)  (h1 : (op == 1) = false) (h2 : (op == 2) = false) (h3 : (op == 3) = false) (h4 : (op == 4) = false) (h5 : (op == 5) = false) : Calls Try.prog 78 #[.int .u64 x, .int .u8 op, .int .u64 y] w fun e w' => AT (0) 2 w e w' := by
  go_enter Try.func78, Try.ntmps78
  go_wp2_with (first | fail)
  go_ret2
  exact ⟨rfl, Bl.refl w⟩
theorem rapply_any (x op y : Int) (w : World) (a0 : 0 ≤ x) (a1 : x < 18446744073709551616) (b0 : 0 ≤ y) (b1 : y < 18446744073709551616) : Calls Try.prog 78 #[.int .u64 x, .int .u8 op, .int .u64 y] w fun e w' => AT (stepI x op y) (stepE op) w e w' := by
  rcases op_cases op with rfl | rfl | rfl | rfl | rfl | ⟨h1, h2, h3, h4, h5⟩
  · exact rapply_set x y w a0 a1 b0 b1
  · exact rapply_add x y w a0 a1 b0 b1
  · by_cases hc : ordI (quietI x) < ordI (quietI y)
    · exact rapply_great1 x y w a0 a1 b0 b1 hc
    · exact rapply_great0 x y w a0 a1 b0 b1 hc
  · by_cases hc : ordI (quietI y) < ordI (quietI x)
    · exact rapply_least1 x y w a0 a1 b0 b1 hc
    · exact rapply_least0 x y w a0 a1 b0 b1 hc
  · exact rapply_mul x y w a0 a1 b0 b1
  · have e1 : stepI x op y = 0 := by unfold stepI; rw [if_neg h1, if_neg h2, if_neg h3, if_neg h4, if_neg h5]
    have e2 : stepE op = 2 := by unfold stepE; rw [if_neg (by omega)]
    rw [e1, e2]
    exact rapply_bad x y op w a0 a1 b0 b1 (by simpa using h1) (by simpa using h2) (by simpa using h3) (by simpa using h4) (by simpa using h5)

end Go.Proofs.Ytniblmpihnhglaa
