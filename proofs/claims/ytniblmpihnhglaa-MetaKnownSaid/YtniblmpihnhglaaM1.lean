/- Walks of number.Apply and of the reference's Apply, Sum, Product: what each returns; the world below its own blocks is as it was. -/
import Derived.Test.YtniblmpihnhglaaM0
import Derived.Laws.FloatArith
import Derived.Deep.QuietTactic
import Derived.BigQuiet
import Derived.StillTailTactics
namespace Go.Proofs.Ytniblmpihnhglaa
open Go.RowKit

/-- Quiet of a sum or product. -/
def arithN (op : BinOp) (x y : Nat) : Int :=
  match floatBits op .f64 x y with
  | some r => quietI r
  | none => 9221120237041090561
def FA (op : BinOp) (x y : Nat) (w : World) (e : Ending) (w' : World) : Prop := ∃ r n : Nat, e = .returned (.float .f64 r) ∧ quietI r = arithN op x y ∧ w' = w.drewN n

theorem nan_drawn (t : Nat) : nanN ((t % 2) * 2 ^ 63 + 0x7ff0000000000000 + 1 + (t / 2) % (2 ^ 52 - 1)) = true := by
  unfold nanN rung
  rw [decide_eq_true_eq]
  have h2 : (t / 2) % (2 ^ 52 - 1) < 4503599627370495 := Nat.mod_lt _ (by decide)
  generalize (t / 2) % (2 ^ 52 - 1) = u at *
  omega
theorem drawn_lt (t : Nat) : (t % 2) * 2 ^ 63 + 0x7ff0000000000000 + 1 + (t / 2) % (2 ^ 52 - 1) < 18446744073709551616 := by
  have h2 : (t / 2) % (2 ^ 52 - 1) < 4503599627370495 := Nat.mod_lt _ (by decide)
  generalize (t / 2) % (2 ^ 52 - 1) = u at *
  omega
theorem quiet_nan (r : Nat) (h : nanN r = true) : quietI r = 9221120237041090561 := by
  unfold quietI nanI; rw [Int.toNat_natCast, h]; rfl

theorem run_arith_none (op : BinOp) (ho : op = .add ∨ op = .mul) (x y : Nat) (w : World) (h : floatBits op .f64 x y = none) : ∃ r : Nat, r < 18446744073709551616 ∧ nanN r = true ∧ (binOp op 131 (.float .f64 x) (.float .f64 y)).run Try.prog w = .ok (.float .f64 r) w.drew := by
  refine ⟨_, drawn_lt (w.tape w.drawn (Question.nanBits .f64 x y)), nan_drawn (w.tape w.drawn (Question.nanBits .f64 x y)), ?_⟩
  rcases ho with rfl | rfl <;> simp only [floatBits] at h <;> simp [binOp, Op.floatArith, h, Question.forced, Question.cut]
theorem run_arith (op : BinOp) (ho : op = .add ∨ op = .mul) (x y : Nat) (w : World) : ∃ r n : Nat, r < 18446744073709551616 ∧ quietI r = arithN op x y ∧ (binOp op 131 (.float .f64 x) (.float .f64 y)).run Try.prog w = .ok (.float .f64 r) (w.drewN n) := by
  cases h : floatBits op .f64 x y with
  | some r => exact ⟨r, 0, by have := floatBits_wf h; simpa [Lit.wf] using this, by unfold arithN; rw [h], run_float_arith w op 131 .f64 x y r h⟩
  | none =>
    obtain ⟨r, hl, hr, hrun⟩ := run_arith_none op ho x y w h
    exact ⟨r, 1, hl, by unfold arithN; rw [h]; exact quiet_nan r hr, hrun⟩

set_option maxHeartbeats 400000 in
theorem fadd (x y : Nat) (w : World) : Calls Try.prog 84 #[.float .f64 x, .float .f64 y] w fun e w' => FA .add x y w e w' := by
  obtain ⟨r, n, _, hq, hrun⟩ := run_arith .add (.inl rfl) x y w
  have Hq := Lib.hid hq; clear hq
  go_enter Try.func84, Try.ntmps84
  go_wp2
  go_ret
  exact ⟨r, n, rfl, Hq.out, rfl⟩
set_option maxHeartbeats 400000 in
theorem fmul (x y : Nat) (w : World) : Calls Try.prog 85 #[.float .f64 x, .float .f64 y] w fun e w' => FA .mul x y w e w' := by
  obtain ⟨r, n, _, hq, hrun⟩ := run_arith .mul (.inr rfl) x y w
  have Hq := Lib.hid hq; clear hq
  go_enter Try.func85, Try.ntmps85
  go_wp2
  go_ret
  exact ⟨r, n, rfl, Hq.out, rfl⟩

def FT (op : BinOp) (x y : Int) (w : World) (e : Ending) (w' : World) : Prop := e = .returned (.tuple #[.int .u64 (arithN op x.toNat y.toNat), .int .i64 0]) ∧ ∃ n : Nat, w' = w.drewN n

set_option maxRecDepth 100000 in
set_option maxHeartbeats 400000 in
theorem floats_add (p q : Nat) (x y : Int) (w : World) (hx : w.cell? ⟨p, 0, none⟩ = some (.int .u64 x)) (hy : w.cell? ⟨q, 1, none⟩ = some (.int .u64 y)) :
   Calls Try.prog 81 #[.func (.func 84) #[] #[], .pointer (some ⟨p, 0, none⟩), .pointer (some ⟨q, 0, none⟩)] w fun e w' => FT .add x y w e w' := by
  have hf1 := run_from x
  have hf2 := run_from y
  have hb := run_bits
  go_enter Try.func81, Try.ntmps81
  go_wp2_with fail
  go_still_tail 6, (by kernel_rfl)
  go_wp2_with (go_at_call 84; refine (fadd _ _ _).mono ?_; rintro e w' ⟨r, n, rfl, hr, rfl⟩; have Hr := Lib.hid hr; clear hr)
  go_wp2_with (go_at_call 79; refine (quiet_any _ _).mono ?_; rintro e w' ⟨rfl, rfl⟩)
  go_ret2
  exact ⟨ret_pair Hr.out, _, rfl⟩

set_option maxRecDepth 100000 in
set_option maxHeartbeats 400000 in
theorem floats_mul (p q : Nat) (x y : Int) (w : World) (hx : w.cell? ⟨p, 0, none⟩ = some (.int .u64 x)) (hy : w.cell? ⟨q, 1, none⟩ = some (.int .u64 y)) :
   Calls Try.prog 81 #[.func (.func 85) #[] #[], .pointer (some ⟨p, 0, none⟩), .pointer (some ⟨q, 0, none⟩)] w fun e w' => FT .mul x y w e w' := by
  have hf1 := run_from x
  have hf2 := run_from y
  have hb := run_bits
  go_enter Try.func81, Try.ntmps81
  go_wp2_with fail
  go_still_tail 6, (by kernel_rfl)
  go_wp2_with (go_at_call 85; refine (fmul _ _ _).mono ?_; rintro e w' ⟨r, n, rfl, hr, rfl⟩; have Hr := Lib.hid hr; clear hr)
  go_wp2_with (go_at_call 79; refine (quiet_any _ _).mono ?_; rintro e w' ⟨rfl, rfl⟩)
  go_ret2
  exact ⟨ret_pair Hr.out, _, rfl⟩


theorem q_lo (x : Int) (h0 : 0 ≤ x) : 0 ≤ quietI x := by unfold quietI; split <;> omega
theorem q_hi (x : Int) (h1 : x < 18446744073709551616) : quietI x < 18446744073709551616 := by unfold quietI; split <;> omega
theorem o_lo (x : Int) (h0 : 0 ≤ x) (h1 : x < 18446744073709551616) : 0 ≤ ordI x := by unfold ordI; split <;> omega
theorem o_hi (x : Int) (h0 : 0 ≤ x) (h1 : x < 18446744073709551616) : ordI x < 18446744073709551616 := by unfold ordI; split <;> omega
theorem back_ord (x : Int) (h0 : 0 ≤ x) (h1 : x < 18446744073709551616) : backI (ordI x) = x := by unfold backI ordI; split <;> split <;> omega
theorem ord_back (x : Int) (h0 : 0 ≤ x) (h1 : x < 18446744073709551616) : ordI (backI x) = x := by unfold backI ordI; split <;> split <;> omega

def greatI (x y : Int) : Int := if ordI (quietI x) < ordI (quietI y) then quietI y else quietI x
def leastI (x y : Int) : Int := if ordI (quietI y) < ordI (quietI x) then quietI y else quietI x

theorem below_two (w : World) (c d : Array Value) (t u : TypeId) (n : Nat) : Bl w (((w.alloc (.cells c t)).alloc (.cells d u)).drewN n) :=
  below_drewN (((Below.refl _ _).alloc (Nat.le_refl _) _).alloc (by simp) _) n

def AT (v e0 : Int) (w : World) (e : Ending) (w' : World) : Prop := e = .returned (.tuple #[.int .u64 v, .int .i64 e0]) ∧ Bl w w'

set_option maxHeartbeats 400000 in
theorem apply_set (x y : Int) (w : World) : Calls Try.prog 76 #[.int .u64 x, .agg #[.int .u8 1, .int .u64 y]] w fun e w' => AT (quietI y) 0 w e w' := by
  go_enter Try.func76, Try.ntmps76
  go_wp2_with fail
  go_quiet ((go_at_call 79; exact quiet_pure (quiet_any _)))
  go_wp2_with fail
  go_ret2
  exact ⟨rfl, below_two ..⟩
set_option maxHeartbeats 400000 in
theorem apply_add (x y : Int) (w : World) : Calls Try.prog 76 #[.int .u64 x, .agg #[.int .u8 2, .int .u64 y]] w fun e w' => AT (arithN .add x.toNat y.toNat) 0 w e w' := by
  go_enter Try.func76, Try.ntmps76
  go_wp2_with fail
  go_quiet ((go_at_call 79; exact quiet_pure (quiet_any _)))
  go_wp2_with (go_at_call 81; refine (floats_add _ _ x y _ ?_ ?_).mono ?_; (simp [go_sem]); (simp [go_sem]); rintro e w' ⟨rfl, n, rfl⟩)
  go_ret2
  exact ⟨rfl, below_two ..⟩
set_option maxHeartbeats 400000 in
theorem apply_mul (x y : Int) (w : World) : Calls Try.prog 76 #[.int .u64 x, .agg #[.int .u8 5, .int .u64 y]] w fun e w' => AT (arithN .mul x.toNat y.toNat) 0 w e w' := by
  go_enter Try.func76, Try.ntmps76
  go_wp2_with fail
  go_quiet ((go_at_call 79; exact quiet_pure (quiet_any _)))
  go_wp2_with (go_at_call 81; refine (floats_mul _ _ x y _ ?_ ?_).mono ?_; (simp [go_sem]); (simp [go_sem]); rintro e w' ⟨rfl, n, rfl⟩)
  go_ret2
  exact ⟨rfl, below_two ..⟩
theorem not_gt {a b : Int} (h : ¬ a < b) : decide (b ≤ a) = true := by rw [decide_eq_true_eq]; omega
set_option maxHeartbeats 400000 in
theorem apply_great1 (x y : Int) (w : World) (a0 : 0 ≤ x) (a1 : x < 18446744073709551616) (b0 : 0 ≤ y) (b1 : y < 18446744073709551616) (hc : ordI (quietI x) < ordI (quietI y)) : Calls Try.prog 76 #[.int .u64 x, .agg #[.int .u8 3, .int .u64 y]] w fun e w' => AT (greatI x y) 0 w e w' := by
  have hv : backI (ordI (quietI y)) = greatI x y := by unfold greatI; rw [if_pos hc]; exact back_ord _ (q_lo _ (by omega)) (q_hi _ (by omega))
  have Hv := Lib.hid hv; clear hv
  have p0 := q_lo x a0
  have p1 := q_hi x a1
  have r0 := q_lo y b0
  have r1 := q_hi y b1
  have p2 := o_lo _ p0 p1
  have p3 := o_hi _ p0 p1
  have r2 := o_lo _ r0 r1
  have r3 := o_hi _ r0 r1
  go_enter Try.func76, Try.ntmps76
  go_wp2_with fail
  go_quiet ((go_at_call 79; exact quiet_pure (quiet_any _)))
  go_wp2_with (first | (go_at_call 87; refine (order_any _ _ (by assumption) (by assumption)).mono ?_; rintro e w' ⟨rfl, rfl⟩) | (go_at_call 86; refine (back_any _ _ (by assumption) (by assumption)).mono ?_; rintro e w' ⟨rfl, rfl⟩))
  go_ret2
  exact ⟨ret_pair Hv.out, below_two ..⟩
set_option maxHeartbeats 400000 in
theorem apply_great0 (x y : Int) (w : World) (a0 : 0 ≤ x) (a1 : x < 18446744073709551616) (b0 : 0 ≤ y) (b1 : y < 18446744073709551616) (hc : ¬ ordI (quietI x) < ordI (quietI y)) : Calls Try.prog 76 #[.int .u64 x, .agg #[.int .u8 3, .int .u64 y]] w fun e w' => AT (greatI x y) 0 w e w' := by
  have hv : backI (ordI (quietI x)) = greatI x y := by unfold greatI; rw [if_neg hc]; exact back_ord _ (q_lo _ (by omega)) (q_hi _ (by omega))
  have Hv := Lib.hid hv; clear hv
  have p0 := q_lo x a0
  have p1 := q_hi x a1
  have r0 := q_lo y b0
  have r1 := q_hi y b1
  have p2 := o_lo _ p0 p1
  have p3 := o_hi _ p0 p1
  have r2 := o_lo _ r0 r1
  have r3 := o_hi _ r0 r1
  go_enter Try.func76, Try.ntmps76
  go_wp2_with fail
  go_quiet ((go_at_call 79; exact quiet_pure (quiet_any _)))
  go_wp2_with (first | (go_at_call 87; refine (order_any _ _ (by assumption) (by assumption)).mono ?_; rintro e w' ⟨rfl, rfl⟩) | (go_at_call 86; refine (back_any _ _ (by assumption) (by assumption)).mono ?_; rintro e w' ⟨rfl, rfl⟩))
  go_ret2
  exact ⟨ret_pair Hv.out, below_two ..⟩
set_option maxHeartbeats 400000 in
theorem apply_least1 (x y : Int) (w : World) (a0 : 0 ≤ x) (a1 : x < 18446744073709551616) (b0 : 0 ≤ y) (b1 : y < 18446744073709551616) (hc : ordI (quietI y) < ordI (quietI x)) : Calls Try.prog 76 #[.int .u64 x, .agg #[.int .u8 4, .int .u64 y]] w fun e w' => AT (leastI x y) 0 w e w' := by
  have hv : backI (ordI (quietI y)) = leastI x y := by unfold leastI; rw [if_pos hc]; exact back_ord _ (q_lo _ (by omega)) (q_hi _ (by omega))
  have Hv := Lib.hid hv; clear hv
  have p0 := q_lo x a0
  have p1 := q_hi x a1
  have r0 := q_lo y b0
  have r1 := q_hi y b1
  have p2 := o_lo _ p0 p1
  have p3 := o_hi _ p0 p1
  have r2 := o_lo _ r0 r1
  have r3 := o_hi _ r0 r1
  go_enter Try.func76, Try.ntmps76
  go_wp2_with fail
  go_quiet ((go_at_call 79; exact quiet_pure (quiet_any _)))
  go_wp2_with (first | (go_at_call 87; refine (order_any _ _ (by assumption) (by assumption)).mono ?_; rintro e w' ⟨rfl, rfl⟩) | (go_at_call 86; refine (back_any _ _ (by assumption) (by assumption)).mono ?_; rintro e w' ⟨rfl, rfl⟩))
  go_ret2
  exact ⟨ret_pair Hv.out, below_two ..⟩
set_option maxHeartbeats 400000 in
theorem apply_least0 (x y : Int) (w : World) (a0 : 0 ≤ x) (a1 : x < 18446744073709551616) (b0 : 0 ≤ y) (b1 : y < 18446744073709551616) (hc : ¬ ordI (quietI y) < ordI (quietI x)) : Calls Try.prog 76 #[.int .u64 x, .agg #[.int .u8 4, .int .u64 y]] w fun e w' => AT (leastI x y) 0 w e w' := by
  have hv : backI (ordI (quietI x)) = leastI x y := by unfold leastI; rw [if_neg hc]; exact back_ord _ (q_lo _ (by omega)) (q_hi _ (by omega))
  have Hv := Lib.hid hv; clear hv
  have p0 := q_lo x a0
  have p1 := q_hi x a1
  have r0 := q_lo y b0
  have r1 := q_hi y b1
  have p2 := o_lo _ p0 p1
  have p3 := o_hi _ p0 p1
  have r2 := o_lo _ r0 r1
  have r3 := o_hi _ r0 r1
  go_enter Try.func76, Try.ntmps76
  go_wp2_with fail
  go_quiet ((go_at_call 79; exact quiet_pure (quiet_any _)))
  go_wp2_with (first | (go_at_call 87; refine (order_any _ _ (by assumption) (by assumption)).mono ?_; rintro e w' ⟨rfl, rfl⟩) | (go_at_call 86; refine (back_any _ _ (by assumption) (by assumption)).mono ?_; rintro e w' ⟨rfl, rfl⟩))
  go_ret2
  exact ⟨ret_pair Hv.out, below_two ..⟩

theorem apply_great (x y : Int) (w : World) (a0 : 0 ≤ x) (a1 : x < 18446744073709551616) (b0 : 0 ≤ y) (b1 : y < 18446744073709551616) : Calls Try.prog 76 #[.int .u64 x, .agg #[.int .u8 3, .int .u64 y]] w fun e w' => AT (greatI x y) 0 w e w' := by
  by_cases hc : ordI (quietI x) < ordI (quietI y)
  · exact apply_great1 x y w a0 a1 b0 b1 hc
  · exact apply_great0 x y w a0 a1 b0 b1 hc
theorem apply_least (x y : Int) (w : World) (a0 : 0 ≤ x) (a1 : x < 18446744073709551616) (b0 : 0 ≤ y) (b1 : y < 18446744073709551616) : Calls Try.prog 76 #[.int .u64 x, .agg #[.int .u8 4, .int .u64 y]] w fun e w' => AT (leastI x y) 0 w e w' := by
  by_cases hc : ordI (quietI y) < ordI (quietI x)
  · exact apply_least1 x y w a0 a1 b0 b1 hc
  · exact apply_least0 x y w a0 a1 b0 b1 hc
set_option maxHeartbeats 400000 in
theorem apply_bad (x y op : Int) (w : World) (h1 : (op == 1) = false) (h2 : (op == 2) = false) (h3 : (op == 3) = false) (h4 : (op == 4) = false) (h5 : (op == 5) = false) : Calls Try.prog 76 #[.int .u64 x, .agg #[.int .u8 op, .int .u64 y]] w fun e w' => AT 0 2 w e w' := by
  go_enter Try.func76, Try.ntmps76
  go_wp2_with fail
  go_quiet ((go_at_call 79; exact quiet_pure (quiet_any _)))
  go_wp2_with fail
  go_ret2
  exact ⟨rfl, below_two ..⟩

/-- What a step makes of a mark. -/
def stepI (x op y : Int) : Int := if op = 1 then quietI y else if op = 2 then arithN .add x.toNat y.toNat else if op = 3 then greatI x y else if op = 4 then leastI x y else if op = 5 then arithN .mul x.toNat y.toNat else 0
def stepE (op : Int) : Int := if 1 ≤ op ∧ op ≤ 5 then 0 else 2

theorem op_cases (op : Int) : op = 1 ∨ op = 2 ∨ op = 3 ∨ op = 4 ∨ op = 5 ∨ (op ≠ 1 ∧ op ≠ 2 ∧ op ≠ 3 ∧ op ≠ 4 ∧ op ≠ 5) := by omega
theorem apply_any (x op y : Int) (w : World) (a0 : 0 ≤ x) (a1 : x < 18446744073709551616) (b0 : 0 ≤ y) (b1 : y < 18446744073709551616) : Calls Try.prog 76 #[.int .u64 x, .agg #[.int .u8 op, .int .u64 y]] w fun e w' => AT (stepI x op y) (stepE op) w e w' := by
  rcases op_cases op with rfl | rfl | rfl | rfl | rfl | ⟨h1, h2, h3, h4, h5⟩
  · exact apply_set x y w
  · exact apply_add x y w
  · exact apply_great x y w a0 a1 b0 b1
  · exact apply_least x y w a0 a1 b0 b1
  · exact apply_mul x y w
  · have e1 : stepI x op y = 0 := by unfold stepI; rw [if_neg h1, if_neg h2, if_neg h3, if_neg h4, if_neg h5]
    have e2 : stepE op = 2 := by unfold stepE; rw [if_neg (by omega)]
    rw [e1, e2]
    exact apply_bad x y op w (by simpa using h1) (by simpa using h2) (by simpa using h3) (by simpa using h4) (by simpa using h5)

end Go.Proofs.Ytniblmpihnhglaa
