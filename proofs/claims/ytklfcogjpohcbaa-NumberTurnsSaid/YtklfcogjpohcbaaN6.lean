/- Layer 1: the walk of NumberTurns, and the plain laws that it stands on. -/
import Derived.Test.YtklfcogjpohcbaaN4
namespace Go.Proofs.Ytklfcogjpohcbaa
open Go.RowKit
set_option linter.unusedVariables false

theorem sum_comm (a b : Ieee.Datum) : a.sum b = b.sum a := by
  cases a <;> cases b <;> simp only [Ieee.Datum.sum]
  · rename_i s m i t n j
    rw [Int.min_comm, Int.add_comm (Ieee.signed s m _), Bool.and_comm]
  · rename_i s t
    cases s <;> cases t <;> rfl
theorem product_comm (a b : Ieee.Datum) : a.product b = b.product a := by
  cases a <;> cases b <;> simp only [Ieee.Datum.product]
  · rename_i s m i t n j
    rw [Bool.xor_comm, Nat.mul_comm, Int.add_comm]
  · rw [Bool.xor_comm]
theorem arith_comm (op : BinOp) (ho : op = .add ∨ op = .mul) (x y : Nat) : arithN op x y = arithN op y x := by
  unfold arithN floatBits
  rcases ho with rfl | rfl
  · simp only [Ieee.Format.add, sum_comm (FloatKind.f64.format.read x)]
  · simp only [Ieee.Format.mul, product_comm (FloatKind.f64.format.read x)]

theorem ord_inj {x y : Int} (x0 : 0 ≤ x) (x1 : x < 18446744073709551616) (y0 : 0 ≤ y) (y1 : y < 18446744073709551616) (h : ordI x = ordI y) : x = y := by
  rw [← back_ord x x0 x1, h, back_ord y y0 y1]
theorem great_comm (x y : Int) (x0 : 0 ≤ x) (x1 : x < 18446744073709551616) (y0 : 0 ≤ y) (y1 : y < 18446744073709551616) : greatI x y = greatI y x := by
  have h := @ord_inj (quietI x) (quietI y) (q_lo x x0) (q_hi x x1) (q_lo y y0) (q_hi y y1)
  unfold greatI
  split <;> split
  · omega
  · rfl
  · rfl
  · exact h (by omega)
theorem least_comm (x y : Int) (x0 : 0 ≤ x) (x1 : x < 18446744073709551616) (y0 : 0 ≤ y) (y1 : y < 18446744073709551616) : leastI x y = leastI y x := by
  have h := @ord_inj (quietI x) (quietI y) (q_lo x x0) (q_hi x x1) (q_lo y y0) (q_hi y y1)
  unfold leastI
  split <;> split
  · omega
  · rfl
  · rfl
  · exact h (by omega)
theorem step_comm (x op y : Int) (x0 : 0 ≤ x) (x1 : x < 18446744073709551616) (y0 : 0 ≤ y) (y1 : y < 18446744073709551616) (h1 : 2 ≤ op) (h2 : op ≤ 5) : stepI x op y = stepI y op x := by
  have : op = 2 ∨ op = 3 ∨ op = 4 ∨ op = 5 := by omega
  rcases this with rfl | rfl | rfl | rfl
  · exact arith_comm .add (.inl rfl) _ _
  · exact great_comm x y x0 x1 y0 y1
  · exact least_comm x y x0 x1 y0 y1
  · exact arith_comm .mul (.inr rfl) _ _

/-- A quiet mark that says a NaN is the quiet one. -/
def QN (x : Int) : Prop := nanI x = true → x = 9221120237041090561
theorem qn_quiet (x : Int) : QN (quietI x) := by
  intro h
  unfold quietI at *
  cases hb : nanI x
  · rw [hb] at h; exact absurd hb (by simp only [Bool.false_eq_true, if_false] at h; rw [h]; decide)
  · rfl
theorem qn_arith (op : BinOp) (x y : Nat) : QN (arithN op x y) := by
  unfold arithN
  split
  · exact qn_quiet _
  · intro _; rfl
theorem qn_step (x op y : Int) : QN (stepI x op y) := by
  unfold stepI
  split
  · exact qn_quiet _
  · split
    · exact qn_arith _ _ _
    · split
      · unfold greatI; split <;> exact qn_quiet _
      · split
        · unfold leastI; split <;> exact qn_quiet _
        · split
          · exact qn_arith _ _ _
          · intro h; exact absurd h (by decide)
theorem quiet_quiet (x : Int) : quietI (quietI x) = quietI x := by
  unfold quietI
  cases hb : nanI x
  · simp [hb]
  · have : nanI 9221120237041090561 = true := by decide +kernel
    simp [this]
theorem step_great (x : Int) : stepI (quietI x) 3 (quietI x) = quietI x := by
  show greatI _ _ = _
  unfold greatI; rw [quiet_quiet]; split <;> rfl
theorem step_least (x : Int) : stepI (quietI x) 4 (quietI x) = quietI x := by
  show leastI _ _ = _
  unfold leastI; rw [quiet_quiet]; split <;> rfl

set_option maxRecDepth 100000 in
set_option maxHeartbeats 800000 in
theorem turns_one (x y op : Int) (w : World) (x0 : 0 ≤ x) (x1 : x < 18446744073709551616) (y0 : 0 ≤ y) (y1 : y < 18446744073709551616) (b1 b2 : Bool)
    (h1 : (nanI (stepI x op y)) = b1) (h2 : b1 = true → stepI x op y = 9221120237041090561) (h3 : decide (2 ≤ op ∧ op ≤ 5) = b2) (h4 : b2 = true → stepI x op y = stepI y op x) :
    Calls Try.prog 8 #[.int .u64 x, .int .u64 y, .int .u8 op] w fun e w' => e = .returned (.bool true) ∧ Bl w w' := by
  have p0 := q_lo x x0
  have p1 := q_hi x x1
  have g := Lib.hid (fun w => is_true _ 3 _ _ w p0 p1 p0 p1 (step_great x) rfl)
  have l := Lib.hid (fun w => is_true _ 4 _ _ w p0 p1 p0 p1 (step_least x) rfl)
  have qq := quiet_quiet x
  have H2 := Lib.hid h2
  have H4 := Lib.hid h4
  clear h2 h4
  generalize hs : stepI x op y = s at *
  generalize ht : stepI y op x = t at *
  have A1 : Hid (∀ w, Calls Try.prog 19 #[.int .u64 x, .agg #[.int .u8 op, .int .u64 y]] w fun e w' => AT s (stepE op) w e w') := Lib.hid (fun w => by rw [← hs]; exact apply_any x op y w x0 x1 y0 y1)
  have A2 : Hid (∀ w, Calls Try.prog 19 #[.int .u64 y, .agg #[.int .u8 op, .int .u64 x]] w fun e w' => AT t (stepE op) w e w') := Lib.hid (fun w => by rw [← ht]; exact apply_any y op x w y0 y1 x0 x1)
  clear hs ht
  generalize stepE op = e0 at *
  have close : ∀ (hop : (2 ≤ op ∧ op ≤ 5 ∧ s = t) ∨ op < 2 ∨ 5 < op) (hn : (nanI s = false) ∨ (s = 9221120237041090561 ∧ nanI 9221120237041090561 = true)), Calls Try.prog 8 #[.int .u64 x, .int .u64 y, .int .u8 op] w fun e w' => e = .returned (.bool true) ∧ Bl w w' := by
    intro hop hn
    clear h1 h3 H2 H4
    rcases hop with ⟨o1, o2, rfl⟩ | o1 | o1 <;> rcases hn with hn | ⟨rfl, hn⟩
    all_goals
      go_enter Try.func8, Try.ntmps8
      go_wp2_with (first | (go_at_call_of 19 (Value.agg #[Value.int IntKind.u8 op, Value.int IntKind.u64 y]); refine (A1.out _).mono ?_; rintro e w1 ⟨rfl, hb1⟩) | (go_at_call_of 19 (Value.agg #[Value.int IntKind.u8 op, Value.int IntKind.u64 x]); refine (A2.out _).mono ?_; rintro e w1 ⟨rfl, hb1⟩) | (go_at_call 24; refine (isnan_any _ _).mono ?_; rintro e w' ⟨rfl, rfl⟩) | (go_at_call 14; refine (quiet_any _ _).mono ?_; rintro e w' ⟨rfl, rfl⟩) | (go_at_call_of 22 (Value.int IntKind.u8 3); refine (g.out _).mono ?_; rintro e w1 ⟨rfl, hb1⟩) | (go_at_call_of 22 (Value.int IntKind.u8 4); refine (l.out _).mono ?_; rintro e w1 ⟨rfl, hb1⟩) | (go_at_call 16; refine (awake_any _).mono ?_; rintro e w1 ⟨rfl, hb1⟩))
      go_ret
      refine ⟨rfl, ?_⟩
      repeat (first | assumption | exact Bl.refl _ | refine Bl.trans ?_ (by assumption))
  refine close ?_ ?_
  · cases b2
    · have := of_decide_eq_false h3; omega
    · have := of_decide_eq_true h3; exact .inl ⟨this.1, this.2, H4.out rfl⟩
  · cases b1
    · exact .inl h1
    · exact .inr ⟨H2.out rfl, by decide +kernel⟩

theorem numberTurns_walk (x : Int) (wx : (Lit.int .u64 x).wf = true) (y : Int) (wy : (Lit.int .u64 y).wf = true) (op : Int) (wo : (Lit.int .u8 op).wf = true) (w : World) :
    Calls Try.prog 8 #[.int .u64 x, .int .u64 y, .int .u8 op] w fun e w' => e = .returned (.bool true) ∧ Bl w w' := by
  obtain ⟨x0, x1⟩ := wf_u64 wx
  obtain ⟨y0, y1⟩ := wf_u64 wy
  exact turns_one x y op w x0 x1 y0 y1 _ _ rfl (qn_step x op y) rfl (fun h => by have := of_decide_eq_true h; exact step_comm x op y x0 x1 y0 y1 this.1 this.2)
end Go.Proofs.Ytklfcogjpohcbaa
