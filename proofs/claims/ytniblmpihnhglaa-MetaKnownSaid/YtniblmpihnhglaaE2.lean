/- Walks of layer 7: what may be, by the reference; small functions. -/
import Derived.Test.YtniblmpihnhglaaE1
namespace Go.Proofs.Ytniblmpihnhglaa
open Go.RowKit
set_option linter.unusedVariables false

def RMayP (k s : Nat) (m : Int) (w : World) (x : Ending) (w' : World) : Prop := x = .returned (.bool (mayM k s m)) ∧ Bl w w'
set_option maxRecDepth 100000 in
set_option maxHeartbeats 1600000 in
theorem rmay_any (k s : Nat) (m t : Int) (w : World) (m0 : 0 ≤ m) (m1 : m < 18446744073709551616) :
    Calls Try.prog 77 #[.agg #[.int .u8 k, .int .u32 s, .int .u64 m, .int .u64 t]] w (RMayP k s m w) := by
  unfold RMayP
  have hmb : mayM k s m = (decide ((k = 1 ∨ (k = 2 ∧ s = 0)) ∧ s ≤ 2048) && (quietI m == m)) := by
    unfold mayM
    by_cases hq : quietI m = m
    · simp [hq]
    · simp [hq]
  rw [hmb]
  clear hmb
  have HQ := Lib.hid (fun w => rquiet_any m w m0 m1)
  clear m0 m1
  by_cases hk2 : k = 2
  · subst hk2
    by_cases hs : s = 0
    · subst hs
      have hd : decide ((2 = 1 ∨ (2 = 2 ∧ 0 = 0)) ∧ 0 ≤ 2048) = true := by decide
      rw [hd, Bool.true_and]
      clear hd
      go_enter Try.func77, Try.ntmps77
      go_wp2_with fail
      go_quiet ((go_at_call 88; exact quiet_pure HQ.out))
      go_wp2_with fail
      go_ret
      exact ⟨rfl, ((Bl.refl w).alloc _).drewN _⟩
    · have hd : decide ((2 = 1 ∨ (2 = 2 ∧ s = 0)) ∧ s ≤ 2048) = false := by rw [decide_eq_false_iff_not]; omega
      rw [hd, Bool.false_and]
      clear hd
      have hsb : ((s : Int) == 0) = false := by rw [beq_eq_false_iff_ne]; omega
      go_enter Try.func77, Try.ntmps77
      go_wp2_with fail
      go_quiet (fail)
      go_wp2_with fail
      go_ret
      exact ⟨rfl, ((Bl.refl w).alloc _).drewN _⟩
  · have hkb : ((k : Int) == 2) = false := by rw [beq_eq_false_iff_ne]; omega
    by_cases hk1 : k = 1
    · subst hk1
      by_cases hs : s ≤ 2048
      · have hd : decide ((1 = 1 ∨ (1 = 2 ∧ s = 0)) ∧ s ≤ 2048) = true := by rw [decide_eq_true_eq]; omega
        have hsb : decide ((s : Int) ≤ 2048) = true := decide_eq_true (by omega)
        rw [hd, Bool.true_and]
        clear hd hkb hk2
        go_enter Try.func77, Try.ntmps77
        go_wp2_with fail
        go_quiet ((go_at_call 88; exact quiet_pure HQ.out))
        go_wp2_with fail
        go_ret
        exact ⟨rfl, ((Bl.refl w).alloc _).drewN _⟩
      · have hd : decide ((1 = 1 ∨ (1 = 2 ∧ s = 0)) ∧ s ≤ 2048) = false := by rw [decide_eq_false_iff_not]; omega
        have hsb : decide ((s : Int) ≤ 2048) = false := decide_eq_false (by omega)
        rw [hd, Bool.false_and]
        clear hd hkb hk2
        go_enter Try.func77, Try.ntmps77
        go_wp2_with fail
        go_quiet (fail)
        go_wp2_with fail
        go_ret
        exact ⟨rfl, ((Bl.refl w).alloc _).drewN _⟩
    · have hkb1 : ((k : Int) == 1) = false := by rw [beq_eq_false_iff_ne]; omega
      have hd : decide ((k = 1 ∨ (k = 2 ∧ s = 0)) ∧ s ≤ 2048) = false := by rw [decide_eq_false_iff_not]; omega
      rw [hd, Bool.false_and]
      clear hd hk2 hk1
      go_enter Try.func77, Try.ntmps77
      go_wp2_with fail
      go_quiet (fail)
      go_wp2_with fail
      go_ret
      exact ⟨rfl, ((Bl.refl w).alloc _).drewN _⟩

theorem rmayc_any (k : Nat) (n : Int) (op : Nat) (y : Int) (w : World) : Calls Try.prog 72 #[.agg #[.int .u8 k, .int .u64 n, .int .u8 op, .int .u64 y]] w (MayP k n op y w) := by
  unfold MayP
  rcases (by omega : k = 1 ∨ k = 2 ∨ k = 3 ∨ k = 4 ∨ (k ≠ 1 ∧ k ≠ 2 ∧ k ≠ 3 ∧ k ≠ 4)) with rfl | rfl | rfl | rfl | ⟨h1, h2, h3, h4⟩
  all_goals
    try (have e1 : ((k : Int) == 1) = false := by (rw [beq_eq_false_iff_ne]; omega))
    try (have e2 : ((k : Int) == 2) = false := by (rw [beq_eq_false_iff_ne]; omega))
    try (have e3 : ((k : Int) == 3) = false := by (rw [beq_eq_false_iff_ne]; omega))
    try (have e4 : ((k : Int) == 4) = false := by (rw [beq_eq_false_iff_ne]; omega))
    go_enter Try.func72, Try.ntmps72
    go_wp2_with fail
    all_goals
      go_ret
      refine ⟨ret_bool ?_, (Bl.refl w).alloc _⟩
      unfold mayC
      first
        | (symm; rw [decide_eq_true_eq]; omega)
        | (symm; rw [decide_eq_false_iff_not]; omega)
        | (rw [decide_eq_decide]; omega)
        | (show decide (y = 0) = _; rw [decide_eq_decide]; omega)
end Go.Proofs.Ytniblmpihnhglaa
