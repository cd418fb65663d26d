/- Walks of layer 7: what may be. -/
import Derived.Test.YtniblmpihnhglaaD8
import Derived.Test.YtniblmpihnhglaaM2
namespace Go.Proofs.Ytniblmpihnhglaa
open Go.RowKit
set_option linter.unusedVariables false

/-- May a meta be? -/
def mayM (k s : Nat) (m : Int) : Bool := decide ((k = 1 ∨ (k = 2 ∧ s = 0)) ∧ s ≤ 2048 ∧ quietI m = m)
def metaV (k s : Nat) (m t : Int) : Value := .agg #[.int .u8 k, .int .u32 s, .int .u64 m, .int .u64 t]
def chk (k s : Nat) (m : Int) : Int := if mayM k s m then 0 else 4
def ChkP (k s : Nat) (m : Int) (w : World) (x : Ending) (w' : World) : Prop := x = .returned (.int .i64 (chk k s m)) ∧ Bl w w'

theorem check_early (k s : Nat) (m t : Int) (w : World) (h : (k ≠ 1 ∧ k ≠ 2) ∨ 2048 < s ∨ (k = 2 ∧ 0 < s)) :
    Calls Try.prog 47 #[.agg #[.int .u8 k, .int .u32 s, .int .u64 m, .int .u64 t]] w (ChkP k s m w) := by
  have hc : chk k s m = 4 := by unfold chk mayM; rw [if_neg]; simp only [decide_eq_true_eq]; omega
  unfold ChkP
  rw [hc]
  clear hc
  by_cases h1 : k = 1
  · subst h1
    have hs : 2048 < s := by omega
    clear h
    go_enter Try.func47, Try.ntmps47
    go_wp2_with fail
    go_ret
    exact ⟨rfl, (Bl.refl w).alloc _⟩
  by_cases h2 : k = 2
  · subst h2
    have hs : 0 < s := by omega
    clear h h1
    by_cases h3 : 2048 < s
    · go_enter Try.func47, Try.ntmps47
      go_wp2_with fail
      go_ret
      exact ⟨rfl, (Bl.refl w).alloc _⟩
    · have h3' : s ≤ 2048 := by omega
      clear h3
      go_enter Try.func47, Try.ntmps47
      go_wp2_with fail
      go_ret
      exact ⟨rfl, (Bl.refl w).alloc _⟩
  · clear h
    have e1 : ((k : Int) != 1) = true := by simp; omega
    have e2 : ((k : Int) != 2) = true := by simp; omega
    clear h1 h2
    go_enter Try.func47, Try.ntmps47
    go_wp2_with fail
    go_ret
    exact ⟨rfl, (Bl.refl w).alloc _⟩

theorem check_late (k s : Nat) (m t : Int) (w : World) (h : (k = 1 ∧ s ≤ 2048) ∨ (k = 2 ∧ s = 0)) :
    Calls Try.prog 47 #[.agg #[.int .u8 k, .int .u32 s, .int .u64 m, .int .u64 t]] w (ChkP k s m w) := by
  by_cases hq : quietI m = m
  · have hc : chk k s m = 0 := by unfold chk mayM; rw [if_pos]; simp only [decide_eq_true_eq]; refine ⟨?_, ?_, hq⟩ <;> omega
    unfold ChkP
    rw [hc]
    clear hc
    rcases h with ⟨rfl, hs⟩ | ⟨rfl, rfl⟩
    · go_enter Try.func47, Try.ntmps47
      go_wp2_with fail
      go_quiet ((go_at_call 79; exact quiet_pure (quiet_any _)))
      go_wp2_with fail
      go_ret
      exact ⟨rfl, ((Bl.refl w).alloc _).drewN _⟩
    · go_enter Try.func47, Try.ntmps47
      go_wp2_with fail
      go_quiet ((go_at_call 79; exact quiet_pure (quiet_any _)))
      go_wp2_with fail
      go_ret
      exact ⟨rfl, ((Bl.refl w).alloc _).drewN _⟩
  · have hc : chk k s m = 4 := by unfold chk mayM; rw [if_neg]; simp only [decide_eq_true_eq]; intro h; exact hq h.2.2
    have hqb : (quietI m != m) = true := by simpa using hq
    unfold ChkP
    rw [hc]
    clear hc hq
    rcases h with ⟨rfl, hs⟩ | ⟨rfl, rfl⟩
    · go_enter Try.func47, Try.ntmps47
      go_wp2_with fail
      go_quiet ((go_at_call 79; exact quiet_pure (quiet_any _)))
      go_wp2_with fail
      go_ret
      exact ⟨rfl, ((Bl.refl w).alloc _).drewN _⟩
    · go_enter Try.func47, Try.ntmps47
      go_wp2_with fail
      go_quiet ((go_at_call 79; exact quiet_pure (quiet_any _)))
      go_wp2_with fail
      go_ret
      exact ⟨rfl, ((Bl.refl w).alloc _).drewN _⟩
theorem check_any (k s : Nat) (m t : Int) (w : World) : Calls Try.prog 47 #[.agg #[.int .u8 k, .int .u32 s, .int .u64 m, .int .u64 t]] w (ChkP k s m w) := by
  by_cases h : (k = 1 ∧ s ≤ 2048) ∨ (k = 2 ∧ s = 0)
  · exact check_late k s m t w h
  · exact check_early k s m t w (by omega)

/-- May a change be? -/
def mayC (k : Nat) (n : Int) (op : Nat) (y : Int) : Bool := decide (((k = 1 ∨ k = 2) ∧ n ≤ 2048 ∧ op = 0 ∧ y = 0) ∨ (k = 4 ∧ op = 0 ∧ y = 0) ∨ (k = 3 ∧ n = 0 ∧ 1 ≤ op ∧ op ≤ 5))
def MayP (k : Nat) (n : Int) (op : Nat) (y : Int) (w : World) (x : Ending) (w' : World) : Prop := x = .returned (.bool (mayC k n op y)) ∧ Bl w w'
theorem may_any (k : Nat) (n : Int) (op : Nat) (y : Int) (w : World) : Calls Try.prog 71 #[.agg #[.int .u8 k, .int .u64 n, .int .u8 op, .int .u64 y]] w (MayP k n op y w) := by
  unfold MayP
  rcases (by omega : k = 1 ∨ k = 2 ∨ k = 3 ∨ k = 4 ∨ (k ≠ 1 ∧ k ≠ 2 ∧ k ≠ 3 ∧ k ≠ 4)) with rfl | rfl | rfl | rfl | ⟨h1, h2, h3, h4⟩
  all_goals
    try (have e1 : ((k : Int) == 1) = false := by (rw [beq_eq_false_iff_ne]; omega))
    try (have e2 : ((k : Int) == 2) = false := by (rw [beq_eq_false_iff_ne]; omega))
    try (have e3 : ((k : Int) == 3) = false := by (rw [beq_eq_false_iff_ne]; omega))
    try (have e4 : ((k : Int) == 4) = false := by (rw [beq_eq_false_iff_ne]; omega))
    go_enter Try.func71, Try.ntmps71
    go_wp2_with fail
    all_goals
      go_ret
      refine ⟨ret_bool ?_, (Bl.refl w).alloc _⟩
      unfold mayC
      first
        | (symm; rw [decide_eq_true_eq]; omega)
        | (symm; rw [decide_eq_false_iff_not]; omega)
        | (rw [decide_eq_decide]; omega)
end Go.Proofs.Ytniblmpihnhglaa
