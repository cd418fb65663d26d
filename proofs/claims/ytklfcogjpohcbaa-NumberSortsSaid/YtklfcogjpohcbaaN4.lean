/- Layer 1: the walks of NumberOrders, NumberSames, NumberSteps. -/
import Derived.Test.YtklfcogjpohcbaaN3
namespace Go.Proofs.Ytklfcogjpohcbaa
open Go.RowKit
set_option linter.unusedVariables false

theorem wf_u64 {a : Int} (h : (Lit.int .u64 a).wf = true) : 0 ≤ a ∧ a < 18446744073709551616 := by
  have : 0 ≤ a ∧ a ≤ 18446744073709551615 := by simpa [Lit.wf, IntKind.min, IntKind.max, IntKind.signed, IntKind.bits] using h
  omega
theorem wf_u8 {a : Int} (h : (Lit.int .u8 a).wf = true) : 0 ≤ a ∧ a ≤ 255 := by simpa [Lit.wf, IntKind.min, IntKind.max, IntKind.signed, IntKind.bits] using h

set_option maxHeartbeats 800000 in
theorem numberOrders_walk (x : Int) (wx : (Lit.int .u64 x).wf = true) (w : World) : Calls Try.prog 3 #[.int .u64 x] w fun e w' => e = .returned (.bool true) ∧ Bl w w' := by
  obtain ⟨x0, x1⟩ := wf_u64 wx
  clear wx
  go_enter Try.func3, Try.ntmps3
  go_wp2_with (first | (go_at_call 10; refine (order_any _ _ x0 x1).mono ?_; rintro e w' ⟨rfl, rfl⟩) | (go_at_call 11; refine (rorder_any _ _ x0 x1).mono ?_; rintro e w' ⟨rfl, rfl⟩) | (go_at_call 12; refine (back_any _ _ x0 x1).mono ?_; rintro e w' ⟨rfl, rfl⟩) | (go_at_call 13; refine (rback_any _ _ x0 x1).mono ?_; rintro e w' ⟨rfl, rfl⟩) | (go_at_call 14; refine (quiet_any _ _).mono ?_; rintro e w' ⟨rfl, rfl⟩) | (go_at_call 15; refine (rquiet_any _ _ x0 x1).mono ?_; rintro e w' ⟨rfl, rfl⟩) | (go_at_call 16; refine (awake_any _).mono ?_; rintro e w' ⟨rfl, hb⟩))
  go_ret
  exact ⟨rfl, by assumption⟩

set_option maxHeartbeats 800000 in
theorem numberSames_walk (x : Int) (wx : (Lit.int .u64 x).wf = true) (y : Int) (wy : (Lit.int .u64 y).wf = true) (w : World) : Calls Try.prog 4 #[.int .u64 x, .int .u64 y] w fun e w' => e = .returned (.bool true) ∧ Bl w w' := by
  obtain ⟨x0, x1⟩ := wf_u64 wx
  obtain ⟨y0, y1⟩ := wf_u64 wy
  clear wx wy
  go_enter Try.func4, Try.ntmps4
  go_wp2_with (first | (go_at_call 17; refine (same_any _ _ _).mono ?_; rintro e w' ⟨rfl, rfl⟩) | (go_at_call 18; refine (rsame_any _ _ _ x0 x1 y0 y1).mono ?_; rintro e w' ⟨rfl, rfl⟩) | (go_at_call 16; refine (awake_any _).mono ?_; rintro e w' ⟨rfl, hb⟩))
  go_ret
  exact ⟨rfl, by assumption⟩

set_option maxHeartbeats 800000 in
theorem numberSteps_walk (x : Int) (wx : (Lit.int .u64 x).wf = true) (op y : Int) (wo : (Lit.int .u8 op).wf = true) (wy : (Lit.int .u64 y).wf = true) (w : World) :
    Calls Try.prog 5 #[.int .u64 x, .agg #[.int .u8 op, .int .u64 y]] w fun e w' => e = .returned (.bool true) ∧ Bl w w' := by
  obtain ⟨x0, x1⟩ := wf_u64 wx
  obtain ⟨y0, y1⟩ := wf_u64 wy
  clear wx wy wo
  go_enter Try.func5, Try.ntmps5
  go_wp2_with (first | (go_at_call 19; refine (apply_any _ _ _ _ x0 x1 y0 y1).mono ?_; rintro e w1 ⟨rfl, hb1⟩; have g0 : w1.cell? ⟨w.heap.size, 0, none⟩ = some (.int .u8 op) := (by rw [Bl.cell hb1 (by simp)]; simp [go_sem]); have g1 : w1.cell? ⟨w.heap.size, 1, none⟩ = some (.int .u64 y) := (by rw [Bl.cell hb1 (by simp)]; simp [go_sem])) | (go_at_call 20; refine (rapply_any _ _ _ _ x0 x1 y0 y1).mono ?_; rintro e w2 ⟨rfl, hb2⟩) | (go_at_call 16; refine (awake_any _).mono ?_; rintro e w3 ⟨rfl, hb3⟩))
  go_ret
  exact ⟨rfl, (((Bl.refl w).alloc _).trans hb1).trans (hb2.trans hb3)⟩
end Go.Proofs.Ytklfcogjpohcbaa
