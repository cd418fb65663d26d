/- The statement MetaDoes, walked. -/
import Derived.Test.YtniblmpihnhglaaE19
import Derived.Deep.RegionHeldLaw
namespace Go.Proofs.Ytniblmpihnhglaa
open Go.RowKit
set_option linter.unusedVariables false

abbrev mO (x : Me) : Obj := .cells #[.int .u8 x.k, .int .u32 x.s, .int .u64 x.m, .int .u64 x.t] 85
abbrev cO73 (c : Ch) : Obj := .cells #[.int .u8 c.k, .int .u64 c.n, .int .u8 c.op, .int .u64 c.y] 73
/-- A meta's four cells at a block. -/
def MC (b : Nat) (x : Me) (w : World) : Prop := w.heap[b]? = some (.cells #[.int .u8 x.k, .int .u32 x.s, .int .u64 x.m, .int .u64 x.t] 85 (0, 0))
def CC (b : Nat) (c : Ch) (w : World) : Prop := w.heap[b]? = some (.cells #[.int .u8 c.k, .int .u64 c.n, .int .u8 c.op, .int .u64 c.y] 73 (0, 0))
theorem MC.bl {b : Nat} {x : Me} {w w' : World} (h : MC b x w) (hb : Bl w w') : MC b x w' := (hb.block _ (Array.getElem?_eq_some_iff.1 h).1).trans h
theorem CC.bl {b : Nat} {x : Ch} {w w' : World} (h : CC b x w) (hb : Bl w w') : CC b x w' := (hb.block _ (Array.getElem?_eq_some_iff.1 h).1).trans h
theorem mc_new (x : Me) (w : World) : MC w.heap.size x (w.alloc (mO x)) := heap_alloc_new _ _
theorem cc_new (c : Ch) (w : World) : CC w.heap.size c (w.alloc (cO73 c)) := heap_alloc_new _ _
theorem MC.alloc {b : Nat} {x : Me} {w : World} (h : MC b x w) (o : Obj) : MC b x (w.alloc o) := h.bl ((Bl.refl w).alloc o)
theorem CC.alloc {b : Nat} {x : Ch} {w : World} (h : CC b x w) (o : Obj) : CC b x (w.alloc o) := h.bl ((Bl.refl w).alloc o)
theorem alloc_size (w : World) (o : Obj) : (w.alloc o).heap.size = w.heap.size + 1 := Array.size_push ..
theorem cc_new1 (c : Ch) (w : World) (o : Obj) : CC (w.heap.size + 1) c ((w.alloc o).alloc (cO73 c)) := by rw [← alloc_size w o]; exact cc_new c _
/-- The eight cells. -/
def C8 (p q : Nat) (x : Me) (c : Ch) (w' : World) : Prop :=
  (w'.cell? ⟨p, 0, none⟩ = some (.int .u8 x.k) ∧ w'.cell? ⟨p, 1, none⟩ = some (.int .u32 x.s) ∧ w'.cell? ⟨p, 2, none⟩ = some (.int .u64 x.m) ∧ w'.cell? ⟨p, 3, none⟩ = some (.int .u64 x.t)) ∧
  (w'.cell? ⟨q, 0, none⟩ = some (.int .u8 c.k) ∧ w'.cell? ⟨q, 1, none⟩ = some (.int .u64 c.n) ∧ w'.cell? ⟨q, 2, none⟩ = some (.int .u8 c.op) ∧ w'.cell? ⟨q, 3, none⟩ = some (.int .u64 c.y))
theorem c8_of {p q : Nat} {x : Me} {c : Ch} {w : World} (h : MC p x w) (k : CC q c w) : C8 p q x c w := by
  obtain ⟨a0, a1, a2, a3, _⟩ := four_cells h
  obtain ⟨b0, b1, b2, b3, _⟩ := four_cells k
  exact ⟨⟨a0, a1, a2, a3⟩, b0, b1, b2, b3⟩

set_option maxRecDepth 100000 in
set_option maxHeartbeats 1600000 in
theorem metaDoes_on (x : Me) (c : Ch) (w : World) (hx : x.ok) (hc : c.ok) : Calls Try.prog 9 #[meV x, chW c] w fun e w' => e = .returned (.bool true) ∧ Bl w w' := by
  have A1 := Lib.hid (fun w => apply_on x c w hx hc)
  have A2 := Lib.hid (fun w => rapply_on x c w hx hc)
  unfold ApP at A1 A2
  generalize apM x c = r at A1 A2
  unfold meV chW at A1 A2 ⊢
  have K1 := Lib.hid ((mc_new x w).alloc (cO73 c))
  have K2 := Lib.hid (cc_new1 c w (mO x))
  have W0 : Hid (Bl w ((w.alloc (mO x)).alloc (cO73 c))) := Lib.hid (((Bl.refl w).alloc _).alloc _)
  clear hx hc
  go_enter Try.func9, Try.ntmps9
  go_wp2_with fail
  generalize (w.alloc (.cells #[.int .u8 x.k, .int .u32 x.s, .int .u64 x.m, .int .u64 x.t] 85)).alloc (.cells #[.int .u8 c.k, .int .u64 c.n, .int .u8 c.op, .int .u64 c.y] 73) = V at K1 K2 W0 ⊢
  have KS : Hid (∀ w', Bl V w' → (((w'.cell? ⟨w.heap.size, 0, none⟩ = some (.int .u8 x.k) ∧ w'.cell? ⟨w.heap.size, 1, none⟩ = some (.int .u32 x.s) ∧ w'.cell? ⟨w.heap.size, 2, none⟩ = some (.int .u64 x.m) ∧ w'.cell? ⟨w.heap.size, 3, none⟩ = some (.int .u64 x.t)) ∧
  (w'.cell? ⟨w.heap.size + 1, 0, none⟩ = some (.int .u8 c.k) ∧ w'.cell? ⟨w.heap.size + 1, 1, none⟩ = some (.int .u64 c.n) ∧ w'.cell? ⟨w.heap.size + 1, 2, none⟩ = some (.int .u8 c.op) ∧ w'.cell? ⟨w.heap.size + 1, 3, none⟩ = some (.int .u64 c.y))) ∧ Bl V w')) := Lib.hid (fun w' hb => ⟨c8_of (K1.out.bl hb) (K2.out.bl hb), hb⟩)
  go_region_held_law (fun w' => ((w'.cell? ⟨w.heap.size, 0, none⟩ = some (.int .u8 x.k) ∧ w'.cell? ⟨w.heap.size, 1, none⟩ = some (.int .u32 x.s) ∧ w'.cell? ⟨w.heap.size, 2, none⟩ = some (.int .u64 x.m) ∧ w'.cell? ⟨w.heap.size, 3, none⟩ = some (.int .u64 x.t)) ∧
  (w'.cell? ⟨w.heap.size + 1, 0, none⟩ = some (.int .u8 c.k) ∧ w'.cell? ⟨w.heap.size + 1, 1, none⟩ = some (.int .u64 c.n) ∧ w'.cell? ⟨w.heap.size + 1, 2, none⟩ = some (.int .u8 c.op) ∧ w'.cell? ⟨w.heap.size + 1, 3, none⟩ = some (.int .u64 c.y))) ∧ Bl V w')
    (first
      | assumption
      | exact KS.out _ (Bl.refl V).drew
      | exact KS.out _ (Bl.trans (And.right (by assumption)) (by assumption)))
    (first
      | (go_at_call 39; refine (mawake_any _).mono ?_; rintro e w' ⟨rfl, hb⟩)
      | (go_at_call 46; refine (A2.out _).mono ?_; rintro e w' ⟨rfl, hb⟩)
      | (go_at_call 42; refine (theirs_any _ _ _ _ _).mono ?_; rintro e w' ⟨rfl, hb⟩)
      | (go_at_call 45; refine (A1.out _).mono ?_; rintro e w' ⟨rfl, hb⟩))
  all_goals go_wp2_with fail
  all_goals go_ret
  all_goals exact ⟨rfl, W0.out.trans (And.right (by assumption))⟩
theorem metaDoes_walk (v0 : Value) (x : Me) (h0 : MetaArg v0 x) (v1 : Value) (c : Ch) (h1 : ChangeArg v1 c) (w : World) : Calls Try.prog 9 #[v0, v1] w fun e w' => e = .returned (.bool true) ∧ Bl w w' := by
  obtain ⟨rfl, hx⟩ := h0
  obtain ⟨rfl, hc⟩ := h1
  exact metaDoes_on x c w hx hc
end Go.Proofs.Ytniblmpihnhglaa
