/- Walks of layer 7: Apply. Printed by gen_e15.py. -/
import Derived.Test.YtniblmpihnhglaaE9
import Derived.Test.YtniblmpihnhglaaE6
import Derived.Test.YtniblmpihnhglaaDM
namespace Go.Proofs.Ytniblmpihnhglaa
open Go.RowKit
set_option linter.unusedVariables false

abbrev M4 (k s m t : Int) (T : TypeId) : Obj := .cells #[.int .u8 k, .int .u32 s, .int .u64 m, .int .u64 t] T
abbrev C4 (k n op y : Int) (T : TypeId) : Obj := .cells #[.int .u8 k, .int .u64 n, .int .u8 op, .int .u64 y] T
/-- A meta's, a change's and the result's block. -/
structure AP (w W : World) (T : TypeId) (k s m t : Int) (ck n op y : Int) : Prop where
  m : W.heap[w.heap.size]? = some (.cells #[.int .u8 k, .int .u32 s, .int .u64 m, .int .u64 t] 85 (0, 0))
  c : W.heap[w.heap.size + 1]? = some (.cells #[.int .u8 ck, .int .u64 n, .int .u8 op, .int .u64 y] T (0, 0))
  z : W.heap[w.heap.size + 2]? = some (.cells #[.int .u8 0, .int .u32 0, .int .u64 0, .int .u64 0] 85 (0, 0))
  b : Bl w W
theorem AP.bl {w W W' : World} {T : TypeId} {k s m t ck n op y : Int} (h : AP w W T k s m t ck n op y) (hb : Bl W W') : AP w W' T k s m t ck n op y :=
  ⟨(hb.block _ (Array.getElem?_eq_some_iff.1 h.m).1).trans h.m, (hb.block _ (Array.getElem?_eq_some_iff.1 h.c).1).trans h.c, (hb.block _ (Array.getElem?_eq_some_iff.1 h.z).1).trans h.z, h.b.trans hb⟩
theorem AP.new (w : World) (T : TypeId) (k s m t ck n op y : Int) : AP w (((w.alloc (M4 k s m t 85)).alloc (C4 ck n op y T)).alloc (M4 0 0 0 0 85)) T k s m t ck n op y := by
  have z0 : (w.alloc (M4 k s m t 85)).heap.size = w.heap.size + 1 := Array.size_push ..
  have z1 : ((w.alloc (M4 k s m t 85)).alloc (C4 ck n op y T)).heap.size = w.heap.size + 2 := by show ((w.heap.push _).push _).size = _; rw [Array.size_push, Array.size_push]
  refine ⟨?_, ?_, ?_, (((Bl.refl w).alloc _).alloc _).alloc _⟩
  · rw [Below.heap_alloc _ _ _ (by omega), Below.heap_alloc _ _ _ (by omega)]
    exact heap_alloc_new _ _
  · rw [Below.heap_alloc _ _ _ (by omega), ← z0]
    exact heap_alloc_new _ _
  · rw [← z1]
    exact heap_alloc_new _ _
theorem ap_set {w W : World} (h : Bl w W) (i j : Nat) (u : Value) : Bl w (W.setCell ⟨w.heap.size + i, j, none⟩ u) := h.setCell (by show w.heap.size ≤ w.heap.size + i; omega) u
theorem ap_set0 {w W : World} (h : Bl w W) (j : Nat) (u : Value) : Bl w (W.setCell ⟨w.heap.size, j, none⟩ u) := h.setCell (Nat.le_refl _) u


set_option maxRecDepth 100000 in
set_option maxHeartbeats 3200000 in
theorem apply_bad0 (k s m t ck n op y : Nat) (w : World) (hm1 : m < 18446744073709551616) (hm2 : y < 18446744073709551616) (hm : mayM k s m = false) :
    Calls Try.prog 45 #[.agg #[.int .u8 k, .int .u32 s, .int .u64 m, .int .u64 t], .agg #[.int .u8 ck, .int .u64 n, .int .u8 op, .int .u64 y]] w fun x w' => x = .returned (.agg #[.int .u8 k, .int .u32 s, .int .u64 m, .int .u64 t]) ∧ Bl w w' := by
  have CH : Hid (∀ w, Calls Try.prog 47 #[.agg #[.int .u8 k, .int .u32 s, .int .u64 m, .int .u64 t]] w fun x w' => x = .returned (.int .i64 4) ∧ Bl w w') := Lib.hid (fun w => by
    have := check_any k s m t w
    unfold ChkP at this
    rw [show chk k s m = 4 by unfold chk; rw [hm]; rfl] at this
    exact this)
  have A0 := Lib.hid (AP.new w 73 k s m t ck n op y)
  clear hm hm1 hm2
  go_enter Try.func45, Try.ntmps45
  go_wp2_with (first
    | (go_at_call 47; refine (CH.out _).mono ?_; rintro e w1 ⟨rfl, h⟩; have A1 := Lib.hid (A0.out.bl h); clear h; obtain ⟨a0, a1, a2, a3, af0, af1, af2, af3⟩ := four_cells A1.out.m; obtain ⟨b0, b1, b2, b3, _, _, _, _⟩ := four_cells A1.out.c; obtain ⟨z0, z1, z2, z3, zf0, zf1, zf2, zf3⟩ := four_cells A1.out.z))
  refine bodyPost_ret (v := .agg #[.int .u8 k, .int .u32 s, .int .u64 m, .int .u64 t]) (by simp [results, Try.results45, go_sem, *]) rfl ⟨rfl, ?_⟩
  exact ap_set (ap_set (ap_set (ap_set A1.out.b 2 _ _) 2 _ _) 2 _ _) 2 _ _

set_option maxRecDepth 100000 in
set_option maxHeartbeats 3200000 in
theorem apply_off (k s m t ck n op y : Nat) (w : World) (hm1 : m < 18446744073709551616) (hm2 : y < 18446744073709551616) (hm : mayM k s m = true) (hcm : mayC ck n op y = false) :
    Calls Try.prog 45 #[.agg #[.int .u8 k, .int .u32 s, .int .u64 m, .int .u64 t], .agg #[.int .u8 ck, .int .u64 n, .int .u8 op, .int .u64 y]] w fun x w' => x = .returned (.agg #[.int .u8 k, .int .u32 s, .int .u64 m, .int .u64 t]) ∧ Bl w w' := by
  have CH : Hid (∀ w, Calls Try.prog 47 #[.agg #[.int .u8 k, .int .u32 s, .int .u64 m, .int .u64 t]] w fun x w' => x = .returned (.int .i64 0) ∧ Bl w w') := Lib.hid (fun w => by
    have := check_any k s m t w
    unfold ChkP at this
    rw [show chk k s m = 0 by unfold chk; rw [if_pos hm]] at this
    exact this)
  have CM : Hid (∀ w, Calls Try.prog 71 #[.agg #[.int .u8 ck, .int .u64 n, .int .u8 op, .int .u64 y]] w fun x w' => x = .returned (.bool false) ∧ Bl w w') := Lib.hid (fun w => by
    have := may_any ck n op y w
    unfold MayP at this
    rw [hcm] at this
    exact this)
  have A0 := Lib.hid (AP.new w 73 k s m t ck n op y)
  clear hm hm1 hm2 hcm
  go_enter Try.func45, Try.ntmps45
  go_wp2_with (first
    | (go_at_call 71; refine (CM.out _).mono ?_; rintro e w2 ⟨rfl, h⟩; have A2 := Lib.hid (A1.out.bl h); clear h; clear a0 a1 a2 a3 af0 af1 af2 af3 b0 b1 b2 b3 z0 z1 z2 z3 zf0 zf1 zf2 zf3; obtain ⟨a0, a1, a2, a3, af0, af1, af2, af3⟩ := four_cells A2.out.m; obtain ⟨b0, b1, b2, b3, _, _, _, _⟩ := four_cells A2.out.c; obtain ⟨z0, z1, z2, z3, zf0, zf1, zf2, zf3⟩ := four_cells A2.out.z)
    | (go_at_call 47; refine (CH.out _).mono ?_; rintro e w1 ⟨rfl, h⟩; have A1 := Lib.hid (A0.out.bl h); clear h; obtain ⟨a0, a1, a2, a3, af0, af1, af2, af3⟩ := four_cells A1.out.m; obtain ⟨b0, b1, b2, b3, _, _, _, _⟩ := four_cells A1.out.c; obtain ⟨z0, z1, z2, z3, zf0, zf1, zf2, zf3⟩ := four_cells A1.out.z))
  refine bodyPost_ret (v := .agg #[.int .u8 k, .int .u32 s, .int .u64 m, .int .u64 t]) (by simp [results, Try.results45, go_sem, *]) rfl ⟨rfl, ?_⟩
  exact ap_set (ap_set (ap_set (ap_set A2.out.b 2 _ _) 2 _ _) 2 _ _) 2 _ _

set_option maxRecDepth 100000 in
set_option maxHeartbeats 3200000 in
theorem apply_growY (k s m t ck n op y : Nat) (w : World) (hm1 : m < 18446744073709551616) (hm2 : y < 18446744073709551616) (hm : mayM k s m = true) (hcm : mayC ck n op y = true) (hk : k = 1) (hc : ck = 1) (hn : n ≤ 2048) (hs : s < n) :
    Calls Try.prog 45 #[.agg #[.int .u8 k, .int .u32 s, .int .u64 m, .int .u64 t], .agg #[.int .u8 ck, .int .u64 n, .int .u8 op, .int .u64 y]] w fun x w' => x = .returned (.agg #[.int .u8 k, .int .u32 n, .int .u64 m, .int .u64 t]) ∧ Bl w w' := by
  have CH : Hid (∀ w, Calls Try.prog 47 #[.agg #[.int .u8 k, .int .u32 s, .int .u64 m, .int .u64 t]] w fun x w' => x = .returned (.int .i64 0) ∧ Bl w w') := Lib.hid (fun w => by
    have := check_any k s m t w
    unfold ChkP at this
    rw [show chk k s m = 0 by unfold chk; rw [if_pos hm]] at this
    exact this)
  have CM : Hid (∀ w, Calls Try.prog 71 #[.agg #[.int .u8 ck, .int .u64 n, .int .u8 op, .int .u64 y]] w fun x w' => x = .returned (.bool true) ∧ Bl w w') := Lib.hid (fun w => by
    have := may_any ck n op y w
    unfold MayP at this
    rw [hcm] at this
    exact this)
  have hu : IntKind.u32.wrap (n : Int) = n := by rw [IntKind.wrap_u32]; omega
  have q0 : ((k : Int) == 1) = true := by rw [beq_iff_eq]; omega
  have q1 : ((ck : Int) == 1) = true := by rw [beq_iff_eq]; omega
  have hlt : (s : Int) < n := by omega
  have A0 := Lib.hid (AP.new w 73 k s m t ck n op y)
  clear hm hm1 hm2 hcm hk hc hn hs
  go_enter Try.func45, Try.ntmps45
  go_wp2_with (first
    | (go_at_call 71; refine (CM.out _).mono ?_; rintro e w2 ⟨rfl, h⟩; have A2 := Lib.hid (A1.out.bl h); clear h; clear a0 a1 a2 a3 af0 af1 af2 af3 b0 b1 b2 b3 z0 z1 z2 z3 zf0 zf1 zf2 zf3; obtain ⟨a0, a1, a2, a3, af0, af1, af2, af3⟩ := four_cells A2.out.m; obtain ⟨b0, b1, b2, b3, _, _, _, _⟩ := four_cells A2.out.c; obtain ⟨z0, z1, z2, z3, zf0, zf1, zf2, zf3⟩ := four_cells A2.out.z)
    | (go_at_call 47; refine (CH.out _).mono ?_; rintro e w1 ⟨rfl, h⟩; have A1 := Lib.hid (A0.out.bl h); clear h; obtain ⟨a0, a1, a2, a3, af0, af1, af2, af3⟩ := four_cells A1.out.m; obtain ⟨b0, b1, b2, b3, _, _, _, _⟩ := four_cells A1.out.c; obtain ⟨z0, z1, z2, z3, zf0, zf1, zf2, zf3⟩ := four_cells A1.out.z))
  refine bodyPost_ret (v := .agg #[.int .u8 k, .int .u32 n, .int .u64 m, .int .u64 t]) (by simp [results, Try.results45, go_sem, *]) rfl ⟨rfl, ?_⟩
  exact ap_set (ap_set (ap_set (ap_set (ap_set0 A2.out.b _ _) 2 _ _) 2 _ _) 2 _ _) 2 _ _

set_option maxRecDepth 100000 in
set_option maxHeartbeats 3200000 in
theorem apply_growN (k s m t ck n op y : Nat) (w : World) (hm1 : m < 18446744073709551616) (hm2 : y < 18446744073709551616) (hm : mayM k s m = true) (hcm : mayC ck n op y = true) (hk : k = 1) (hc : ck = 1) (hn : n ≤ 2048) (hs : ¬ s < n) :
    Calls Try.prog 45 #[.agg #[.int .u8 k, .int .u32 s, .int .u64 m, .int .u64 t], .agg #[.int .u8 ck, .int .u64 n, .int .u8 op, .int .u64 y]] w fun x w' => x = .returned (.agg #[.int .u8 k, .int .u32 s, .int .u64 m, .int .u64 t]) ∧ Bl w w' := by
  have CH : Hid (∀ w, Calls Try.prog 47 #[.agg #[.int .u8 k, .int .u32 s, .int .u64 m, .int .u64 t]] w fun x w' => x = .returned (.int .i64 0) ∧ Bl w w') := Lib.hid (fun w => by
    have := check_any k s m t w
    unfold ChkP at this
    rw [show chk k s m = 0 by unfold chk; rw [if_pos hm]] at this
    exact this)
  have CM : Hid (∀ w, Calls Try.prog 71 #[.agg #[.int .u8 ck, .int .u64 n, .int .u8 op, .int .u64 y]] w fun x w' => x = .returned (.bool true) ∧ Bl w w') := Lib.hid (fun w => by
    have := may_any ck n op y w
    unfold MayP at this
    rw [hcm] at this
    exact this)
  have hu : IntKind.u32.wrap (n : Int) = n := by rw [IntKind.wrap_u32]; omega
  have q0 : ((k : Int) == 1) = true := by rw [beq_iff_eq]; omega
  have q1 : ((ck : Int) == 1) = true := by rw [beq_iff_eq]; omega
  have hlt : (n : Int) ≤ s := by omega
  have A0 := Lib.hid (AP.new w 73 k s m t ck n op y)
  clear hm hm1 hm2 hcm hk hc hn hs
  go_enter Try.func45, Try.ntmps45
  go_wp2_with (first
    | (go_at_call 71; refine (CM.out _).mono ?_; rintro e w2 ⟨rfl, h⟩; have A2 := Lib.hid (A1.out.bl h); clear h; clear a0 a1 a2 a3 af0 af1 af2 af3 b0 b1 b2 b3 z0 z1 z2 z3 zf0 zf1 zf2 zf3; obtain ⟨a0, a1, a2, a3, af0, af1, af2, af3⟩ := four_cells A2.out.m; obtain ⟨b0, b1, b2, b3, _, _, _, _⟩ := four_cells A2.out.c; obtain ⟨z0, z1, z2, z3, zf0, zf1, zf2, zf3⟩ := four_cells A2.out.z)
    | (go_at_call 47; refine (CH.out _).mono ?_; rintro e w1 ⟨rfl, h⟩; have A1 := Lib.hid (A0.out.bl h); clear h; obtain ⟨a0, a1, a2, a3, af0, af1, af2, af3⟩ := four_cells A1.out.m; obtain ⟨b0, b1, b2, b3, _, _, _, _⟩ := four_cells A1.out.c; obtain ⟨z0, z1, z2, z3, zf0, zf1, zf2, zf3⟩ := four_cells A1.out.z))
  refine bodyPost_ret (v := .agg #[.int .u8 k, .int .u32 s, .int .u64 m, .int .u64 t]) (by simp [results, Try.results45, go_sem, *]) rfl ⟨rfl, ?_⟩
  exact ap_set (ap_set (ap_set (ap_set (ap_set0 A2.out.b _ _) 2 _ _) 2 _ _) 2 _ _) 2 _ _

set_option maxRecDepth 100000 in
set_option maxHeartbeats 3200000 in
theorem apply_growD (k s m t ck n op y : Nat) (w : World) (hm1 : m < 18446744073709551616) (hm2 : y < 18446744073709551616) (hm : mayM k s m = true) (hcm : mayC ck n op y = true) (hk : ¬ k = 1) (hc : ck = 1) (hn : n ≤ 2048) :
    Calls Try.prog 45 #[.agg #[.int .u8 k, .int .u32 s, .int .u64 m, .int .u64 t], .agg #[.int .u8 ck, .int .u64 n, .int .u8 op, .int .u64 y]] w fun x w' => x = .returned (.agg #[.int .u8 k, .int .u32 s, .int .u64 m, .int .u64 t]) ∧ Bl w w' := by
  have CH : Hid (∀ w, Calls Try.prog 47 #[.agg #[.int .u8 k, .int .u32 s, .int .u64 m, .int .u64 t]] w fun x w' => x = .returned (.int .i64 0) ∧ Bl w w') := Lib.hid (fun w => by
    have := check_any k s m t w
    unfold ChkP at this
    rw [show chk k s m = 0 by unfold chk; rw [if_pos hm]] at this
    exact this)
  have CM : Hid (∀ w, Calls Try.prog 71 #[.agg #[.int .u8 ck, .int .u64 n, .int .u8 op, .int .u64 y]] w fun x w' => x = .returned (.bool true) ∧ Bl w w') := Lib.hid (fun w => by
    have := may_any ck n op y w
    unfold MayP at this
    rw [hcm] at this
    exact this)
  have hu : IntKind.u32.wrap (n : Int) = n := by rw [IntKind.wrap_u32]; omega
  have q0 : ((k : Int) == 1) = false := by rw [beq_eq_false_iff_ne]; omega
  have q1 : ((ck : Int) == 1) = true := by rw [beq_iff_eq]; omega
  have q2 : ((ck : Int) == 2) = false := by rw [beq_eq_false_iff_ne]; omega
  have q3 : ((ck : Int) == 3) = false := by rw [beq_eq_false_iff_ne]; omega
  have q4 : ((ck : Int) == 4) = false := by rw [beq_eq_false_iff_ne]; omega
  have A0 := Lib.hid (AP.new w 73 k s m t ck n op y)
  clear hm hm1 hm2 hcm hk hc hn
  go_enter Try.func45, Try.ntmps45
  go_wp2_with (first
    | (go_at_call 71; refine (CM.out _).mono ?_; rintro e w2 ⟨rfl, h⟩; have A2 := Lib.hid (A1.out.bl h); clear h; clear a0 a1 a2 a3 af0 af1 af2 af3 b0 b1 b2 b3 z0 z1 z2 z3 zf0 zf1 zf2 zf3; obtain ⟨a0, a1, a2, a3, af0, af1, af2, af3⟩ := four_cells A2.out.m; obtain ⟨b0, b1, b2, b3, _, _, _, _⟩ := four_cells A2.out.c; obtain ⟨z0, z1, z2, z3, zf0, zf1, zf2, zf3⟩ := four_cells A2.out.z)
    | (go_at_call 47; refine (CH.out _).mono ?_; rintro e w1 ⟨rfl, h⟩; have A1 := Lib.hid (A0.out.bl h); clear h; obtain ⟨a0, a1, a2, a3, af0, af1, af2, af3⟩ := four_cells A1.out.m; obtain ⟨b0, b1, b2, b3, _, _, _, _⟩ := four_cells A1.out.c; obtain ⟨z0, z1, z2, z3, zf0, zf1, zf2, zf3⟩ := four_cells A1.out.z))
  refine bodyPost_ret (v := .agg #[.int .u8 k, .int .u32 s, .int .u64 m, .int .u64 t]) (by simp [results, Try.results45, go_sem, *]) rfl ⟨rfl, ?_⟩
  exact ap_set (ap_set (ap_set (ap_set A2.out.b 2 _ _) 2 _ _) 2 _ _) 2 _ _

set_option maxRecDepth 100000 in
set_option maxHeartbeats 3200000 in
theorem apply_cutF (k s m t ck n op y : Nat) (w : World) (hm1 : m < 18446744073709551616) (hm2 : y < 18446744073709551616) (hm : mayM k s m = true) (hcm : mayC ck n op y = true) (hk : k = 1) (hc : ck = 2) (hn : n ≤ 2048) :
    Calls Try.prog 45 #[.agg #[.int .u8 k, .int .u32 s, .int .u64 m, .int .u64 t], .agg #[.int .u8 ck, .int .u64 n, .int .u8 op, .int .u64 y]] w fun x w' => x = .returned (.agg #[.int .u8 k, .int .u32 n, .int .u64 m, .int .u64 t]) ∧ Bl w w' := by
  have CH : Hid (∀ w, Calls Try.prog 47 #[.agg #[.int .u8 k, .int .u32 s, .int .u64 m, .int .u64 t]] w fun x w' => x = .returned (.int .i64 0) ∧ Bl w w') := Lib.hid (fun w => by
    have := check_any k s m t w
    unfold ChkP at this
    rw [show chk k s m = 0 by unfold chk; rw [if_pos hm]] at this
    exact this)
  have CM : Hid (∀ w, Calls Try.prog 71 #[.agg #[.int .u8 ck, .int .u64 n, .int .u8 op, .int .u64 y]] w fun x w' => x = .returned (.bool true) ∧ Bl w w') := Lib.hid (fun w => by
    have := may_any ck n op y w
    unfold MayP at this
    rw [hcm] at this
    exact this)
  have hu : IntKind.u32.wrap (n : Int) = n := by rw [IntKind.wrap_u32]; omega
  have q0 : ((k : Int) == 1) = true := by rw [beq_iff_eq]; omega
  have q1 : ((ck : Int) == 1) = false := by rw [beq_eq_false_iff_ne]; omega
  have q2 : ((ck : Int) == 2) = true := by rw [beq_iff_eq]; omega
  have A0 := Lib.hid (AP.new w 73 k s m t ck n op y)
  clear hm hm1 hm2 hcm hk hc hn
  go_enter Try.func45, Try.ntmps45
  go_wp2_with (first
    | (go_at_call 71; refine (CM.out _).mono ?_; rintro e w2 ⟨rfl, h⟩; have A2 := Lib.hid (A1.out.bl h); clear h; clear a0 a1 a2 a3 af0 af1 af2 af3 b0 b1 b2 b3 z0 z1 z2 z3 zf0 zf1 zf2 zf3; obtain ⟨a0, a1, a2, a3, af0, af1, af2, af3⟩ := four_cells A2.out.m; obtain ⟨b0, b1, b2, b3, _, _, _, _⟩ := four_cells A2.out.c; obtain ⟨z0, z1, z2, z3, zf0, zf1, zf2, zf3⟩ := four_cells A2.out.z)
    | (go_at_call 47; refine (CH.out _).mono ?_; rintro e w1 ⟨rfl, h⟩; have A1 := Lib.hid (A0.out.bl h); clear h; obtain ⟨a0, a1, a2, a3, af0, af1, af2, af3⟩ := four_cells A1.out.m; obtain ⟨b0, b1, b2, b3, _, _, _, _⟩ := four_cells A1.out.c; obtain ⟨z0, z1, z2, z3, zf0, zf1, zf2, zf3⟩ := four_cells A1.out.z))
  refine bodyPost_ret (v := .agg #[.int .u8 k, .int .u32 n, .int .u64 m, .int .u64 t]) (by simp [results, Try.results45, go_sem, *]) rfl ⟨rfl, ?_⟩
  exact ap_set (ap_set (ap_set (ap_set (ap_set0 A2.out.b _ _) 2 _ _) 2 _ _) 2 _ _) 2 _ _

set_option maxRecDepth 100000 in
set_option maxHeartbeats 3200000 in
theorem apply_cutD (k s m t ck n op y : Nat) (w : World) (hm1 : m < 18446744073709551616) (hm2 : y < 18446744073709551616) (hm : mayM k s m = true) (hcm : mayC ck n op y = true) (hk : ¬ k = 1) (hc : ck = 2) (hn : n ≤ 2048) :
    Calls Try.prog 45 #[.agg #[.int .u8 k, .int .u32 s, .int .u64 m, .int .u64 t], .agg #[.int .u8 ck, .int .u64 n, .int .u8 op, .int .u64 y]] w fun x w' => x = .returned (.agg #[.int .u8 k, .int .u32 s, .int .u64 m, .int .u64 t]) ∧ Bl w w' := by
  have CH : Hid (∀ w, Calls Try.prog 47 #[.agg #[.int .u8 k, .int .u32 s, .int .u64 m, .int .u64 t]] w fun x w' => x = .returned (.int .i64 0) ∧ Bl w w') := Lib.hid (fun w => by
    have := check_any k s m t w
    unfold ChkP at this
    rw [show chk k s m = 0 by unfold chk; rw [if_pos hm]] at this
    exact this)
  have CM : Hid (∀ w, Calls Try.prog 71 #[.agg #[.int .u8 ck, .int .u64 n, .int .u8 op, .int .u64 y]] w fun x w' => x = .returned (.bool true) ∧ Bl w w') := Lib.hid (fun w => by
    have := may_any ck n op y w
    unfold MayP at this
    rw [hcm] at this
    exact this)
  have hu : IntKind.u32.wrap (n : Int) = n := by rw [IntKind.wrap_u32]; omega
  have q0 : ((k : Int) == 1) = false := by rw [beq_eq_false_iff_ne]; omega
  have q1 : ((ck : Int) == 1) = false := by rw [beq_eq_false_iff_ne]; omega
  have q2 : ((ck : Int) == 2) = true := by rw [beq_iff_eq]; omega
  have q3 : ((ck : Int) == 3) = false := by rw [beq_eq_false_iff_ne]; omega
  have q4 : ((ck : Int) == 4) = false := by rw [beq_eq_false_iff_ne]; omega
  have A0 := Lib.hid (AP.new w 73 k s m t ck n op y)
  clear hm hm1 hm2 hcm hk hc hn
  go_enter Try.func45, Try.ntmps45
  go_wp2_with (first
    | (go_at_call 71; refine (CM.out _).mono ?_; rintro e w2 ⟨rfl, h⟩; have A2 := Lib.hid (A1.out.bl h); clear h; clear a0 a1 a2 a3 af0 af1 af2 af3 b0 b1 b2 b3 z0 z1 z2 z3 zf0 zf1 zf2 zf3; obtain ⟨a0, a1, a2, a3, af0, af1, af2, af3⟩ := four_cells A2.out.m; obtain ⟨b0, b1, b2, b3, _, _, _, _⟩ := four_cells A2.out.c; obtain ⟨z0, z1, z2, z3, zf0, zf1, zf2, zf3⟩ := four_cells A2.out.z)
    | (go_at_call 47; refine (CH.out _).mono ?_; rintro e w1 ⟨rfl, h⟩; have A1 := Lib.hid (A0.out.bl h); clear h; obtain ⟨a0, a1, a2, a3, af0, af1, af2, af3⟩ := four_cells A1.out.m; obtain ⟨b0, b1, b2, b3, _, _, _, _⟩ := four_cells A1.out.c; obtain ⟨z0, z1, z2, z3, zf0, zf1, zf2, zf3⟩ := four_cells A1.out.z))
  refine bodyPost_ret (v := .agg #[.int .u8 k, .int .u32 s, .int .u64 m, .int .u64 t]) (by simp [results, Try.results45, go_sem, *]) rfl ⟨rfl, ?_⟩
  exact ap_set (ap_set (ap_set (ap_set A2.out.b 2 _ _) 2 _ _) 2 _ _) 2 _ _

set_option maxRecDepth 100000 in
set_option maxHeartbeats 3200000 in
theorem apply_markF (k s m t ck n op y : Nat) (w : World) (hm1 : m < 18446744073709551616) (hm2 : y < 18446744073709551616) (hm : mayM k s m = true) (hcm : mayC ck n op y = true) (hk : k = 1) (hc : ck = 3) :
    Calls Try.prog 45 #[.agg #[.int .u8 k, .int .u32 s, .int .u64 m, .int .u64 t], .agg #[.int .u8 ck, .int .u64 n, .int .u8 op, .int .u64 y]] w fun x w' => x = .returned (.agg #[.int .u8 k, .int .u32 s, .int .u64 (stepI m op y), .int .u64 t]) ∧ Bl w w' := by
  have CH : Hid (∀ w, Calls Try.prog 47 #[.agg #[.int .u8 k, .int .u32 s, .int .u64 m, .int .u64 t]] w fun x w' => x = .returned (.int .i64 0) ∧ Bl w w') := Lib.hid (fun w => by
    have := check_any k s m t w
    unfold ChkP at this
    rw [show chk k s m = 0 by unfold chk; rw [if_pos hm]] at this
    exact this)
  have CM : Hid (∀ w, Calls Try.prog 71 #[.agg #[.int .u8 ck, .int .u64 n, .int .u8 op, .int .u64 y]] w fun x w' => x = .returned (.bool true) ∧ Bl w w') := Lib.hid (fun w => by
    have := may_any ck n op y w
    unfold MayP at this
    rw [hcm] at this
    exact this)
  have CN : Hid (∀ w, Calls Try.prog 76 #[.int .u64 m, .agg #[.int .u8 op, .int .u64 y]] w fun x w' => x = .returned (.tuple #[.int .u64 (stepI m op y), .int .i64 (stepE op)]) ∧ Bl w w') := Lib.hid (fun w => apply_any m op y w (by omega) (by omega) (by omega) (by omega))
  have q0 : ((k : Int) == 1) = true := by rw [beq_iff_eq]; omega
  have q1 : ((ck : Int) == 1) = false := by rw [beq_eq_false_iff_ne]; omega
  have q2 : ((ck : Int) == 2) = false := by rw [beq_eq_false_iff_ne]; omega
  have q3 : ((ck : Int) == 3) = true := by rw [beq_iff_eq]; omega
  have A0 := Lib.hid (AP.new w 73 k s m t ck n op y)
  clear hm hm1 hm2 hcm hk hc
  go_enter Try.func45, Try.ntmps45
  go_wp2_with (first
    | (go_at_call 76; refine (CN.out _).mono ?_; rintro e w3 ⟨rfl, h⟩; have A3 := Lib.hid (A2.out.bl h); clear h; clear a0 a1 a2 a3 af0 af1 af2 af3 b0 b1 b2 b3 z0 z1 z2 z3 zf0 zf1 zf2 zf3; obtain ⟨a0, a1, a2, a3, af0, af1, af2, af3⟩ := four_cells A3.out.m; obtain ⟨b0, b1, b2, b3, _, _, _, _⟩ := four_cells A3.out.c; obtain ⟨z0, z1, z2, z3, zf0, zf1, zf2, zf3⟩ := four_cells A3.out.z)
    | (go_at_call 71; refine (CM.out _).mono ?_; rintro e w2 ⟨rfl, h⟩; have A2 := Lib.hid (A1.out.bl h); clear h; clear a0 a1 a2 a3 af0 af1 af2 af3 b0 b1 b2 b3 z0 z1 z2 z3 zf0 zf1 zf2 zf3; obtain ⟨a0, a1, a2, a3, af0, af1, af2, af3⟩ := four_cells A2.out.m; obtain ⟨b0, b1, b2, b3, _, _, _, _⟩ := four_cells A2.out.c; obtain ⟨z0, z1, z2, z3, zf0, zf1, zf2, zf3⟩ := four_cells A2.out.z)
    | (go_at_call 47; refine (CH.out _).mono ?_; rintro e w1 ⟨rfl, h⟩; have A1 := Lib.hid (A0.out.bl h); clear h; obtain ⟨a0, a1, a2, a3, af0, af1, af2, af3⟩ := four_cells A1.out.m; obtain ⟨b0, b1, b2, b3, _, _, _, _⟩ := four_cells A1.out.c; obtain ⟨z0, z1, z2, z3, zf0, zf1, zf2, zf3⟩ := four_cells A1.out.z))
  refine bodyPost_ret (v := .agg #[.int .u8 k, .int .u32 s, .int .u64 (stepI m op y), .int .u64 t]) (by simp [results, Try.results45, go_sem, *]) rfl ⟨rfl, ?_⟩
  exact ap_set (ap_set (ap_set (ap_set (ap_set0 A3.out.b _ _) 2 _ _) 2 _ _) 2 _ _) 2 _ _

set_option maxRecDepth 100000 in
set_option maxHeartbeats 3200000 in
theorem apply_stampF (k s m t ck n op y : Nat) (w : World) (hm1 : m < 18446744073709551616) (hm2 : y < 18446744073709551616) (hm : mayM k s m = true) (hcm : mayC ck n op y = true) (hk : k = 1) (hc : ck = 4) :
    Calls Try.prog 45 #[.agg #[.int .u8 k, .int .u32 s, .int .u64 m, .int .u64 t], .agg #[.int .u8 ck, .int .u64 n, .int .u8 op, .int .u64 y]] w fun x w' => x = .returned (.agg #[.int .u8 k, .int .u32 s, .int .u64 m, .int .u64 n]) ∧ Bl w w' := by
  have CH : Hid (∀ w, Calls Try.prog 47 #[.agg #[.int .u8 k, .int .u32 s, .int .u64 m, .int .u64 t]] w fun x w' => x = .returned (.int .i64 0) ∧ Bl w w') := Lib.hid (fun w => by
    have := check_any k s m t w
    unfold ChkP at this
    rw [show chk k s m = 0 by unfold chk; rw [if_pos hm]] at this
    exact this)
  have CM : Hid (∀ w, Calls Try.prog 71 #[.agg #[.int .u8 ck, .int .u64 n, .int .u8 op, .int .u64 y]] w fun x w' => x = .returned (.bool true) ∧ Bl w w') := Lib.hid (fun w => by
    have := may_any ck n op y w
    unfold MayP at this
    rw [hcm] at this
    exact this)
  have q0 : ((k : Int) == 1) = true := by rw [beq_iff_eq]; omega
  have q1 : ((ck : Int) == 1) = false := by rw [beq_eq_false_iff_ne]; omega
  have q2 : ((ck : Int) == 2) = false := by rw [beq_eq_false_iff_ne]; omega
  have q3 : ((ck : Int) == 3) = false := by rw [beq_eq_false_iff_ne]; omega
  have q4 : ((ck : Int) == 4) = true := by rw [beq_iff_eq]; omega
  have A0 := Lib.hid (AP.new w 73 k s m t ck n op y)
  clear hm hm1 hm2 hcm hk hc
  go_enter Try.func45, Try.ntmps45
  go_wp2_with (first
    | (go_at_call 71; refine (CM.out _).mono ?_; rintro e w2 ⟨rfl, h⟩; have A2 := Lib.hid (A1.out.bl h); clear h; clear a0 a1 a2 a3 af0 af1 af2 af3 b0 b1 b2 b3 z0 z1 z2 z3 zf0 zf1 zf2 zf3; obtain ⟨a0, a1, a2, a3, af0, af1, af2, af3⟩ := four_cells A2.out.m; obtain ⟨b0, b1, b2, b3, _, _, _, _⟩ := four_cells A2.out.c; obtain ⟨z0, z1, z2, z3, zf0, zf1, zf2, zf3⟩ := four_cells A2.out.z)
    | (go_at_call 47; refine (CH.out _).mono ?_; rintro e w1 ⟨rfl, h⟩; have A1 := Lib.hid (A0.out.bl h); clear h; obtain ⟨a0, a1, a2, a3, af0, af1, af2, af3⟩ := four_cells A1.out.m; obtain ⟨b0, b1, b2, b3, _, _, _, _⟩ := four_cells A1.out.c; obtain ⟨z0, z1, z2, z3, zf0, zf1, zf2, zf3⟩ := four_cells A1.out.z))
  refine bodyPost_ret (v := .agg #[.int .u8 k, .int .u32 s, .int .u64 m, .int .u64 n]) (by simp [results, Try.results45, go_sem, *]) rfl ⟨rfl, ?_⟩
  exact ap_set (ap_set (ap_set (ap_set (ap_set0 A2.out.b _ _) 2 _ _) 2 _ _) 2 _ _) 2 _ _

set_option maxRecDepth 100000 in
set_option maxHeartbeats 3200000 in
theorem apply_markD (k s m t ck n op y : Nat) (w : World) (hm1 : m < 18446744073709551616) (hm2 : y < 18446744073709551616) (hm : mayM k s m = true) (hcm : mayC ck n op y = true) (hk : ¬ k = 1) (hc : ck = 3) :
    Calls Try.prog 45 #[.agg #[.int .u8 k, .int .u32 s, .int .u64 m, .int .u64 t], .agg #[.int .u8 ck, .int .u64 n, .int .u8 op, .int .u64 y]] w fun x w' => x = .returned (.agg #[.int .u8 k, .int .u32 s, .int .u64 (stepI m op y), .int .u64 t]) ∧ Bl w w' := by
  have CH : Hid (∀ w, Calls Try.prog 47 #[.agg #[.int .u8 k, .int .u32 s, .int .u64 m, .int .u64 t]] w fun x w' => x = .returned (.int .i64 0) ∧ Bl w w') := Lib.hid (fun w => by
    have := check_any k s m t w
    unfold ChkP at this
    rw [show chk k s m = 0 by unfold chk; rw [if_pos hm]] at this
    exact this)
  have CM : Hid (∀ w, Calls Try.prog 71 #[.agg #[.int .u8 ck, .int .u64 n, .int .u8 op, .int .u64 y]] w fun x w' => x = .returned (.bool true) ∧ Bl w w') := Lib.hid (fun w => by
    have := may_any ck n op y w
    unfold MayP at this
    rw [hcm] at this
    exact this)
  have CN : Hid (∀ w, Calls Try.prog 76 #[.int .u64 m, .agg #[.int .u8 op, .int .u64 y]] w fun x w' => x = .returned (.tuple #[.int .u64 (stepI m op y), .int .i64 (stepE op)]) ∧ Bl w w') := Lib.hid (fun w => apply_any m op y w (by omega) (by omega) (by omega) (by omega))
  have q0 : ((k : Int) == 1) = false := by rw [beq_eq_false_iff_ne]; omega
  have q1 : ((ck : Int) == 1) = false := by rw [beq_eq_false_iff_ne]; omega
  have q2 : ((ck : Int) == 2) = false := by rw [beq_eq_false_iff_ne]; omega
  have q3 : ((ck : Int) == 3) = true := by rw [beq_iff_eq]; omega
  have A0 := Lib.hid (AP.new w 73 k s m t ck n op y)
  clear hm hm1 hm2 hcm hk hc
  go_enter Try.func45, Try.ntmps45
  go_wp2_with (first
    | (go_at_call 76; refine (CN.out _).mono ?_; rintro e w3 ⟨rfl, h⟩; have A3 := Lib.hid (A2.out.bl h); clear h; clear a0 a1 a2 a3 af0 af1 af2 af3 b0 b1 b2 b3 z0 z1 z2 z3 zf0 zf1 zf2 zf3; obtain ⟨a0, a1, a2, a3, af0, af1, af2, af3⟩ := four_cells A3.out.m; obtain ⟨b0, b1, b2, b3, _, _, _, _⟩ := four_cells A3.out.c; obtain ⟨z0, z1, z2, z3, zf0, zf1, zf2, zf3⟩ := four_cells A3.out.z)
    | (go_at_call 71; refine (CM.out _).mono ?_; rintro e w2 ⟨rfl, h⟩; have A2 := Lib.hid (A1.out.bl h); clear h; clear a0 a1 a2 a3 af0 af1 af2 af3 b0 b1 b2 b3 z0 z1 z2 z3 zf0 zf1 zf2 zf3; obtain ⟨a0, a1, a2, a3, af0, af1, af2, af3⟩ := four_cells A2.out.m; obtain ⟨b0, b1, b2, b3, _, _, _, _⟩ := four_cells A2.out.c; obtain ⟨z0, z1, z2, z3, zf0, zf1, zf2, zf3⟩ := four_cells A2.out.z)
    | (go_at_call 47; refine (CH.out _).mono ?_; rintro e w1 ⟨rfl, h⟩; have A1 := Lib.hid (A0.out.bl h); clear h; obtain ⟨a0, a1, a2, a3, af0, af1, af2, af3⟩ := four_cells A1.out.m; obtain ⟨b0, b1, b2, b3, _, _, _, _⟩ := four_cells A1.out.c; obtain ⟨z0, z1, z2, z3, zf0, zf1, zf2, zf3⟩ := four_cells A1.out.z))
  refine bodyPost_ret (v := .agg #[.int .u8 k, .int .u32 s, .int .u64 (stepI m op y), .int .u64 t]) (by simp [results, Try.results45, go_sem, *]) rfl ⟨rfl, ?_⟩
  exact ap_set (ap_set (ap_set (ap_set (ap_set0 A3.out.b _ _) 2 _ _) 2 _ _) 2 _ _) 2 _ _

set_option maxRecDepth 100000 in
set_option maxHeartbeats 3200000 in
theorem apply_stampD (k s m t ck n op y : Nat) (w : World) (hm1 : m < 18446744073709551616) (hm2 : y < 18446744073709551616) (hm : mayM k s m = true) (hcm : mayC ck n op y = true) (hk : ¬ k = 1) (hc : ck = 4) :
    Calls Try.prog 45 #[.agg #[.int .u8 k, .int .u32 s, .int .u64 m, .int .u64 t], .agg #[.int .u8 ck, .int .u64 n, .int .u8 op, .int .u64 y]] w fun x w' => x = .returned (.agg #[.int .u8 k, .int .u32 s, .int .u64 m, .int .u64 n]) ∧ Bl w w' := by
  have CH : Hid (∀ w, Calls Try.prog 47 #[.agg #[.int .u8 k, .int .u32 s, .int .u64 m, .int .u64 t]] w fun x w' => x = .returned (.int .i64 0) ∧ Bl w w') := Lib.hid (fun w => by
    have := check_any k s m t w
    unfold ChkP at this
    rw [show chk k s m = 0 by unfold chk; rw [if_pos hm]] at this
    exact this)
  have CM : Hid (∀ w, Calls Try.prog 71 #[.agg #[.int .u8 ck, .int .u64 n, .int .u8 op, .int .u64 y]] w fun x w' => x = .returned (.bool true) ∧ Bl w w') := Lib.hid (fun w => by
    have := may_any ck n op y w
    unfold MayP at this
    rw [hcm] at this
    exact this)
  have q0 : ((k : Int) == 1) = false := by rw [beq_eq_false_iff_ne]; omega
  have q1 : ((ck : Int) == 1) = false := by rw [beq_eq_false_iff_ne]; omega
  have q2 : ((ck : Int) == 2) = false := by rw [beq_eq_false_iff_ne]; omega
  have q3 : ((ck : Int) == 3) = false := by rw [beq_eq_false_iff_ne]; omega
  have q4 : ((ck : Int) == 4) = true := by rw [beq_iff_eq]; omega
  have A0 := Lib.hid (AP.new w 73 k s m t ck n op y)
  clear hm hm1 hm2 hcm hk hc
  go_enter Try.func45, Try.ntmps45
  go_wp2_with (first
    | (go_at_call 71; refine (CM.out _).mono ?_; rintro e w2 ⟨rfl, h⟩; have A2 := Lib.hid (A1.out.bl h); clear h; clear a0 a1 a2 a3 af0 af1 af2 af3 b0 b1 b2 b3 z0 z1 z2 z3 zf0 zf1 zf2 zf3; obtain ⟨a0, a1, a2, a3, af0, af1, af2, af3⟩ := four_cells A2.out.m; obtain ⟨b0, b1, b2, b3, _, _, _, _⟩ := four_cells A2.out.c; obtain ⟨z0, z1, z2, z3, zf0, zf1, zf2, zf3⟩ := four_cells A2.out.z)
    | (go_at_call 47; refine (CH.out _).mono ?_; rintro e w1 ⟨rfl, h⟩; have A1 := Lib.hid (A0.out.bl h); clear h; obtain ⟨a0, a1, a2, a3, af0, af1, af2, af3⟩ := four_cells A1.out.m; obtain ⟨b0, b1, b2, b3, _, _, _, _⟩ := four_cells A1.out.c; obtain ⟨z0, z1, z2, z3, zf0, zf1, zf2, zf3⟩ := four_cells A1.out.z))
  refine bodyPost_ret (v := .agg #[.int .u8 k, .int .u32 s, .int .u64 m, .int .u64 n]) (by simp [results, Try.results45, go_sem, *]) rfl ⟨rfl, ?_⟩
  exact ap_set (ap_set (ap_set (ap_set (ap_set0 A2.out.b _ _) 2 _ _) 2 _ _) 2 _ _) 2 _ _

end Go.Proofs.Ytniblmpihnhglaa
