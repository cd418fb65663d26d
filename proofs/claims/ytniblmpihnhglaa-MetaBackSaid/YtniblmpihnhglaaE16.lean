/- Walks of layer 7: Apply of the reference. Printed by gen_e15.py. -/
import Derived.Test.YtniblmpihnhglaaE15
import Derived.Test.YtniblmpihnhglaaE10
namespace Go.Proofs.Ytniblmpihnhglaa
open Go.RowKit
set_option linter.unusedVariables false


set_option maxRecDepth 100000 in
set_option maxHeartbeats 3200000 in
theorem rapply_bad0 (k s m t ck n op y : Nat) (w : World) (hm1 : m < 18446744073709551616) (hm2 : y < 18446744073709551616) (hm : mayM k s m = false) :
    Calls Try.prog 46 #[.agg #[.int .u8 k, .int .u32 s, .int .u64 m, .int .u64 t], .agg #[.int .u8 ck, .int .u64 n, .int .u8 op, .int .u64 y]] w fun x w' => x = .returned (.agg #[.int .u8 k, .int .u32 s, .int .u64 m, .int .u64 t]) ∧ Bl w w' := by
  have CH : Hid (∀ w, Calls Try.prog 77 #[.agg #[.int .u8 k, .int .u32 s, .int .u64 m, .int .u64 t]] w fun x w' => x = .returned (.bool false) ∧ Bl w w') := Lib.hid (fun w => by
    have := rmay_any k s m t w (by omega) (by omega)
    unfold RMayP at this
    rw [hm] at this
    exact this)
  have A0 := Lib.hid (AP.new w 77 k s m t ck n op y)
  clear hm hm1 hm2
  go_enter Try.func46, Try.ntmps46
  go_wp2_with (first
    | (go_at_call 77; refine (CH.out _).mono ?_; rintro e w1 ⟨rfl, h⟩; have A1 := Lib.hid (A0.out.bl h); clear h; obtain ⟨a0, a1, a2, a3, af0, af1, af2, af3⟩ := four_cells A1.out.m; obtain ⟨b0, b1, b2, b3, _, _, _, _⟩ := four_cells A1.out.c; obtain ⟨z0, z1, z2, z3, zf0, zf1, zf2, zf3⟩ := four_cells A1.out.z))
  refine bodyPost_ret (v := .agg #[.int .u8 k, .int .u32 s, .int .u64 m, .int .u64 t]) (by simp [results, Try.results46, go_sem, *]) rfl ⟨rfl, ?_⟩
  exact ap_set (ap_set (ap_set (ap_set A1.out.b 2 _ _) 2 _ _) 2 _ _) 2 _ _

set_option maxRecDepth 100000 in
set_option maxHeartbeats 3200000 in
theorem rapply_off (k s m t ck n op y : Nat) (w : World) (hm1 : m < 18446744073709551616) (hm2 : y < 18446744073709551616) (hm : mayM k s m = true) (hcm : mayC ck n op y = false) :
    Calls Try.prog 46 #[.agg #[.int .u8 k, .int .u32 s, .int .u64 m, .int .u64 t], .agg #[.int .u8 ck, .int .u64 n, .int .u8 op, .int .u64 y]] w fun x w' => x = .returned (.agg #[.int .u8 k, .int .u32 s, .int .u64 m, .int .u64 t]) ∧ Bl w w' := by
  have CH : Hid (∀ w, Calls Try.prog 77 #[.agg #[.int .u8 k, .int .u32 s, .int .u64 m, .int .u64 t]] w fun x w' => x = .returned (.bool true) ∧ Bl w w') := Lib.hid (fun w => by
    have := rmay_any k s m t w (by omega) (by omega)
    unfold RMayP at this
    rw [hm] at this
    exact this)
  have CM : Hid (∀ w, Calls Try.prog 72 #[.agg #[.int .u8 ck, .int .u64 n, .int .u8 op, .int .u64 y]] w fun x w' => x = .returned (.bool false) ∧ Bl w w') := Lib.hid (fun w => by
    have := rmayc_any ck n op y w
    unfold MayP at this
    rw [hcm] at this
    exact this)
  have A0 := Lib.hid (AP.new w 77 k s m t ck n op y)
  clear hm hm1 hm2 hcm
  go_enter Try.func46, Try.ntmps46
  go_wp2_with (first
    | (go_at_call 72; refine (CM.out _).mono ?_; rintro e w2 ⟨rfl, h⟩; have A2 := Lib.hid (A1.out.bl h); clear h; clear a0 a1 a2 a3 af0 af1 af2 af3 b0 b1 b2 b3 z0 z1 z2 z3 zf0 zf1 zf2 zf3; obtain ⟨a0, a1, a2, a3, af0, af1, af2, af3⟩ := four_cells A2.out.m; obtain ⟨b0, b1, b2, b3, _, _, _, _⟩ := four_cells A2.out.c; obtain ⟨z0, z1, z2, z3, zf0, zf1, zf2, zf3⟩ := four_cells A2.out.z)
    | (go_at_call 77; refine (CH.out _).mono ?_; rintro e w1 ⟨rfl, h⟩; have A1 := Lib.hid (A0.out.bl h); clear h; obtain ⟨a0, a1, a2, a3, af0, af1, af2, af3⟩ := four_cells A1.out.m; obtain ⟨b0, b1, b2, b3, _, _, _, _⟩ := four_cells A1.out.c; obtain ⟨z0, z1, z2, z3, zf0, zf1, zf2, zf3⟩ := four_cells A1.out.z))
  refine bodyPost_ret (v := .agg #[.int .u8 k, .int .u32 s, .int .u64 m, .int .u64 t]) (by simp [results, Try.results46, go_sem, *]) rfl ⟨rfl, ?_⟩
  exact ap_set (ap_set (ap_set (ap_set A2.out.b 2 _ _) 2 _ _) 2 _ _) 2 _ _

set_option maxRecDepth 100000 in
set_option maxHeartbeats 3200000 in
theorem rapply_growY (k s m t ck n op y : Nat) (w : World) (hm1 : m < 18446744073709551616) (hm2 : y < 18446744073709551616) (hm : mayM k s m = true) (hcm : mayC ck n op y = true) (hk : k = 1) (hc : ck = 1) (hn : n ≤ 2048) (hs : s < n) :
    Calls Try.prog 46 #[.agg #[.int .u8 k, .int .u32 s, .int .u64 m, .int .u64 t], .agg #[.int .u8 ck, .int .u64 n, .int .u8 op, .int .u64 y]] w fun x w' => x = .returned (.agg #[.int .u8 k, .int .u32 n, .int .u64 m, .int .u64 t]) ∧ Bl w w' := by
  have CH : Hid (∀ w, Calls Try.prog 77 #[.agg #[.int .u8 k, .int .u32 s, .int .u64 m, .int .u64 t]] w fun x w' => x = .returned (.bool true) ∧ Bl w w') := Lib.hid (fun w => by
    have := rmay_any k s m t w (by omega) (by omega)
    unfold RMayP at this
    rw [hm] at this
    exact this)
  have CM : Hid (∀ w, Calls Try.prog 72 #[.agg #[.int .u8 ck, .int .u64 n, .int .u8 op, .int .u64 y]] w fun x w' => x = .returned (.bool true) ∧ Bl w w') := Lib.hid (fun w => by
    have := rmayc_any ck n op y w
    unfold MayP at this
    rw [hcm] at this
    exact this)
  have hu : IntKind.u32.wrap (n : Int) = n := by rw [IntKind.wrap_u32]; omega
  have q0 : ((k : Int) == 1) = true := by rw [beq_iff_eq]; omega
  have q1 : ((ck : Int) == 1) = true := by rw [beq_iff_eq]; omega
  have hlt : decide ((s : Int) < n) = true := decide_eq_true (by omega)
  have hlt2 : decide (s < n) = true := decide_eq_true (by omega)
  have A0 := Lib.hid (AP.new w 77 k s m t ck n op y)
  clear hm hm1 hm2 hcm hk hc hn hs
  go_enter Try.func46, Try.ntmps46
  go_wp2_with (first
    | (go_at_call 72; refine (CM.out _).mono ?_; rintro e w2 ⟨rfl, h⟩; have A2 := Lib.hid (A1.out.bl h); clear h; clear a0 a1 a2 a3 af0 af1 af2 af3 b0 b1 b2 b3 z0 z1 z2 z3 zf0 zf1 zf2 zf3; obtain ⟨a0, a1, a2, a3, af0, af1, af2, af3⟩ := four_cells A2.out.m; obtain ⟨b0, b1, b2, b3, _, _, _, _⟩ := four_cells A2.out.c; obtain ⟨z0, z1, z2, z3, zf0, zf1, zf2, zf3⟩ := four_cells A2.out.z)
    | (go_at_call 77; refine (CH.out _).mono ?_; rintro e w1 ⟨rfl, h⟩; have A1 := Lib.hid (A0.out.bl h); clear h; obtain ⟨a0, a1, a2, a3, af0, af1, af2, af3⟩ := four_cells A1.out.m; obtain ⟨b0, b1, b2, b3, _, _, _, _⟩ := four_cells A1.out.c; obtain ⟨z0, z1, z2, z3, zf0, zf1, zf2, zf3⟩ := four_cells A1.out.z))
  refine bodyPost_ret (v := .agg #[.int .u8 k, .int .u32 n, .int .u64 m, .int .u64 t]) (by simp [results, Try.results46, go_sem, *]) rfl ⟨rfl, ?_⟩
  exact ap_set (ap_set (ap_set (ap_set (ap_set0 A2.out.b _ _) 2 _ _) 2 _ _) 2 _ _) 2 _ _

set_option maxRecDepth 100000 in
set_option maxHeartbeats 3200000 in
theorem rapply_growN (k s m t ck n op y : Nat) (w : World) (hm1 : m < 18446744073709551616) (hm2 : y < 18446744073709551616) (hm : mayM k s m = true) (hcm : mayC ck n op y = true) (hk : k = 1) (hc : ck = 1) (hn : n ≤ 2048) (hs : ¬ s < n) :
    Calls Try.prog 46 #[.agg #[.int .u8 k, .int .u32 s, .int .u64 m, .int .u64 t], .agg #[.int .u8 ck, .int .u64 n, .int .u8 op, .int .u64 y]] w fun x w' => x = .returned (.agg #[.int .u8 k, .int .u32 s, .int .u64 m, .int .u64 t]) ∧ Bl w w' := by
  have CH : Hid (∀ w, Calls Try.prog 77 #[.agg #[.int .u8 k, .int .u32 s, .int .u64 m, .int .u64 t]] w fun x w' => x = .returned (.bool true) ∧ Bl w w') := Lib.hid (fun w => by
    have := rmay_any k s m t w (by omega) (by omega)
    unfold RMayP at this
    rw [hm] at this
    exact this)
  have CM : Hid (∀ w, Calls Try.prog 72 #[.agg #[.int .u8 ck, .int .u64 n, .int .u8 op, .int .u64 y]] w fun x w' => x = .returned (.bool true) ∧ Bl w w') := Lib.hid (fun w => by
    have := rmayc_any ck n op y w
    unfold MayP at this
    rw [hcm] at this
    exact this)
  have hu : IntKind.u32.wrap (n : Int) = n := by rw [IntKind.wrap_u32]; omega
  have q0 : ((k : Int) == 1) = true := by rw [beq_iff_eq]; omega
  have q1 : ((ck : Int) == 1) = true := by rw [beq_iff_eq]; omega
  have hlt : decide ((s : Int) < n) = false := decide_eq_false (by omega)
  have hlt2 : decide (s < n) = false := decide_eq_false (by omega)
  have A0 := Lib.hid (AP.new w 77 k s m t ck n op y)
  clear hm hm1 hm2 hcm hk hc hn hs
  go_enter Try.func46, Try.ntmps46
  go_wp2_with (first
    | (go_at_call 72; refine (CM.out _).mono ?_; rintro e w2 ⟨rfl, h⟩; have A2 := Lib.hid (A1.out.bl h); clear h; clear a0 a1 a2 a3 af0 af1 af2 af3 b0 b1 b2 b3 z0 z1 z2 z3 zf0 zf1 zf2 zf3; obtain ⟨a0, a1, a2, a3, af0, af1, af2, af3⟩ := four_cells A2.out.m; obtain ⟨b0, b1, b2, b3, _, _, _, _⟩ := four_cells A2.out.c; obtain ⟨z0, z1, z2, z3, zf0, zf1, zf2, zf3⟩ := four_cells A2.out.z)
    | (go_at_call 77; refine (CH.out _).mono ?_; rintro e w1 ⟨rfl, h⟩; have A1 := Lib.hid (A0.out.bl h); clear h; obtain ⟨a0, a1, a2, a3, af0, af1, af2, af3⟩ := four_cells A1.out.m; obtain ⟨b0, b1, b2, b3, _, _, _, _⟩ := four_cells A1.out.c; obtain ⟨z0, z1, z2, z3, zf0, zf1, zf2, zf3⟩ := four_cells A1.out.z))
  refine bodyPost_ret (v := .agg #[.int .u8 k, .int .u32 s, .int .u64 m, .int .u64 t]) (by simp [results, Try.results46, go_sem, *]) rfl ⟨rfl, ?_⟩
  exact ap_set (ap_set (ap_set (ap_set A2.out.b 2 _ _) 2 _ _) 2 _ _) 2 _ _

set_option maxRecDepth 100000 in
set_option maxHeartbeats 3200000 in
theorem rapply_growD (k s m t ck n op y : Nat) (w : World) (hm1 : m < 18446744073709551616) (hm2 : y < 18446744073709551616) (hm : mayM k s m = true) (hcm : mayC ck n op y = true) (hk : ¬ k = 1) (hc : ck = 1) (hn : n ≤ 2048) :
    Calls Try.prog 46 #[.agg #[.int .u8 k, .int .u32 s, .int .u64 m, .int .u64 t], .agg #[.int .u8 ck, .int .u64 n, .int .u8 op, .int .u64 y]] w fun x w' => x = .returned (.agg #[.int .u8 k, .int .u32 s, .int .u64 m, .int .u64 t]) ∧ Bl w w' := by
  have CH : Hid (∀ w, Calls Try.prog 77 #[.agg #[.int .u8 k, .int .u32 s, .int .u64 m, .int .u64 t]] w fun x w' => x = .returned (.bool true) ∧ Bl w w') := Lib.hid (fun w => by
    have := rmay_any k s m t w (by omega) (by omega)
    unfold RMayP at this
    rw [hm] at this
    exact this)
  have CM : Hid (∀ w, Calls Try.prog 72 #[.agg #[.int .u8 ck, .int .u64 n, .int .u8 op, .int .u64 y]] w fun x w' => x = .returned (.bool true) ∧ Bl w w') := Lib.hid (fun w => by
    have := rmayc_any ck n op y w
    unfold MayP at this
    rw [hcm] at this
    exact this)
  have hu : IntKind.u32.wrap (n : Int) = n := by rw [IntKind.wrap_u32]; omega
  have q0 : ((k : Int) == 1) = false := by rw [beq_eq_false_iff_ne]; omega
  have q1 : ((ck : Int) == 1) = true := by rw [beq_iff_eq]; omega
  have A0 := Lib.hid (AP.new w 77 k s m t ck n op y)
  clear hm hm1 hm2 hcm hk hc hn
  go_enter Try.func46, Try.ntmps46
  go_wp2_with (first
    | (go_at_call 72; refine (CM.out _).mono ?_; rintro e w2 ⟨rfl, h⟩; have A2 := Lib.hid (A1.out.bl h); clear h; clear a0 a1 a2 a3 af0 af1 af2 af3 b0 b1 b2 b3 z0 z1 z2 z3 zf0 zf1 zf2 zf3; obtain ⟨a0, a1, a2, a3, af0, af1, af2, af3⟩ := four_cells A2.out.m; obtain ⟨b0, b1, b2, b3, _, _, _, _⟩ := four_cells A2.out.c; obtain ⟨z0, z1, z2, z3, zf0, zf1, zf2, zf3⟩ := four_cells A2.out.z)
    | (go_at_call 77; refine (CH.out _).mono ?_; rintro e w1 ⟨rfl, h⟩; have A1 := Lib.hid (A0.out.bl h); clear h; obtain ⟨a0, a1, a2, a3, af0, af1, af2, af3⟩ := four_cells A1.out.m; obtain ⟨b0, b1, b2, b3, _, _, _, _⟩ := four_cells A1.out.c; obtain ⟨z0, z1, z2, z3, zf0, zf1, zf2, zf3⟩ := four_cells A1.out.z))
  refine bodyPost_ret (v := .agg #[.int .u8 k, .int .u32 s, .int .u64 m, .int .u64 t]) (by simp [results, Try.results46, go_sem, *]) rfl ⟨rfl, ?_⟩
  exact ap_set (ap_set (ap_set (ap_set A2.out.b 2 _ _) 2 _ _) 2 _ _) 2 _ _

set_option maxRecDepth 100000 in
set_option maxHeartbeats 3200000 in
theorem rapply_cutF (k s m t ck n op y : Nat) (w : World) (hm1 : m < 18446744073709551616) (hm2 : y < 18446744073709551616) (hm : mayM k s m = true) (hcm : mayC ck n op y = true) (hk : k = 1) (hc : ck = 2) (hn : n ≤ 2048) :
    Calls Try.prog 46 #[.agg #[.int .u8 k, .int .u32 s, .int .u64 m, .int .u64 t], .agg #[.int .u8 ck, .int .u64 n, .int .u8 op, .int .u64 y]] w fun x w' => x = .returned (.agg #[.int .u8 k, .int .u32 n, .int .u64 m, .int .u64 t]) ∧ Bl w w' := by
  have CH : Hid (∀ w, Calls Try.prog 77 #[.agg #[.int .u8 k, .int .u32 s, .int .u64 m, .int .u64 t]] w fun x w' => x = .returned (.bool true) ∧ Bl w w') := Lib.hid (fun w => by
    have := rmay_any k s m t w (by omega) (by omega)
    unfold RMayP at this
    rw [hm] at this
    exact this)
  have CM : Hid (∀ w, Calls Try.prog 72 #[.agg #[.int .u8 ck, .int .u64 n, .int .u8 op, .int .u64 y]] w fun x w' => x = .returned (.bool true) ∧ Bl w w') := Lib.hid (fun w => by
    have := rmayc_any ck n op y w
    unfold MayP at this
    rw [hcm] at this
    exact this)
  have hu : IntKind.u32.wrap (n : Int) = n := by rw [IntKind.wrap_u32]; omega
  have q0 : ((k : Int) == 1) = true := by rw [beq_iff_eq]; omega
  have q1 : ((ck : Int) == 1) = false := by rw [beq_eq_false_iff_ne]; omega
  have q2 : ((ck : Int) == 2) = true := by rw [beq_iff_eq]; omega
  have A0 := Lib.hid (AP.new w 77 k s m t ck n op y)
  clear hm hm1 hm2 hcm hk hc hn
  go_enter Try.func46, Try.ntmps46
  go_wp2_with (first
    | (go_at_call 72; refine (CM.out _).mono ?_; rintro e w2 ⟨rfl, h⟩; have A2 := Lib.hid (A1.out.bl h); clear h; clear a0 a1 a2 a3 af0 af1 af2 af3 b0 b1 b2 b3 z0 z1 z2 z3 zf0 zf1 zf2 zf3; obtain ⟨a0, a1, a2, a3, af0, af1, af2, af3⟩ := four_cells A2.out.m; obtain ⟨b0, b1, b2, b3, _, _, _, _⟩ := four_cells A2.out.c; obtain ⟨z0, z1, z2, z3, zf0, zf1, zf2, zf3⟩ := four_cells A2.out.z)
    | (go_at_call 77; refine (CH.out _).mono ?_; rintro e w1 ⟨rfl, h⟩; have A1 := Lib.hid (A0.out.bl h); clear h; obtain ⟨a0, a1, a2, a3, af0, af1, af2, af3⟩ := four_cells A1.out.m; obtain ⟨b0, b1, b2, b3, _, _, _, _⟩ := four_cells A1.out.c; obtain ⟨z0, z1, z2, z3, zf0, zf1, zf2, zf3⟩ := four_cells A1.out.z))
  refine bodyPost_ret (v := .agg #[.int .u8 k, .int .u32 n, .int .u64 m, .int .u64 t]) (by simp [results, Try.results46, go_sem, *]) rfl ⟨rfl, ?_⟩
  exact ap_set (ap_set (ap_set (ap_set (ap_set0 A2.out.b _ _) 2 _ _) 2 _ _) 2 _ _) 2 _ _

set_option maxRecDepth 100000 in
set_option maxHeartbeats 3200000 in
theorem rapply_cutD (k s m t ck n op y : Nat) (w : World) (hm1 : m < 18446744073709551616) (hm2 : y < 18446744073709551616) (hm : mayM k s m = true) (hcm : mayC ck n op y = true) (hk : ¬ k = 1) (hc : ck = 2) (hn : n ≤ 2048) :
    Calls Try.prog 46 #[.agg #[.int .u8 k, .int .u32 s, .int .u64 m, .int .u64 t], .agg #[.int .u8 ck, .int .u64 n, .int .u8 op, .int .u64 y]] w fun x w' => x = .returned (.agg #[.int .u8 k, .int .u32 s, .int .u64 m, .int .u64 t]) ∧ Bl w w' := by
  have CH : Hid (∀ w, Calls Try.prog 77 #[.agg #[.int .u8 k, .int .u32 s, .int .u64 m, .int .u64 t]] w fun x w' => x = .returned (.bool true) ∧ Bl w w') := Lib.hid (fun w => by
    have := rmay_any k s m t w (by omega) (by omega)
    unfold RMayP at this
    rw [hm] at this
    exact this)
  have CM : Hid (∀ w, Calls Try.prog 72 #[.agg #[.int .u8 ck, .int .u64 n, .int .u8 op, .int .u64 y]] w fun x w' => x = .returned (.bool true) ∧ Bl w w') := Lib.hid (fun w => by
    have := rmayc_any ck n op y w
    unfold MayP at this
    rw [hcm] at this
    exact this)
  have hu : IntKind.u32.wrap (n : Int) = n := by rw [IntKind.wrap_u32]; omega
  have q0 : ((k : Int) == 1) = false := by rw [beq_eq_false_iff_ne]; omega
  have q1 : ((ck : Int) == 1) = false := by rw [beq_eq_false_iff_ne]; omega
  have q2 : ((ck : Int) == 2) = true := by rw [beq_iff_eq]; omega
  have A0 := Lib.hid (AP.new w 77 k s m t ck n op y)
  clear hm hm1 hm2 hcm hk hc hn
  go_enter Try.func46, Try.ntmps46
  go_wp2_with (first
    | (go_at_call 72; refine (CM.out _).mono ?_; rintro e w2 ⟨rfl, h⟩; have A2 := Lib.hid (A1.out.bl h); clear h; clear a0 a1 a2 a3 af0 af1 af2 af3 b0 b1 b2 b3 z0 z1 z2 z3 zf0 zf1 zf2 zf3; obtain ⟨a0, a1, a2, a3, af0, af1, af2, af3⟩ := four_cells A2.out.m; obtain ⟨b0, b1, b2, b3, _, _, _, _⟩ := four_cells A2.out.c; obtain ⟨z0, z1, z2, z3, zf0, zf1, zf2, zf3⟩ := four_cells A2.out.z)
    | (go_at_call 77; refine (CH.out _).mono ?_; rintro e w1 ⟨rfl, h⟩; have A1 := Lib.hid (A0.out.bl h); clear h; obtain ⟨a0, a1, a2, a3, af0, af1, af2, af3⟩ := four_cells A1.out.m; obtain ⟨b0, b1, b2, b3, _, _, _, _⟩ := four_cells A1.out.c; obtain ⟨z0, z1, z2, z3, zf0, zf1, zf2, zf3⟩ := four_cells A1.out.z))
  refine bodyPost_ret (v := .agg #[.int .u8 k, .int .u32 s, .int .u64 m, .int .u64 t]) (by simp [results, Try.results46, go_sem, *]) rfl ⟨rfl, ?_⟩
  exact ap_set (ap_set (ap_set (ap_set A2.out.b 2 _ _) 2 _ _) 2 _ _) 2 _ _

set_option maxRecDepth 100000 in
set_option maxHeartbeats 3200000 in
theorem rapply_mark (k s m t ck n op y : Nat) (w : World) (hm1 : m < 18446744073709551616) (hm2 : y < 18446744073709551616) (hm : mayM k s m = true) (hcm : mayC ck n op y = true) (hc : ck = 3) :
    Calls Try.prog 46 #[.agg #[.int .u8 k, .int .u32 s, .int .u64 m, .int .u64 t], .agg #[.int .u8 ck, .int .u64 n, .int .u8 op, .int .u64 y]] w fun x w' => x = .returned (.agg #[.int .u8 k, .int .u32 s, .int .u64 (stepI m op y), .int .u64 t]) ∧ Bl w w' := by
  have CH : Hid (∀ w, Calls Try.prog 77 #[.agg #[.int .u8 k, .int .u32 s, .int .u64 m, .int .u64 t]] w fun x w' => x = .returned (.bool true) ∧ Bl w w') := Lib.hid (fun w => by
    have := rmay_any k s m t w (by omega) (by omega)
    unfold RMayP at this
    rw [hm] at this
    exact this)
  have CM : Hid (∀ w, Calls Try.prog 72 #[.agg #[.int .u8 ck, .int .u64 n, .int .u8 op, .int .u64 y]] w fun x w' => x = .returned (.bool true) ∧ Bl w w') := Lib.hid (fun w => by
    have := rmayc_any ck n op y w
    unfold MayP at this
    rw [hcm] at this
    exact this)
  have CN : Hid (∀ w, Calls Try.prog 78 #[.int .u64 m, .int .u8 op, .int .u64 y] w fun x w' => x = .returned (.tuple #[.int .u64 (stepI m op y), .int .i64 (stepE op)]) ∧ Bl w w') := Lib.hid (fun w => rapply_any m op y w (by omega) (by omega) (by omega) (by omega))
  have hu : True := trivial
  have q0 : ((ck : Int) == 1) = false := by rw [beq_eq_false_iff_ne]; omega
  have q1 : ((ck : Int) == 2) = false := by rw [beq_eq_false_iff_ne]; omega
  have q2 : ((ck : Int) == 3) = true := by rw [beq_iff_eq]; omega
  have A0 := Lib.hid (AP.new w 77 k s m t ck n op y)
  clear hm hm1 hm2 hcm hc
  go_enter Try.func46, Try.ntmps46
  go_wp2_with (first
    | (go_at_call 78; refine (CN.out _).mono ?_; rintro e w3 ⟨rfl, h⟩; have A3 := Lib.hid (A2.out.bl h); clear h; clear a0 a1 a2 a3 af0 af1 af2 af3 b0 b1 b2 b3 z0 z1 z2 z3 zf0 zf1 zf2 zf3; obtain ⟨a0, a1, a2, a3, af0, af1, af2, af3⟩ := four_cells A3.out.m; obtain ⟨b0, b1, b2, b3, _, _, _, _⟩ := four_cells A3.out.c; obtain ⟨z0, z1, z2, z3, zf0, zf1, zf2, zf3⟩ := four_cells A3.out.z)
    | (go_at_call 72; refine (CM.out _).mono ?_; rintro e w2 ⟨rfl, h⟩; have A2 := Lib.hid (A1.out.bl h); clear h; clear a0 a1 a2 a3 af0 af1 af2 af3 b0 b1 b2 b3 z0 z1 z2 z3 zf0 zf1 zf2 zf3; obtain ⟨a0, a1, a2, a3, af0, af1, af2, af3⟩ := four_cells A2.out.m; obtain ⟨b0, b1, b2, b3, _, _, _, _⟩ := four_cells A2.out.c; obtain ⟨z0, z1, z2, z3, zf0, zf1, zf2, zf3⟩ := four_cells A2.out.z)
    | (go_at_call 77; refine (CH.out _).mono ?_; rintro e w1 ⟨rfl, h⟩; have A1 := Lib.hid (A0.out.bl h); clear h; obtain ⟨a0, a1, a2, a3, af0, af1, af2, af3⟩ := four_cells A1.out.m; obtain ⟨b0, b1, b2, b3, _, _, _, _⟩ := four_cells A1.out.c; obtain ⟨z0, z1, z2, z3, zf0, zf1, zf2, zf3⟩ := four_cells A1.out.z))
  refine bodyPost_ret (v := .agg #[.int .u8 k, .int .u32 s, .int .u64 (stepI m op y), .int .u64 t]) (by simp [results, Try.results46, go_sem, *]) rfl ⟨rfl, ?_⟩
  exact ap_set (ap_set (ap_set (ap_set (ap_set0 A3.out.b _ _) 2 _ _) 2 _ _) 2 _ _) 2 _ _

set_option maxRecDepth 100000 in
set_option maxHeartbeats 3200000 in
theorem rapply_stamp (k s m t ck n op y : Nat) (w : World) (hm1 : m < 18446744073709551616) (hm2 : y < 18446744073709551616) (hm : mayM k s m = true) (hcm : mayC ck n op y = true) (hc : ck = 4) :
    Calls Try.prog 46 #[.agg #[.int .u8 k, .int .u32 s, .int .u64 m, .int .u64 t], .agg #[.int .u8 ck, .int .u64 n, .int .u8 op, .int .u64 y]] w fun x w' => x = .returned (.agg #[.int .u8 k, .int .u32 s, .int .u64 m, .int .u64 n]) ∧ Bl w w' := by
  have CH : Hid (∀ w, Calls Try.prog 77 #[.agg #[.int .u8 k, .int .u32 s, .int .u64 m, .int .u64 t]] w fun x w' => x = .returned (.bool true) ∧ Bl w w') := Lib.hid (fun w => by
    have := rmay_any k s m t w (by omega) (by omega)
    unfold RMayP at this
    rw [hm] at this
    exact this)
  have CM : Hid (∀ w, Calls Try.prog 72 #[.agg #[.int .u8 ck, .int .u64 n, .int .u8 op, .int .u64 y]] w fun x w' => x = .returned (.bool true) ∧ Bl w w') := Lib.hid (fun w => by
    have := rmayc_any ck n op y w
    unfold MayP at this
    rw [hcm] at this
    exact this)
  have q0 : ((ck : Int) == 1) = false := by rw [beq_eq_false_iff_ne]; omega
  have q1 : ((ck : Int) == 2) = false := by rw [beq_eq_false_iff_ne]; omega
  have q2 : ((ck : Int) == 3) = false := by rw [beq_eq_false_iff_ne]; omega
  have q3 : ((ck : Int) == 4) = true := by rw [beq_iff_eq]; omega
  have A0 := Lib.hid (AP.new w 77 k s m t ck n op y)
  clear hm hm1 hm2 hcm hc
  go_enter Try.func46, Try.ntmps46
  go_wp2_with (first
    | (go_at_call 72; refine (CM.out _).mono ?_; rintro e w2 ⟨rfl, h⟩; have A2 := Lib.hid (A1.out.bl h); clear h; clear a0 a1 a2 a3 af0 af1 af2 af3 b0 b1 b2 b3 z0 z1 z2 z3 zf0 zf1 zf2 zf3; obtain ⟨a0, a1, a2, a3, af0, af1, af2, af3⟩ := four_cells A2.out.m; obtain ⟨b0, b1, b2, b3, _, _, _, _⟩ := four_cells A2.out.c; obtain ⟨z0, z1, z2, z3, zf0, zf1, zf2, zf3⟩ := four_cells A2.out.z)
    | (go_at_call 77; refine (CH.out _).mono ?_; rintro e w1 ⟨rfl, h⟩; have A1 := Lib.hid (A0.out.bl h); clear h; obtain ⟨a0, a1, a2, a3, af0, af1, af2, af3⟩ := four_cells A1.out.m; obtain ⟨b0, b1, b2, b3, _, _, _, _⟩ := four_cells A1.out.c; obtain ⟨z0, z1, z2, z3, zf0, zf1, zf2, zf3⟩ := four_cells A1.out.z))
  refine bodyPost_ret (v := .agg #[.int .u8 k, .int .u32 s, .int .u64 m, .int .u64 n]) (by simp [results, Try.results46, go_sem, *]) rfl ⟨rfl, ?_⟩
  exact ap_set (ap_set (ap_set (ap_set (ap_set0 A2.out.b _ _) 2 _ _) 2 _ _) 2 _ _) 2 _ _

end Go.Proofs.Ytniblmpihnhglaa
