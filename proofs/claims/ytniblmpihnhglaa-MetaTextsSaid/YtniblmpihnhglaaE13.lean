/- Walks of layer 7: TakeChange of the reference. Printed by gen_e13.py. -/
import Derived.Test.YtniblmpihnhglaaE12
import Derived.Test.YtniblmpihnhglaaE10
namespace Go.Proofs.Ytniblmpihnhglaa
open Go.RowKit
set_option linter.unusedVariables false

abbrev Z77 : Obj := .cells #[.int .u8 0, .int .u64 0, .int .u8 0, .int .u64 0] 77
abbrev T3 : Obj := .cells #[.int .i64 0, .int .i64 5, .int .i64 5, .int .i64 10, .int .i64 9] 3
abbrev V77 (k n op y : Int) : Obj := .cells #[.int .u8 k, .int .u64 n, .int .u8 op, .int .u64 y] 77
theorem rc_blocks {w w1 : World} {k n op y : Int} (h : Bl (((w.alloc Z77).alloc T3).alloc (V77 k n op y)) w1) :
    w1.heap[w.heap.size]? = some (.cells #[.int .u8 0, .int .u64 0, .int .u8 0, .int .u64 0] 77 (0, 0)) ∧ w1.heap[w.heap.size + 2]? = some (.cells #[.int .u8 k, .int .u64 n, .int .u8 op, .int .u64 y] 77 (0, 0)) := by
  have z1 : ((w.alloc Z77).alloc T3).heap.size = w.heap.size + 2 := by show ((w.heap.push _).push _).size = _; rw [Array.size_push, Array.size_push]
  have z2 : (((w.alloc Z77).alloc T3).alloc (V77 k n op y)).heap.size = w.heap.size + 3 := by show (((w.heap.push _).push _).push _).size = _; rw [Array.size_push, Array.size_push, Array.size_push]
  have z0 : (w.alloc Z77).heap.size = w.heap.size + 1 := Array.size_push ..
  refine ⟨?_, ?_⟩
  · rw [h.block _ (by omega), Below.heap_alloc _ _ _ (by omega), Below.heap_alloc _ _ _ (by omega)]
    exact heap_alloc_new _ _
  · rw [h.block _ (by omega), ← z1]
    exact heap_alloc_new _ _
theorem rc_set {w W : World} (h : Bl w W) (j : Nat) (u : Value) : Bl w (W.setCell ⟨w.heap.size, j, none⟩ u) := h.setCell (Nat.le_refl _) u

set_option maxRecDepth 100000 in
set_option maxHeartbeats 1600000 in
theorem rctake_none (w : World) : Calls Try.prog 44 #[.string (strL [])] w fun x w' => x = .returned (.tuple #[chV 0 0 0 0, .int .i64 10]) ∧ Bl w w' := by
  have hnil : (strL []).toList = [] := by kernel_rfl
  go_enter Try.func44, Try.ntmps44
  go_wp2_with fail
  refine bodyPost_ret (v := .tuple #[.agg #[.int .u8 0, .int .u64 0, .int .u8 0, .int .u64 0], .int .i64 10]) (by simp [results, Try.results44, go_sem, *]) rfl ⟨rfl, ?_⟩
  exact (Bl.refl w).alloc _

set_option maxRecDepth 100000 in
set_option maxHeartbeats 1600000 in
theorem rctake_kind (L : List UInt8) (y : UInt8) (w : World) (hy : L[0]? = some y) (hl : L.length ≤ 10000) (hne : y.toNat = 0 ∨ 4 < y.toNat) :
    Calls Try.prog 44 #[.string (strL L)] w fun x w' => x = .returned (.tuple #[chV 0 0 0 0, .int .i64 4]) ∧ Bl w w' := by
  have hL : 0 < L.length := (List.getElem?_eq_some_iff.1 hy).1
  have hnil := strL_ne (L := L) (by rintro rfl; simp at hL)
  have hsz := strL_size L
  have hget : ∀ h, (strL L)[0]'h = y := fun h => strL_get L 0 y hy h
  clear hy
  rcases hne with h | h
  · have a1 : decide ((y.toNat : Int) < 1) = true := decide_eq_true (by omega)
    clear h
    go_enter Try.func44, Try.ntmps44
    go_wp2_with fail
    refine bodyPost_ret (v := .tuple #[.agg #[.int .u8 0, .int .u64 0, .int .u8 0, .int .u64 0], .int .i64 4]) (by simp [results, Try.results44, go_sem, *]) rfl ⟨rfl, ?_⟩
    exact (Bl.refl w).alloc _
  · have a1 : decide ((y.toNat : Int) < 1) = false := decide_eq_false (by omega)
    have a2 : decide ((4 : Int) < (y.toNat : Int)) = true := decide_eq_true (by omega)
    clear h
    go_enter Try.func44, Try.ntmps44
    go_wp2_with fail
    refine bodyPost_ret (v := .tuple #[.agg #[.int .u8 0, .int .u64 0, .int .u8 0, .int .u64 0], .int .i64 4]) (by simp [results, Try.results44, go_sem, *]) rfl ⟨rfl, ?_⟩
    exact (Bl.refl w).alloc _

set_option maxRecDepth 100000 in
set_option maxHeartbeats 1600000 in
theorem rctake_less1 (L : List UInt8) (y : UInt8) (w : World) (hy : L[0]? = some y) (hl : L.length ≤ 10000) (hk : y.toNat = 1) (h : L.length < 5) :
    Calls Try.prog 44 #[.string (strL L)] w fun x w' => x = .returned (.tuple #[chV 0 0 0 0, .int .i64 10]) ∧ Bl w w' := by
  have hL : 0 < L.length := (List.getElem?_eq_some_iff.1 hy).1
  have hnil := strL_ne (L := L) (by rintro rfl; simp at hL)
  have hsz := strL_size L
  have hget : ∀ h, (strL L)[0]'h = y := fun h => strL_get L 0 y hy h
  have hky : (y.toNat : Int) = 1 := by omega
  have b1 : decide ((L.length : Int) < 5) = true := decide_eq_true (by omega)
  clear hy hk h
  go_enter Try.func44, Try.ntmps44
  go_wp2_with fail
  refine bodyPost_ret (v := .tuple #[.agg #[.int .u8 0, .int .u64 0, .int .u8 0, .int .u64 0], .int .i64 10]) (by simp [results, Try.results44, go_sem, *]) rfl ⟨rfl, ?_⟩
  exact ((Bl.refl w).alloc _).alloc _

set_option maxRecDepth 100000 in
set_option maxHeartbeats 1600000 in
theorem rctake_more1 (L : List UInt8) (y : UInt8) (w : World) (hy : L[0]? = some y) (hl : L.length ≤ 10000) (hk : y.toNat = 1) (h : 5 < L.length) :
    Calls Try.prog 44 #[.string (strL L)] w fun x w' => x = .returned (.tuple #[chV 0 0 0 0, .int .i64 4]) ∧ Bl w w' := by
  have hL : 0 < L.length := (List.getElem?_eq_some_iff.1 hy).1
  have hnil := strL_ne (L := L) (by rintro rfl; simp at hL)
  have hsz := strL_size L
  have hget : ∀ h, (strL L)[0]'h = y := fun h => strL_get L 0 y hy h
  have hky : (y.toNat : Int) = 1 := by omega
  have b1 : decide ((L.length : Int) < 5) = false := decide_eq_false (by omega)
  have b2 : decide ((5 : Int) < (L.length : Int)) = true := decide_eq_true (by omega)
  clear hy hk h
  go_enter Try.func44, Try.ntmps44
  go_wp2_with fail
  refine bodyPost_ret (v := .tuple #[.agg #[.int .u8 0, .int .u64 0, .int .u8 0, .int .u64 0], .int .i64 4]) (by simp [results, Try.results44, go_sem, *]) rfl ⟨rfl, ?_⟩
  exact ((Bl.refl w).alloc _).alloc _

set_option maxRecDepth 100000 in
set_option maxHeartbeats 1600000 in
theorem rctake_bad1 (L : List UInt8) (y : UInt8) (w : World) (hy : L[0]? = some y) (hl : L.length ≤ 10000) (hk : y.toNat = 1) (h : L.length = 5) (N : Nat) (hN : beN ((L.drop 1).take 4) = N) (hm : mayC 1 N 0 0 = false) :
    Calls Try.prog 44 #[.string (strL L)] w fun x w' => x = .returned (.tuple #[chV 0 0 0 0, .int .i64 4]) ∧ Bl w w' := by
  have hL : 0 < L.length := (List.getElem?_eq_some_iff.1 hy).1
  have hnil := strL_ne (L := L) (by rintro rfl; simp at hL)
  have hsz := strL_size L
  have hget : ∀ h, (strL L)[0]'h = y := fun h => strL_get L 0 y hy h
  have hky : (y.toNat : Int) = 1 := by omega
  have b1 : decide ((L.length : Int) < 5) = false := decide_eq_false (by omega)
  have b2 : decide ((5 : Int) < (L.length : Int)) = false := decide_eq_false (by omega)
  have i1 : 1 < L.length := by omega
  have N1 : Hid (∀ w, Calls Try.prog 75 #[.string (strL L), .int .i64 1, .int .i64 5] w fun x w' => x = .returned (.int .u64 (N : Int)) ∧ w = w') := Lib.hid (fun w => by
    have := rnum_any L _ 1 5 w rfl (by omega) (by omega) (by omega) hl
    rw [show beN ((L.drop 1).take (5 - 1)) = N from hN] at this; exact this)
  have CH : Hid (∀ w, Calls Try.prog 72 #[.agg #[.int .u8 1, .int .u64 N, .int .u8 0, .int .u64 0]] w fun x w' => x = .returned (.bool false) ∧ Bl w w') := Lib.hid (fun w => by
    have := rmayc_any 1 N 0 0 w
    unfold MayP at this
    rw [hm] at this
    exact this)
  clear hy hk h hm
  go_enter Try.func44, Try.ntmps44
  go_wp2_with (first
    | (go_at_call 72; refine (CH.out _).mono ?_; rintro e w7 ⟨rfl, h7⟩; have T7 := Lib.hid (rc_blocks (k := 1) (n := N) (op := 0) (y := 0) h7); have B7 := Lib.hid h7; clear h7; obtain ⟨z0, z1, z2, z3, zf0, zf1, zf2, zf3⟩ := four_cells T7.out.1; obtain ⟨y0, y1, y2, y3, _, _, _, _⟩ := four_cells T7.out.2)
    | (go_at_call 75; refine (N1.out _).mono ?_; rintro e w' ⟨rfl, rfl⟩))
  refine bodyPost_ret (v := .tuple #[.agg #[.int .u8 0, .int .u64 0, .int .u8 0, .int .u64 0], .int .i64 4]) (by simp [results, Try.results44, go_sem, *]) rfl ⟨rfl, ?_⟩
  exact rc_set (rc_set (rc_set (rc_set (((((Bl.refl w).alloc _).alloc _).alloc _).trans B7.out) _ _) _ _) _ _) _ _

set_option maxRecDepth 100000 in
set_option maxHeartbeats 1600000 in
theorem rctake_good1 (L : List UInt8) (y : UInt8) (w : World) (hy : L[0]? = some y) (hl : L.length ≤ 10000) (hk : y.toNat = 1) (h : L.length = 5) (N : Nat) (hN : beN ((L.drop 1).take 4) = N) (hm : mayC 1 N 0 0 = true) :
    Calls Try.prog 44 #[.string (strL L)] w fun x w' => x = .returned (.tuple #[chV 1 N 0 0, .int .i64 0]) ∧ Bl w w' := by
  have hL : 0 < L.length := (List.getElem?_eq_some_iff.1 hy).1
  have hnil := strL_ne (L := L) (by rintro rfl; simp at hL)
  have hsz := strL_size L
  have hget : ∀ h, (strL L)[0]'h = y := fun h => strL_get L 0 y hy h
  have hky : (y.toNat : Int) = 1 := by omega
  have b1 : decide ((L.length : Int) < 5) = false := decide_eq_false (by omega)
  have b2 : decide ((5 : Int) < (L.length : Int)) = false := decide_eq_false (by omega)
  have i1 : 1 < L.length := by omega
  have N1 : Hid (∀ w, Calls Try.prog 75 #[.string (strL L), .int .i64 1, .int .i64 5] w fun x w' => x = .returned (.int .u64 (N : Int)) ∧ w = w') := Lib.hid (fun w => by
    have := rnum_any L _ 1 5 w rfl (by omega) (by omega) (by omega) hl
    rw [show beN ((L.drop 1).take (5 - 1)) = N from hN] at this; exact this)
  have CH : Hid (∀ w, Calls Try.prog 72 #[.agg #[.int .u8 1, .int .u64 N, .int .u8 0, .int .u64 0]] w fun x w' => x = .returned (.bool true) ∧ Bl w w') := Lib.hid (fun w => by
    have := rmayc_any 1 N 0 0 w
    unfold MayP at this
    rw [hm] at this
    exact this)
  clear hy hk h hm
  go_enter Try.func44, Try.ntmps44
  go_wp2_with (first
    | (go_at_call 72; refine (CH.out _).mono ?_; rintro e w7 ⟨rfl, h7⟩; have T7 := Lib.hid (rc_blocks (k := 1) (n := N) (op := 0) (y := 0) h7); have B7 := Lib.hid h7; clear h7; obtain ⟨z0, z1, z2, z3, zf0, zf1, zf2, zf3⟩ := four_cells T7.out.1; obtain ⟨y0, y1, y2, y3, _, _, _, _⟩ := four_cells T7.out.2)
    | (go_at_call 75; refine (N1.out _).mono ?_; rintro e w' ⟨rfl, rfl⟩))
  refine bodyPost_ret (v := .tuple #[.agg #[.int .u8 1, .int .u64 N, .int .u8 0, .int .u64 0], .int .i64 0]) (by simp [results, Try.results44, go_sem, *]) rfl ⟨rfl, ?_⟩
  exact rc_set (rc_set (rc_set (rc_set (((((Bl.refl w).alloc _).alloc _).alloc _).trans B7.out) _ _) _ _) _ _) _ _

set_option maxRecDepth 100000 in
set_option maxHeartbeats 1600000 in
theorem rctake_less2 (L : List UInt8) (y : UInt8) (w : World) (hy : L[0]? = some y) (hl : L.length ≤ 10000) (hk : y.toNat = 2) (h : L.length < 5) :
    Calls Try.prog 44 #[.string (strL L)] w fun x w' => x = .returned (.tuple #[chV 0 0 0 0, .int .i64 10]) ∧ Bl w w' := by
  have hL : 0 < L.length := (List.getElem?_eq_some_iff.1 hy).1
  have hnil := strL_ne (L := L) (by rintro rfl; simp at hL)
  have hsz := strL_size L
  have hget : ∀ h, (strL L)[0]'h = y := fun h => strL_get L 0 y hy h
  have hky : (y.toNat : Int) = 2 := by omega
  have b1 : decide ((L.length : Int) < 5) = true := decide_eq_true (by omega)
  clear hy hk h
  go_enter Try.func44, Try.ntmps44
  go_wp2_with fail
  refine bodyPost_ret (v := .tuple #[.agg #[.int .u8 0, .int .u64 0, .int .u8 0, .int .u64 0], .int .i64 10]) (by simp [results, Try.results44, go_sem, *]) rfl ⟨rfl, ?_⟩
  exact ((Bl.refl w).alloc _).alloc _

set_option maxRecDepth 100000 in
set_option maxHeartbeats 1600000 in
theorem rctake_more2 (L : List UInt8) (y : UInt8) (w : World) (hy : L[0]? = some y) (hl : L.length ≤ 10000) (hk : y.toNat = 2) (h : 5 < L.length) :
    Calls Try.prog 44 #[.string (strL L)] w fun x w' => x = .returned (.tuple #[chV 0 0 0 0, .int .i64 4]) ∧ Bl w w' := by
  have hL : 0 < L.length := (List.getElem?_eq_some_iff.1 hy).1
  have hnil := strL_ne (L := L) (by rintro rfl; simp at hL)
  have hsz := strL_size L
  have hget : ∀ h, (strL L)[0]'h = y := fun h => strL_get L 0 y hy h
  have hky : (y.toNat : Int) = 2 := by omega
  have b1 : decide ((L.length : Int) < 5) = false := decide_eq_false (by omega)
  have b2 : decide ((5 : Int) < (L.length : Int)) = true := decide_eq_true (by omega)
  clear hy hk h
  go_enter Try.func44, Try.ntmps44
  go_wp2_with fail
  refine bodyPost_ret (v := .tuple #[.agg #[.int .u8 0, .int .u64 0, .int .u8 0, .int .u64 0], .int .i64 4]) (by simp [results, Try.results44, go_sem, *]) rfl ⟨rfl, ?_⟩
  exact ((Bl.refl w).alloc _).alloc _

set_option maxRecDepth 100000 in
set_option maxHeartbeats 1600000 in
theorem rctake_bad2 (L : List UInt8) (y : UInt8) (w : World) (hy : L[0]? = some y) (hl : L.length ≤ 10000) (hk : y.toNat = 2) (h : L.length = 5) (N : Nat) (hN : beN ((L.drop 1).take 4) = N) (hm : mayC 2 N 0 0 = false) :
    Calls Try.prog 44 #[.string (strL L)] w fun x w' => x = .returned (.tuple #[chV 0 0 0 0, .int .i64 4]) ∧ Bl w w' := by
  have hL : 0 < L.length := (List.getElem?_eq_some_iff.1 hy).1
  have hnil := strL_ne (L := L) (by rintro rfl; simp at hL)
  have hsz := strL_size L
  have hget : ∀ h, (strL L)[0]'h = y := fun h => strL_get L 0 y hy h
  have hky : (y.toNat : Int) = 2 := by omega
  have b1 : decide ((L.length : Int) < 5) = false := decide_eq_false (by omega)
  have b2 : decide ((5 : Int) < (L.length : Int)) = false := decide_eq_false (by omega)
  have i1 : 1 < L.length := by omega
  have N1 : Hid (∀ w, Calls Try.prog 75 #[.string (strL L), .int .i64 1, .int .i64 5] w fun x w' => x = .returned (.int .u64 (N : Int)) ∧ w = w') := Lib.hid (fun w => by
    have := rnum_any L _ 1 5 w rfl (by omega) (by omega) (by omega) hl
    rw [show beN ((L.drop 1).take (5 - 1)) = N from hN] at this; exact this)
  have CH : Hid (∀ w, Calls Try.prog 72 #[.agg #[.int .u8 2, .int .u64 N, .int .u8 0, .int .u64 0]] w fun x w' => x = .returned (.bool false) ∧ Bl w w') := Lib.hid (fun w => by
    have := rmayc_any 2 N 0 0 w
    unfold MayP at this
    rw [hm] at this
    exact this)
  clear hy hk h hm
  go_enter Try.func44, Try.ntmps44
  go_wp2_with (first
    | (go_at_call 72; refine (CH.out _).mono ?_; rintro e w7 ⟨rfl, h7⟩; have T7 := Lib.hid (rc_blocks (k := 2) (n := N) (op := 0) (y := 0) h7); have B7 := Lib.hid h7; clear h7; obtain ⟨z0, z1, z2, z3, zf0, zf1, zf2, zf3⟩ := four_cells T7.out.1; obtain ⟨y0, y1, y2, y3, _, _, _, _⟩ := four_cells T7.out.2)
    | (go_at_call 75; refine (N1.out _).mono ?_; rintro e w' ⟨rfl, rfl⟩))
  refine bodyPost_ret (v := .tuple #[.agg #[.int .u8 0, .int .u64 0, .int .u8 0, .int .u64 0], .int .i64 4]) (by simp [results, Try.results44, go_sem, *]) rfl ⟨rfl, ?_⟩
  exact rc_set (rc_set (rc_set (rc_set (((((Bl.refl w).alloc _).alloc _).alloc _).trans B7.out) _ _) _ _) _ _) _ _

set_option maxRecDepth 100000 in
set_option maxHeartbeats 1600000 in
theorem rctake_good2 (L : List UInt8) (y : UInt8) (w : World) (hy : L[0]? = some y) (hl : L.length ≤ 10000) (hk : y.toNat = 2) (h : L.length = 5) (N : Nat) (hN : beN ((L.drop 1).take 4) = N) (hm : mayC 2 N 0 0 = true) :
    Calls Try.prog 44 #[.string (strL L)] w fun x w' => x = .returned (.tuple #[chV 2 N 0 0, .int .i64 0]) ∧ Bl w w' := by
  have hL : 0 < L.length := (List.getElem?_eq_some_iff.1 hy).1
  have hnil := strL_ne (L := L) (by rintro rfl; simp at hL)
  have hsz := strL_size L
  have hget : ∀ h, (strL L)[0]'h = y := fun h => strL_get L 0 y hy h
  have hky : (y.toNat : Int) = 2 := by omega
  have b1 : decide ((L.length : Int) < 5) = false := decide_eq_false (by omega)
  have b2 : decide ((5 : Int) < (L.length : Int)) = false := decide_eq_false (by omega)
  have i1 : 1 < L.length := by omega
  have N1 : Hid (∀ w, Calls Try.prog 75 #[.string (strL L), .int .i64 1, .int .i64 5] w fun x w' => x = .returned (.int .u64 (N : Int)) ∧ w = w') := Lib.hid (fun w => by
    have := rnum_any L _ 1 5 w rfl (by omega) (by omega) (by omega) hl
    rw [show beN ((L.drop 1).take (5 - 1)) = N from hN] at this; exact this)
  have CH : Hid (∀ w, Calls Try.prog 72 #[.agg #[.int .u8 2, .int .u64 N, .int .u8 0, .int .u64 0]] w fun x w' => x = .returned (.bool true) ∧ Bl w w') := Lib.hid (fun w => by
    have := rmayc_any 2 N 0 0 w
    unfold MayP at this
    rw [hm] at this
    exact this)
  clear hy hk h hm
  go_enter Try.func44, Try.ntmps44
  go_wp2_with (first
    | (go_at_call 72; refine (CH.out _).mono ?_; rintro e w7 ⟨rfl, h7⟩; have T7 := Lib.hid (rc_blocks (k := 2) (n := N) (op := 0) (y := 0) h7); have B7 := Lib.hid h7; clear h7; obtain ⟨z0, z1, z2, z3, zf0, zf1, zf2, zf3⟩ := four_cells T7.out.1; obtain ⟨y0, y1, y2, y3, _, _, _, _⟩ := four_cells T7.out.2)
    | (go_at_call 75; refine (N1.out _).mono ?_; rintro e w' ⟨rfl, rfl⟩))
  refine bodyPost_ret (v := .tuple #[.agg #[.int .u8 2, .int .u64 N, .int .u8 0, .int .u64 0], .int .i64 0]) (by simp [results, Try.results44, go_sem, *]) rfl ⟨rfl, ?_⟩
  exact rc_set (rc_set (rc_set (rc_set (((((Bl.refl w).alloc _).alloc _).alloc _).trans B7.out) _ _) _ _) _ _) _ _

set_option maxRecDepth 100000 in
set_option maxHeartbeats 1600000 in
theorem rctake_less3 (L : List UInt8) (y : UInt8) (w : World) (hy : L[0]? = some y) (hl : L.length ≤ 10000) (hk : y.toNat = 3) (h : L.length < 10) :
    Calls Try.prog 44 #[.string (strL L)] w fun x w' => x = .returned (.tuple #[chV 0 0 0 0, .int .i64 10]) ∧ Bl w w' := by
  have hL : 0 < L.length := (List.getElem?_eq_some_iff.1 hy).1
  have hnil := strL_ne (L := L) (by rintro rfl; simp at hL)
  have hsz := strL_size L
  have hget : ∀ h, (strL L)[0]'h = y := fun h => strL_get L 0 y hy h
  have hky : (y.toNat : Int) = 3 := by omega
  have b1 : decide ((L.length : Int) < 10) = true := decide_eq_true (by omega)
  clear hy hk h
  go_enter Try.func44, Try.ntmps44
  go_wp2_with fail
  refine bodyPost_ret (v := .tuple #[.agg #[.int .u8 0, .int .u64 0, .int .u8 0, .int .u64 0], .int .i64 10]) (by simp [results, Try.results44, go_sem, *]) rfl ⟨rfl, ?_⟩
  exact ((Bl.refl w).alloc _).alloc _

set_option maxRecDepth 100000 in
set_option maxHeartbeats 1600000 in
theorem rctake_more3 (L : List UInt8) (y : UInt8) (w : World) (hy : L[0]? = some y) (hl : L.length ≤ 10000) (hk : y.toNat = 3) (h : 10 < L.length) :
    Calls Try.prog 44 #[.string (strL L)] w fun x w' => x = .returned (.tuple #[chV 0 0 0 0, .int .i64 4]) ∧ Bl w w' := by
  have hL : 0 < L.length := (List.getElem?_eq_some_iff.1 hy).1
  have hnil := strL_ne (L := L) (by rintro rfl; simp at hL)
  have hsz := strL_size L
  have hget : ∀ h, (strL L)[0]'h = y := fun h => strL_get L 0 y hy h
  have hky : (y.toNat : Int) = 3 := by omega
  have b1 : decide ((L.length : Int) < 10) = false := decide_eq_false (by omega)
  have b2 : decide ((10 : Int) < (L.length : Int)) = true := decide_eq_true (by omega)
  clear hy hk h
  go_enter Try.func44, Try.ntmps44
  go_wp2_with fail
  refine bodyPost_ret (v := .tuple #[.agg #[.int .u8 0, .int .u64 0, .int .u8 0, .int .u64 0], .int .i64 4]) (by simp [results, Try.results44, go_sem, *]) rfl ⟨rfl, ?_⟩
  exact ((Bl.refl w).alloc _).alloc _

set_option maxRecDepth 100000 in
set_option maxHeartbeats 1600000 in
theorem rctake_bad3 (L : List UInt8) (y : UInt8) (w : World) (hy : L[0]? = some y) (hl : L.length ≤ 10000) (hk : y.toNat = 3) (h : L.length = 10) (z : UInt8) (M : Nat) (hz : L[1]? = some z) (hM : beN ((L.drop 2).take 8) = M) (hm : mayC 3 0 z.toNat M = false) :
    Calls Try.prog 44 #[.string (strL L)] w fun x w' => x = .returned (.tuple #[chV 0 0 0 0, .int .i64 4]) ∧ Bl w w' := by
  have hL : 0 < L.length := (List.getElem?_eq_some_iff.1 hy).1
  have hnil := strL_ne (L := L) (by rintro rfl; simp at hL)
  have hsz := strL_size L
  have hget : ∀ h, (strL L)[0]'h = y := fun h => strL_get L 0 y hy h
  have hky : (y.toNat : Int) = 3 := by omega
  have b1 : decide ((L.length : Int) < 10) = false := decide_eq_false (by omega)
  have b2 : decide ((10 : Int) < (L.length : Int)) = false := decide_eq_false (by omega)
  have i1 : 1 < L.length := by omega
  have N1 : Hid (∀ w, Calls Try.prog 75 #[.string (strL L), .int .i64 2, .int .i64 10] w fun x w' => x = .returned (.int .u64 (M : Int)) ∧ w = w') := Lib.hid (fun w => by
    have := rnum_any L _ 2 10 w rfl (by omega) (by omega) (by omega) hl
    rw [show beN ((L.drop 2).take (10 - 2)) = M from hM] at this; exact this)
  have hget1 : ∀ h, (strL L)[1]'h = z := fun h => strL_get L 1 z hz h
  have CH : Hid (∀ w, Calls Try.prog 72 #[.agg #[.int .u8 3, .int .u64 0, .int .u8 z.toNat, .int .u64 M]] w fun x w' => x = .returned (.bool false) ∧ Bl w w') := Lib.hid (fun w => by
    have := rmayc_any 3 0 z.toNat M w
    unfold MayP at this
    rw [hm] at this
    exact this)
  clear hy hk h hm
  go_enter Try.func44, Try.ntmps44
  go_wp2_with (first
    | (go_at_call 72; refine (CH.out _).mono ?_; rintro e w7 ⟨rfl, h7⟩; have T7 := Lib.hid (rc_blocks (k := 3) (n := 0) (op := z.toNat) (y := M) h7); have B7 := Lib.hid h7; clear h7; obtain ⟨z0, z1, z2, z3, zf0, zf1, zf2, zf3⟩ := four_cells T7.out.1; obtain ⟨y0, y1, y2, y3, _, _, _, _⟩ := four_cells T7.out.2)
    | (go_at_call 75; refine (N1.out _).mono ?_; rintro e w' ⟨rfl, rfl⟩))
  refine bodyPost_ret (v := .tuple #[.agg #[.int .u8 0, .int .u64 0, .int .u8 0, .int .u64 0], .int .i64 4]) (by simp [results, Try.results44, go_sem, *]) rfl ⟨rfl, ?_⟩
  exact rc_set (rc_set (rc_set (rc_set (((((Bl.refl w).alloc _).alloc _).alloc _).trans B7.out) _ _) _ _) _ _) _ _

set_option maxRecDepth 100000 in
set_option maxHeartbeats 1600000 in
theorem rctake_good3 (L : List UInt8) (y : UInt8) (w : World) (hy : L[0]? = some y) (hl : L.length ≤ 10000) (hk : y.toNat = 3) (h : L.length = 10) (z : UInt8) (M : Nat) (hz : L[1]? = some z) (hM : beN ((L.drop 2).take 8) = M) (hm : mayC 3 0 z.toNat M = true) :
    Calls Try.prog 44 #[.string (strL L)] w fun x w' => x = .returned (.tuple #[chV 3 0 z.toNat M, .int .i64 0]) ∧ Bl w w' := by
  have hL : 0 < L.length := (List.getElem?_eq_some_iff.1 hy).1
  have hnil := strL_ne (L := L) (by rintro rfl; simp at hL)
  have hsz := strL_size L
  have hget : ∀ h, (strL L)[0]'h = y := fun h => strL_get L 0 y hy h
  have hky : (y.toNat : Int) = 3 := by omega
  have b1 : decide ((L.length : Int) < 10) = false := decide_eq_false (by omega)
  have b2 : decide ((10 : Int) < (L.length : Int)) = false := decide_eq_false (by omega)
  have i1 : 1 < L.length := by omega
  have N1 : Hid (∀ w, Calls Try.prog 75 #[.string (strL L), .int .i64 2, .int .i64 10] w fun x w' => x = .returned (.int .u64 (M : Int)) ∧ w = w') := Lib.hid (fun w => by
    have := rnum_any L _ 2 10 w rfl (by omega) (by omega) (by omega) hl
    rw [show beN ((L.drop 2).take (10 - 2)) = M from hM] at this; exact this)
  have hget1 : ∀ h, (strL L)[1]'h = z := fun h => strL_get L 1 z hz h
  have CH : Hid (∀ w, Calls Try.prog 72 #[.agg #[.int .u8 3, .int .u64 0, .int .u8 z.toNat, .int .u64 M]] w fun x w' => x = .returned (.bool true) ∧ Bl w w') := Lib.hid (fun w => by
    have := rmayc_any 3 0 z.toNat M w
    unfold MayP at this
    rw [hm] at this
    exact this)
  clear hy hk h hm
  go_enter Try.func44, Try.ntmps44
  go_wp2_with (first
    | (go_at_call 72; refine (CH.out _).mono ?_; rintro e w7 ⟨rfl, h7⟩; have T7 := Lib.hid (rc_blocks (k := 3) (n := 0) (op := z.toNat) (y := M) h7); have B7 := Lib.hid h7; clear h7; obtain ⟨z0, z1, z2, z3, zf0, zf1, zf2, zf3⟩ := four_cells T7.out.1; obtain ⟨y0, y1, y2, y3, _, _, _, _⟩ := four_cells T7.out.2)
    | (go_at_call 75; refine (N1.out _).mono ?_; rintro e w' ⟨rfl, rfl⟩))
  refine bodyPost_ret (v := .tuple #[.agg #[.int .u8 3, .int .u64 0, .int .u8 z.toNat, .int .u64 M], .int .i64 0]) (by simp [results, Try.results44, go_sem, *]) rfl ⟨rfl, ?_⟩
  exact rc_set (rc_set (rc_set (rc_set (((((Bl.refl w).alloc _).alloc _).alloc _).trans B7.out) _ _) _ _) _ _) _ _

set_option maxRecDepth 100000 in
set_option maxHeartbeats 1600000 in
theorem rctake_less4 (L : List UInt8) (y : UInt8) (w : World) (hy : L[0]? = some y) (hl : L.length ≤ 10000) (hk : y.toNat = 4) (h : L.length < 9) :
    Calls Try.prog 44 #[.string (strL L)] w fun x w' => x = .returned (.tuple #[chV 0 0 0 0, .int .i64 10]) ∧ Bl w w' := by
  have hL : 0 < L.length := (List.getElem?_eq_some_iff.1 hy).1
  have hnil := strL_ne (L := L) (by rintro rfl; simp at hL)
  have hsz := strL_size L
  have hget : ∀ h, (strL L)[0]'h = y := fun h => strL_get L 0 y hy h
  have hky : (y.toNat : Int) = 4 := by omega
  have b1 : decide ((L.length : Int) < 9) = true := decide_eq_true (by omega)
  clear hy hk h
  go_enter Try.func44, Try.ntmps44
  go_wp2_with fail
  refine bodyPost_ret (v := .tuple #[.agg #[.int .u8 0, .int .u64 0, .int .u8 0, .int .u64 0], .int .i64 10]) (by simp [results, Try.results44, go_sem, *]) rfl ⟨rfl, ?_⟩
  exact ((Bl.refl w).alloc _).alloc _

set_option maxRecDepth 100000 in
set_option maxHeartbeats 1600000 in
theorem rctake_more4 (L : List UInt8) (y : UInt8) (w : World) (hy : L[0]? = some y) (hl : L.length ≤ 10000) (hk : y.toNat = 4) (h : 9 < L.length) :
    Calls Try.prog 44 #[.string (strL L)] w fun x w' => x = .returned (.tuple #[chV 0 0 0 0, .int .i64 4]) ∧ Bl w w' := by
  have hL : 0 < L.length := (List.getElem?_eq_some_iff.1 hy).1
  have hnil := strL_ne (L := L) (by rintro rfl; simp at hL)
  have hsz := strL_size L
  have hget : ∀ h, (strL L)[0]'h = y := fun h => strL_get L 0 y hy h
  have hky : (y.toNat : Int) = 4 := by omega
  have b1 : decide ((L.length : Int) < 9) = false := decide_eq_false (by omega)
  have b2 : decide ((9 : Int) < (L.length : Int)) = true := decide_eq_true (by omega)
  clear hy hk h
  go_enter Try.func44, Try.ntmps44
  go_wp2_with fail
  refine bodyPost_ret (v := .tuple #[.agg #[.int .u8 0, .int .u64 0, .int .u8 0, .int .u64 0], .int .i64 4]) (by simp [results, Try.results44, go_sem, *]) rfl ⟨rfl, ?_⟩
  exact ((Bl.refl w).alloc _).alloc _

set_option maxRecDepth 100000 in
set_option maxHeartbeats 1600000 in
theorem rctake_bad4 (L : List UInt8) (y : UInt8) (w : World) (hy : L[0]? = some y) (hl : L.length ≤ 10000) (hk : y.toNat = 4) (h : L.length = 9) (N : Nat) (hN : beN ((L.drop 1).take 8) = N) (hm : mayC 4 N 0 0 = false) :
    Calls Try.prog 44 #[.string (strL L)] w fun x w' => x = .returned (.tuple #[chV 0 0 0 0, .int .i64 4]) ∧ Bl w w' := by
  have hL : 0 < L.length := (List.getElem?_eq_some_iff.1 hy).1
  have hnil := strL_ne (L := L) (by rintro rfl; simp at hL)
  have hsz := strL_size L
  have hget : ∀ h, (strL L)[0]'h = y := fun h => strL_get L 0 y hy h
  have hky : (y.toNat : Int) = 4 := by omega
  have b1 : decide ((L.length : Int) < 9) = false := decide_eq_false (by omega)
  have b2 : decide ((9 : Int) < (L.length : Int)) = false := decide_eq_false (by omega)
  have i1 : 1 < L.length := by omega
  have N1 : Hid (∀ w, Calls Try.prog 75 #[.string (strL L), .int .i64 1, .int .i64 9] w fun x w' => x = .returned (.int .u64 (N : Int)) ∧ w = w') := Lib.hid (fun w => by
    have := rnum_any L _ 1 9 w rfl (by omega) (by omega) (by omega) hl
    rw [show beN ((L.drop 1).take (9 - 1)) = N from hN] at this; exact this)
  have CH : Hid (∀ w, Calls Try.prog 72 #[.agg #[.int .u8 4, .int .u64 N, .int .u8 0, .int .u64 0]] w fun x w' => x = .returned (.bool false) ∧ Bl w w') := Lib.hid (fun w => by
    have := rmayc_any 4 N 0 0 w
    unfold MayP at this
    rw [hm] at this
    exact this)
  clear hy hk h hm
  go_enter Try.func44, Try.ntmps44
  go_wp2_with (first
    | (go_at_call 72; refine (CH.out _).mono ?_; rintro e w7 ⟨rfl, h7⟩; have T7 := Lib.hid (rc_blocks (k := 4) (n := N) (op := 0) (y := 0) h7); have B7 := Lib.hid h7; clear h7; obtain ⟨z0, z1, z2, z3, zf0, zf1, zf2, zf3⟩ := four_cells T7.out.1; obtain ⟨y0, y1, y2, y3, _, _, _, _⟩ := four_cells T7.out.2)
    | (go_at_call 75; refine (N1.out _).mono ?_; rintro e w' ⟨rfl, rfl⟩))
  refine bodyPost_ret (v := .tuple #[.agg #[.int .u8 0, .int .u64 0, .int .u8 0, .int .u64 0], .int .i64 4]) (by simp [results, Try.results44, go_sem, *]) rfl ⟨rfl, ?_⟩
  exact rc_set (rc_set (rc_set (rc_set (((((Bl.refl w).alloc _).alloc _).alloc _).trans B7.out) _ _) _ _) _ _) _ _

set_option maxRecDepth 100000 in
set_option maxHeartbeats 1600000 in
theorem rctake_good4 (L : List UInt8) (y : UInt8) (w : World) (hy : L[0]? = some y) (hl : L.length ≤ 10000) (hk : y.toNat = 4) (h : L.length = 9) (N : Nat) (hN : beN ((L.drop 1).take 8) = N) (hm : mayC 4 N 0 0 = true) :
    Calls Try.prog 44 #[.string (strL L)] w fun x w' => x = .returned (.tuple #[chV 4 N 0 0, .int .i64 0]) ∧ Bl w w' := by
  have hL : 0 < L.length := (List.getElem?_eq_some_iff.1 hy).1
  have hnil := strL_ne (L := L) (by rintro rfl; simp at hL)
  have hsz := strL_size L
  have hget : ∀ h, (strL L)[0]'h = y := fun h => strL_get L 0 y hy h
  have hky : (y.toNat : Int) = 4 := by omega
  have b1 : decide ((L.length : Int) < 9) = false := decide_eq_false (by omega)
  have b2 : decide ((9 : Int) < (L.length : Int)) = false := decide_eq_false (by omega)
  have i1 : 1 < L.length := by omega
  have N1 : Hid (∀ w, Calls Try.prog 75 #[.string (strL L), .int .i64 1, .int .i64 9] w fun x w' => x = .returned (.int .u64 (N : Int)) ∧ w = w') := Lib.hid (fun w => by
    have := rnum_any L _ 1 9 w rfl (by omega) (by omega) (by omega) hl
    rw [show beN ((L.drop 1).take (9 - 1)) = N from hN] at this; exact this)
  have CH : Hid (∀ w, Calls Try.prog 72 #[.agg #[.int .u8 4, .int .u64 N, .int .u8 0, .int .u64 0]] w fun x w' => x = .returned (.bool true) ∧ Bl w w') := Lib.hid (fun w => by
    have := rmayc_any 4 N 0 0 w
    unfold MayP at this
    rw [hm] at this
    exact this)
  clear hy hk h hm
  go_enter Try.func44, Try.ntmps44
  go_wp2_with (first
    | (go_at_call 72; refine (CH.out _).mono ?_; rintro e w7 ⟨rfl, h7⟩; have T7 := Lib.hid (rc_blocks (k := 4) (n := N) (op := 0) (y := 0) h7); have B7 := Lib.hid h7; clear h7; obtain ⟨z0, z1, z2, z3, zf0, zf1, zf2, zf3⟩ := four_cells T7.out.1; obtain ⟨y0, y1, y2, y3, _, _, _, _⟩ := four_cells T7.out.2)
    | (go_at_call 75; refine (N1.out _).mono ?_; rintro e w' ⟨rfl, rfl⟩))
  refine bodyPost_ret (v := .tuple #[.agg #[.int .u8 4, .int .u64 N, .int .u8 0, .int .u64 0], .int .i64 0]) (by simp [results, Try.results44, go_sem, *]) rfl ⟨rfl, ?_⟩
  exact rc_set (rc_set (rc_set (rc_set (((((Bl.refl w).alloc _).alloc _).alloc _).trans B7.out) _ _) _ _) _ _) _ _

end Go.Proofs.Ytniblmpihnhglaa
