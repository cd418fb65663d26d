/- Walks of layer 7: Take. -/
import Derived.Test.YtniblmpihnhglaaE4
namespace Go.Proofs.Ytniblmpihnhglaa
open Go.RowKit
set_option linter.unusedVariables false

def tK (L : List UInt8) : Nat := beN (L.take 1)
def tS (L : List UInt8) : Nat := beN ((L.drop 1).take 4)
def tM (L : List UInt8) : Nat := beN ((L.drop 5).take 8)
def tT (L : List UInt8) : Nat := beN ((L.drop 13).take 8)
def tOK (L : List UInt8) : Bool := decide (L.length = 21) && mayM (tK L) (tS L) (tM L)
def tE (L : List UInt8) : Int := if L.length < 21 then 10 else if tOK L then 0 else 4
def tV (L : List UInt8) : Value := if tOK L then metaV (tK L) (tS L) (tM L) (tT L) else metaV 0 0 0 0
def TakeP (L : List UInt8) (w : World) (x : Ending) (w' : World) : Prop := x = .returned (.tuple #[tV L, .int .i64 (tE L)]) ∧ Bl w w'

theorem fix_go (L : List UInt8) (n : Nat) (h0 : 0 < n) (h : n ≤ L.length) : fixO L 0 n = L.take n ∧ fixL L 0 n = L.drop n ∧ fixE L 0 n = 0 := by
  unfold fixO fixL fixE
  rw [if_pos ⟨rfl, by omega, by omega⟩, if_pos ⟨rfl, by omega⟩, if_pos (by omega), if_neg (by omega)]
  exact ⟨rfl, rfl, rfl⟩
theorem fix_torn (L : List UInt8) (n : Nat) : fixE L 10 n = 10 := by
  unfold fixE
  rw [if_neg (by omega)]
theorem fix_less (L : List UInt8) (n : Nat) (h0 : 0 < n) (h : L.length < n) : fixE L 0 n = 10 := by
  unfold fixE
  rw [if_pos ⟨rfl, by omega, by omega⟩]
/-- How a reader stands behind U8, U32, U64, U64. -/
structure Four (L : List UInt8) (K S M T : Nat) (L1 : List UInt8) (e1 : Int) (L2 : List UInt8) (e2 : Int) (L3 : List UInt8) (e3 : Int) (L4 : List UInt8) (e4 : Int) : Prop where
  k : beN (fixO L 0 (1 : Nat)) = K
  l1 : fixL L 0 (1 : Nat) = L1
  f1 : fixE L 0 (1 : Nat) = e1
  s : beN (fixO L1 e1 (4 : Nat)) = S
  l2 : fixL L1 e1 (4 : Nat) = L2
  f2 : fixE L1 e1 (4 : Nat) = e2
  m : beN (fixO L2 e2 (8 : Nat)) = M
  l3 : fixL L2 e2 (8 : Nat) = L3
  f3 : fixE L2 e2 (8 : Nat) = e3
  t : beN (fixO L3 e3 (8 : Nat)) = T
  l4 : fixL L3 e3 (8 : Nat) = L4
  f4 : fixE L3 e3 (8 : Nat) = e4
theorem four_any (L : List UInt8) : ∃ K S M T L1 e1 L2 e2 L3 e3 L4 e4, Four L K S M T L1 e1 L2 e2 L3 e3 L4 e4 := ⟨_, _, _, _, _, _, _, _, _, _, _, _, rfl, rfl, rfl, rfl, rfl, rfl, rfl, rfl, rfl, rfl, rfl, rfl⟩
theorem four_long (L : List UInt8) (h : 21 ≤ L.length) : ∃ L1 e1 L2 e2 L3 e3, Four L (tK L) (tS L) (tM L) (tT L) L1 e1 L2 e2 L3 e3 (L.drop 21) 0 := by
  obtain ⟨a1, a2, a3⟩ := fix_go L 1 (by omega) (by omega)
  obtain ⟨b1, b2, b3⟩ := fix_go (L.drop 1) 4 (by omega) (by rw [List.length_drop]; omega)
  obtain ⟨c1, c2, c3⟩ := fix_go (L.drop 5) 8 (by omega) (by rw [List.length_drop]; omega)
  obtain ⟨d1, d2, d3⟩ := fix_go (L.drop 13) 8 (by omega) (by rw [List.length_drop]; omega)
  rw [List.drop_drop] at b2 c2 d2
  exact ⟨_, _, _, _, _, _, by rw [a1]; rfl, a2, a3, by rw [b1]; rfl, b2, b3, by rw [c1]; rfl, c2, c3, by rw [d1]; rfl, d2, d3⟩
theorem four_short (L : List UInt8) (h : L.length < 21) {K S M T : Nat} {L1 L2 L3 L4 : List UInt8} {e1 e2 e3 e4 : Int} (f : Four L K S M T L1 e1 L2 e2 L3 e3 L4 e4) : e4 = 10 := by
  obtain ⟨_, f1, f2, _, f3, f4, _, f5, f6, _, f7, f8⟩ := f
  by_cases h1 : 1 ≤ L.length
  · obtain ⟨_, a2, a3⟩ := fix_go L 1 (by omega) h1
    rw [a2] at f1; rw [a3] at f2; subst f1 f2
    by_cases h2 : 5 ≤ L.length
    · obtain ⟨_, b2, b3⟩ := fix_go (L.drop 1) 4 (by omega) (by rw [List.length_drop]; omega)
      rw [b2, List.drop_drop] at f3; rw [b3] at f4; subst f3 f4
      by_cases h3 : 13 ≤ L.length
      · obtain ⟨_, c2, c3⟩ := fix_go (L.drop (1 + 4)) 8 (by omega) (by rw [List.length_drop]; omega)
        rw [c2, List.drop_drop] at f5; rw [c3] at f6; subst f5 f6
        rw [← f8]
        exact fix_less _ _ (by omega) (by rw [List.length_drop]; omega)
      · rw [fix_less _ 8 (by omega) (by rw [List.length_drop]; omega)] at f6; subst f6
        rw [← f8, fix_torn]
    · rw [fix_less _ 4 (by omega) (by rw [List.length_drop]; omega)] at f4; subst f4
      rw [fix_torn] at f6; subst f6
      rw [← f8, fix_torn]
  · rw [fix_less L 1 (by omega) (by omega)] at f2; subst f2
    rw [fix_torn] at f4; subst f4
    rw [fix_torn] at f6; subst f6
    rw [← f8, fix_torn]

theorem rd_alloc {p : Nat} {L : List UInt8} {e : Int} {w : World} (h : Rd p L e w) (o : Obj) : Rd p L e (w.alloc o) := (Below.heap_alloc w o p h.lt).trans h

abbrev takeW (L : List UInt8) (w : World) : World := (w.alloc (.cells #[.int .u8 0, .int .u32 0, .int .u64 0, .int .u64 0] 85)).alloc (.cells #[.string (strL L), .int .i64 0] 106)
theorem takeW_size (L : List UInt8) (w : World) : (takeW L w).heap.size = w.heap.size + 2 := by
  show ((w.heap.push _).push _).size = _
  rw [Array.size_push, Array.size_push]
theorem chain_only {L : List UInt8} {w w2 w3 w4 w5 : World} (h1 : Only (w.heap.size + 1) (takeW L w) w2) (h2 : Only (w.heap.size + 1) w2 w3) (h3 : Only (w.heap.size + 1) w3 w4) (h4 : Only (w.heap.size + 1) w4 w5) : Only (w.heap.size + 1) (takeW L w) w5 :=
  only_trans (only_trans h1 h2) (only_trans h3 h4)
theorem chain_below {L : List UInt8} {w w2 w3 w4 w5 : World} (h1 : Only (w.heap.size + 1) (takeW L w) w2) (h2 : Only (w.heap.size + 1) w2 w3) (h3 : Only (w.heap.size + 1) w3 w4) (h4 : Only (w.heap.size + 1) w4 w5) : Bl w w5 :=
  Below.trans (((Bl.refl w).alloc _).alloc _) (only_below (chain_only h1 h2 h3 h4) (by omega) (by rw [takeW_size]; omega))
theorem zero_block {L : List UInt8} {w w2 w3 w4 w5 : World} (h1 : Only (w.heap.size + 1) (takeW L w) w2) (h2 : Only (w.heap.size + 1) w2 w3) (h3 : Only (w.heap.size + 1) w3 w4) (h4 : Only (w.heap.size + 1) w4 w5) (o : Obj) :
    (w5.alloc o).heap[w.heap.size]? = some (.cells #[.int .u8 0, .int .u32 0, .int .u64 0, .int .u64 0] 85 (0, 0)) := by
  have h := chain_only h1 h2 h3 h4
  have hz := takeW_size L w
  rw [Below.heap_alloc w5 o _ (by have := h.size; omega), h.block _ (by omega) (by intro e; have := Option.some.inj e; omega)]
  rw [Below.heap_alloc _ _ _ (by show _ < (w.heap.push _).size; rw [Array.size_push]; omega)]
  exact heap_alloc_new _ _

theorem four_cells {W : World} {b : Nat} {t : TypeId} {v0 v1 v2 v3 : Value} (h : W.heap[b]? = some (.cells #[v0, v1, v2, v3] t (0, 0))) :
    W.cell? ⟨b, 0, none⟩ = some v0 ∧ W.cell? ⟨b, 1, none⟩ = some v1 ∧ W.cell? ⟨b, 2, none⟩ = some v2 ∧ W.cell? ⟨b, 3, none⟩ = some v3 ∧
    W.frozen? ⟨b, 0, none⟩ = false ∧ W.frozen? ⟨b, 1, none⟩ = false ∧ W.frozen? ⟨b, 2, none⟩ = false ∧ W.frozen? ⟨b, 3, none⟩ = false := by
  refine ⟨?_, ?_, ?_, ?_, frozen_of_row _ _ _ _ _ h, frozen_of_row _ _ _ _ _ h, frozen_of_row _ _ _ _ _ h, frozen_of_row _ _ _ _ _ h⟩ <;> (rw [cell_of_row _ _ _ _ _ _ h]; rfl)

set_option maxRecDepth 100000 in
set_option maxHeartbeats 1600000 in
theorem take_bad (L L1 L2 L3 L4 : List UInt8) (K S M T : Nat) (e1 e2 e3 e4 c : Int) (w : World) (hl : L.length ≤ 10000) (hF : Four L K S M T L1 e1 L2 e2 L3 e3 L4 e4) (hw : wholeE L4 e4 = c) (hc : c ≠ 0) :
    Calls Try.prog 51 #[.string (strL L)] w fun x w' => x = .returned (.tuple #[metaV 0 0 0 0, .int .i64 c]) ∧ Bl w w' := by
  have len1 : L1.length ≤ 10000 := by rw [← hF.l1]; have := fixL_length L 0 (1 : Nat); omega
  have len2 : L2.length ≤ 10000 := by rw [← hF.l2]; have := fixL_length L1 e1 (4 : Nat); omega
  have len3 : L3.length ≤ 10000 := by rw [← hF.l3]; have := fixL_length L2 e2 (8 : Nat); omega
  have R1 := Lib.hid (fun w' h => r_u8 (w.heap.size + 1) L 0 w' (by omega) h)
  have R2 := Lib.hid (fun w' h => r_u32 (w.heap.size + 1) L1 e1 w' (by omega) h)
  have R3 := Lib.hid (fun w' h => r_u64 (w.heap.size + 1) L2 e2 w' (by omega) h)
  have R4 := Lib.hid (fun w' h => r_u64 (w.heap.size + 1) L3 e3 w' (by omega) h)
  unfold GetP at R1 R2 R3 R4
  rw [hF.k, hF.l1, hF.f1] at R1
  rw [hF.s, hF.l2, hF.f2] at R2
  rw [hF.m, hF.l3, hF.f3] at R3
  rw [hF.t, hF.l4, hF.f4] at R4
  clear hF len1 len2 len3
  have WH := Lib.hid (fun w' h => whole_any (w.heap.size + 1) L4 e4 w' h)
  rw [hw] at WH
  have RD0 : Hid (Rd (w.heap.size + 1) L 0 ((w.alloc (.cells #[.int .u8 0, .int .u32 0, .int .u64 0, .int .u64 0] 85)).alloc (.cells #[.string (strL L), .int .i64 0] 106))) := Lib.hid (by
    have := rd_new L (w.alloc (.cells #[.int .u8 0, .int .u32 0, .int .u64 0, .int .u64 0] 85))
    rwa [show (w.alloc (.cells #[.int .u8 0, .int .u32 0, .int .u64 0, .int .u64 0] 85)).heap.size = w.heap.size + 1 from Array.size_push ..] at this)
  have hcb : (c != 0) = true := by simpa using hc
  have hcb' : (c == 0) = false := by simpa using hc
  clear hw hc hl
  go_enter Try.func51, Try.ntmps51
  go_wp2_with (first
    | (go_at_call 74; refine (WH.out _ (rd_alloc W4.out.1 _)).mono ?_; rintro e w6 ⟨rfl, rfl⟩; have X6 := Lib.hid (zero_block W1.out.2 W2.out.2 W3.out.2 W4.out.2 (.cells #[.int .u8 K, .int .u32 S, .int .u64 M, .int .u64 T] 85)); obtain ⟨c0, c1, c2, c3, f0, f1, f2, f3⟩ := four_cells X6.out)
    | (go_at_call 35; have := W3; refine (R4.out _ W3.out.1).mono ?_; rintro e w5 ⟨rfl, h⟩; have W4 := Lib.hid h; clear h)
    | (go_at_call 35; refine (R3.out _ W2.out.1).mono ?_; rintro e w4 ⟨rfl, h⟩; have W3 := Lib.hid h; clear h)
    | (go_at_call 38; refine (R2.out _ W1.out.1).mono ?_; rintro e w3 ⟨rfl, h⟩; have W2 := Lib.hid h; clear h)
    | (go_at_call 31; refine (R1.out _ RD0.out).mono ?_; rintro e w2 ⟨rfl, h⟩; have W1 := Lib.hid h; clear h)
    | (go_at_call 19; refine (r_new _ _).mono ?_; rintro e w1 ⟨rfl, rfl⟩))
  have B5 := chain_below W1.out.2 W2.out.2 W3.out.2 W4.out.2
  refine bodyPost_ret (v := .tuple #[.agg #[.int .u8 0, .int .u32 0, .int .u64 0, .int .u64 0], .int .i64 c]) (by simp [results, Try.results51, go_sem, *]) rfl ⟨rfl, ?_⟩
  exact ((((B5.alloc _).setCell (Nat.le_refl _) _).setCell (Nat.le_refl _) _).setCell (Nat.le_refl _) _).setCell (Nat.le_refl _) _
set_option maxRecDepth 100000 in
set_option maxHeartbeats 1600000 in
theorem take_form (L L1 L2 L3 L4 : List UInt8) (K S M T : Nat) (e1 e2 e3 e4 c : Int) (w : World) (hl : L.length ≤ 10000) (hF : Four L K S M T L1 e1 L2 e2 L3 e3 L4 e4) (hw : wholeE L4 e4 = 0) (hk : chk K S M = c) (hc : c ≠ 0) :
    Calls Try.prog 51 #[.string (strL L)] w fun x w' => x = .returned (.tuple #[metaV 0 0 0 0, .int .i64 c]) ∧ Bl w w' := by
  have len1 : L1.length ≤ 10000 := by rw [← hF.l1]; have := fixL_length L 0 (1 : Nat); omega
  have len2 : L2.length ≤ 10000 := by rw [← hF.l2]; have := fixL_length L1 e1 (4 : Nat); omega
  have len3 : L3.length ≤ 10000 := by rw [← hF.l3]; have := fixL_length L2 e2 (8 : Nat); omega
  have R1 := Lib.hid (fun w' h => r_u8 (w.heap.size + 1) L 0 w' (by omega) h)
  have R2 := Lib.hid (fun w' h => r_u32 (w.heap.size + 1) L1 e1 w' (by omega) h)
  have R3 := Lib.hid (fun w' h => r_u64 (w.heap.size + 1) L2 e2 w' (by omega) h)
  have R4 := Lib.hid (fun w' h => r_u64 (w.heap.size + 1) L3 e3 w' (by omega) h)
  unfold GetP at R1 R2 R3 R4
  rw [hF.k, hF.l1, hF.f1] at R1
  rw [hF.s, hF.l2, hF.f2] at R2
  rw [hF.m, hF.l3, hF.f3] at R3
  rw [hF.t, hF.l4, hF.f4] at R4
  clear hF len1 len2 len3
  have WH := Lib.hid (fun w' h => whole_any (w.heap.size + 1) L4 e4 w' h)
  rw [hw] at WH
  have CH := Lib.hid (fun w' => check_any K S M T w')
  unfold ChkP at CH
  rw [hk] at CH
  have RD0 : Hid (Rd (w.heap.size + 1) L 0 ((w.alloc (.cells #[.int .u8 0, .int .u32 0, .int .u64 0, .int .u64 0] 85)).alloc (.cells #[.string (strL L), .int .i64 0] 106))) := Lib.hid (by
    have := rd_new L (w.alloc (.cells #[.int .u8 0, .int .u32 0, .int .u64 0, .int .u64 0] 85))
    rwa [show (w.alloc (.cells #[.int .u8 0, .int .u32 0, .int .u64 0, .int .u64 0] 85)).heap.size = w.heap.size + 1 from Array.size_push ..] at this)
  have hcb : (c != 0) = true := by simpa using hc
  have hcb' : (c == 0) = false := by simpa using hc
  clear hw hc hl hk
  go_enter Try.func51, Try.ntmps51
  go_wp2_with (first
    | (go_at_call 47; refine (CH.out _).mono ?_; rintro e w7 ⟨rfl, h7⟩; have B7 := Lib.hid h7; clear h7 c0 c1 c2 c3 f0 f1 f2 f3; have X7 := Lib.hid (((B7.out.block w.heap.size (by have := (Array.getElem?_eq_some_iff.1 X6.out).1; exact this)).trans X6.out)); obtain ⟨c0, c1, c2, c3, f0, f1, f2, f3⟩ := four_cells X7.out)
    | (go_at_call 74; refine (WH.out _ (rd_alloc W4.out.1 _)).mono ?_; rintro e w6 ⟨rfl, rfl⟩; have X6 := Lib.hid (zero_block W1.out.2 W2.out.2 W3.out.2 W4.out.2 (.cells #[.int .u8 K, .int .u32 S, .int .u64 M, .int .u64 T] 85)); obtain ⟨c0, c1, c2, c3, f0, f1, f2, f3⟩ := four_cells X6.out)
    | (go_at_call 35; have := W3; refine (R4.out _ W3.out.1).mono ?_; rintro e w5 ⟨rfl, h⟩; have W4 := Lib.hid h; clear h)
    | (go_at_call 35; refine (R3.out _ W2.out.1).mono ?_; rintro e w4 ⟨rfl, h⟩; have W3 := Lib.hid h; clear h)
    | (go_at_call 38; refine (R2.out _ W1.out.1).mono ?_; rintro e w3 ⟨rfl, h⟩; have W2 := Lib.hid h; clear h)
    | (go_at_call 31; refine (R1.out _ RD0.out).mono ?_; rintro e w2 ⟨rfl, h⟩; have W1 := Lib.hid h; clear h)
    | (go_at_call 19; refine (r_new _ _).mono ?_; rintro e w1 ⟨rfl, rfl⟩))
  have B5 := chain_below W1.out.2 W2.out.2 W3.out.2 W4.out.2
  refine bodyPost_ret (v := .tuple #[.agg #[.int .u8 0, .int .u32 0, .int .u64 0, .int .u64 0], .int .i64 c]) (by simp [results, Try.results51, go_sem, *]) rfl ⟨rfl, ?_⟩
  exact (((((B5.alloc _).trans B7.out).setCell (Nat.le_refl _) _).setCell (Nat.le_refl _) _).setCell (Nat.le_refl _) _).setCell (Nat.le_refl _) _
set_option maxRecDepth 100000 in
set_option maxHeartbeats 1600000 in
theorem take_good (L L1 L2 L3 L4 : List UInt8) (K S M T : Nat) (e1 e2 e3 e4 : Int) (w : World) (hl : L.length ≤ 10000) (hF : Four L K S M T L1 e1 L2 e2 L3 e3 L4 e4) (hw : wholeE L4 e4 = 0) (hk : chk K S M = 0) :
    Calls Try.prog 51 #[.string (strL L)] w fun x w' => x = .returned (.tuple #[metaV K S M T, .int .i64 0]) ∧ Bl w w' := by
  have len1 : L1.length ≤ 10000 := by rw [← hF.l1]; have := fixL_length L 0 (1 : Nat); omega
  have len2 : L2.length ≤ 10000 := by rw [← hF.l2]; have := fixL_length L1 e1 (4 : Nat); omega
  have len3 : L3.length ≤ 10000 := by rw [← hF.l3]; have := fixL_length L2 e2 (8 : Nat); omega
  have R1 := Lib.hid (fun w' h => r_u8 (w.heap.size + 1) L 0 w' (by omega) h)
  have R2 := Lib.hid (fun w' h => r_u32 (w.heap.size + 1) L1 e1 w' (by omega) h)
  have R3 := Lib.hid (fun w' h => r_u64 (w.heap.size + 1) L2 e2 w' (by omega) h)
  have R4 := Lib.hid (fun w' h => r_u64 (w.heap.size + 1) L3 e3 w' (by omega) h)
  unfold GetP at R1 R2 R3 R4
  rw [hF.k, hF.l1, hF.f1] at R1
  rw [hF.s, hF.l2, hF.f2] at R2
  rw [hF.m, hF.l3, hF.f3] at R3
  rw [hF.t, hF.l4, hF.f4] at R4
  clear hF len1 len2 len3
  have WH := Lib.hid (fun w' h => whole_any (w.heap.size + 1) L4 e4 w' h)
  rw [hw] at WH
  have CH := Lib.hid (fun w' => check_any K S M T w')
  unfold ChkP at CH
  rw [hk] at CH
  have RD0 : Hid (Rd (w.heap.size + 1) L 0 ((w.alloc (.cells #[.int .u8 0, .int .u32 0, .int .u64 0, .int .u64 0] 85)).alloc (.cells #[.string (strL L), .int .i64 0] 106))) := Lib.hid (by
    have := rd_new L (w.alloc (.cells #[.int .u8 0, .int .u32 0, .int .u64 0, .int .u64 0] 85))
    rwa [show (w.alloc (.cells #[.int .u8 0, .int .u32 0, .int .u64 0, .int .u64 0] 85)).heap.size = w.heap.size + 1 from Array.size_push ..] at this)
  clear hw hl hk
  go_enter Try.func51, Try.ntmps51
  go_wp2_with (first
    | (go_at_call 47; refine (CH.out _).mono ?_; rintro e w7 ⟨rfl, h7⟩; have B7 := Lib.hid h7; clear h7 c0 c1 c2 c3 f0 f1 f2 f3; have X7 := Lib.hid (((B7.out.block w.heap.size (by have := (Array.getElem?_eq_some_iff.1 X6.out).1; exact this)).trans X6.out)); obtain ⟨c0, c1, c2, c3, f0, f1, f2, f3⟩ := four_cells X7.out; have Y7 := Lib.hid ((B7.out.block w5.heap.size (by show _ < (w5.heap.push _).size; rw [Array.size_push]; omega)).trans (heap_alloc_new w5 (.cells #[.int .u8 K, .int .u32 S, .int .u64 M, .int .u64 T] 85))); obtain ⟨y0, y1, y2, y3, g0, g1, g2, g3⟩ := four_cells Y7.out; clear g0 g1 g2 g3)
    | (go_at_call 74; refine (WH.out _ (rd_alloc W4.out.1 _)).mono ?_; rintro e w6 ⟨rfl, rfl⟩; have X6 := Lib.hid (zero_block W1.out.2 W2.out.2 W3.out.2 W4.out.2 (.cells #[.int .u8 K, .int .u32 S, .int .u64 M, .int .u64 T] 85)); obtain ⟨c0, c1, c2, c3, f0, f1, f2, f3⟩ := four_cells X6.out)
    | (go_at_call 35; have := W3; refine (R4.out _ W3.out.1).mono ?_; rintro e w5 ⟨rfl, h⟩; have W4 := Lib.hid h; clear h)
    | (go_at_call 35; refine (R3.out _ W2.out.1).mono ?_; rintro e w4 ⟨rfl, h⟩; have W3 := Lib.hid h; clear h)
    | (go_at_call 38; refine (R2.out _ W1.out.1).mono ?_; rintro e w3 ⟨rfl, h⟩; have W2 := Lib.hid h; clear h)
    | (go_at_call 31; refine (R1.out _ RD0.out).mono ?_; rintro e w2 ⟨rfl, h⟩; have W1 := Lib.hid h; clear h)
    | (go_at_call 19; refine (r_new _ _).mono ?_; rintro e w1 ⟨rfl, rfl⟩))
  have B5 := chain_below W1.out.2 W2.out.2 W3.out.2 W4.out.2
  refine bodyPost_ret (v := .tuple #[.agg #[.int .u8 K, .int .u32 S, .int .u64 M, .int .u64 T], .int .i64 0]) (by simp [results, Try.results51, go_sem, *]) rfl ⟨rfl, ?_⟩
  exact (((((B5.alloc _).trans B7.out).setCell (Nat.le_refl _) _).setCell (Nat.le_refl _) _).setCell (Nat.le_refl _) _).setCell (Nat.le_refl _) _

theorem take_any (L : List UInt8) (w : World) (hl : L.length ≤ 10000) : Calls Try.prog 51 #[.string (strL L)] w fun x w' => TakeP L w x w' := by
  unfold TakeP
  by_cases h1 : L.length < 21
  · obtain ⟨K, S, M, T, L1, e1, L2, e2, L3, e3, L4, e4, hF⟩ := four_any L
    have he := four_short L h1 hF
    have h := take_bad L L1 L2 L3 L4 K S M T e1 e2 e3 e4 10 w hl hF (by rw [he]; rfl) (by decide)
    have ho : tOK L = false := by unfold tOK; rw [decide_eq_false (by omega)]; rfl
    unfold tV tE
    rw [ho, if_pos h1]
    exact h
  · obtain ⟨L1, e1, L2, e2, L3, e3, hF⟩ := four_long L (by omega)
    by_cases h2 : L.length = 21
    · have hw : wholeE (L.drop 21) 0 = 0 := by
        unfold wholeE
        rw [if_pos rfl, if_pos (List.drop_of_length_le (by omega))]
      unfold tV tE
      rw [if_neg h1]
      by_cases hM : mayM (tK L) (tS L) (tM L) = true
      · have ho : tOK L = true := by unfold tOK; rw [decide_eq_true h2, hM]; rfl
        rw [if_pos ho, if_pos ho]
        exact take_good L L1 L2 L3 _ _ _ _ _ e1 e2 e3 0 w hl hF hw (by unfold chk; rw [if_pos hM])
      · have ho : ¬ tOK L = true := by unfold tOK; rw [decide_eq_true h2, Bool.true_and]; exact hM
        rw [if_neg ho, if_neg ho]
        exact take_form L L1 L2 L3 _ _ _ _ _ e1 e2 e3 0 4 w hl hF hw (by unfold chk; rw [if_neg hM]) (by decide)
    · have hw : wholeE (L.drop 21) 0 = 4 := by
        unfold wholeE
        rw [if_pos rfl, if_neg (fun h => by have := congrArg List.length h; rw [List.length_drop] at this; simp at this; omega)]
      have h := take_bad L L1 L2 L3 _ _ _ _ _ e1 e2 e3 0 4 w hl hF hw (by decide)
      have ho : tOK L = false := by unfold tOK; rw [decide_eq_false h2]; rfl
      unfold tV tE
      rw [ho, if_neg h1]
      exact h
end Go.Proofs.Ytniblmpihnhglaa
