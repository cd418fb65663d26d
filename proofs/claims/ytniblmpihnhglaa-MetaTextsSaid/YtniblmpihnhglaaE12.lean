/- Walks of layer 7: TakeChange, kind by kind. Printed by gen_e12.py. -/
import Derived.Test.YtniblmpihnhglaaE11
namespace Go.Proofs.Ytniblmpihnhglaa
open Go.RowKit
set_option linter.unusedVariables false

theorem rd_set {p : Nat} {L : List UInt8} {e : Int} {w : World} (h : Rd p L e w) {q : Nat} (hq : p ≠ q) (j : Nat) (u : Value) : Rd p L e (w.setCell ⟨q, j, none⟩ u) := (Below.heap_setCell w ⟨q, j, none⟩ u p hq).trans h
/-- The result's block and the change's, and what was there before. -/
structure TC (w S : World) (q k n op y : Nat) : Prop where
  z : S.heap[w.heap.size]? = some (.cells #[.int .u8 0, .int .u64 0, .int .u8 0, .int .u64 0] 73 (0, 0))
  c : S.heap[q]? = some (.cells #[.int .u8 k, .int .u64 n, .int .u8 op, .int .u64 y] 73 (0, 0))
  b : Bl w S
  ne : w.heap.size + 1 < q
theorem TC.bl {w S S' : World} {q k n op y : Nat} (h : TC w S q k n op y) (hb : Bl S S') : TC w S' q k n op y :=
  ⟨(hb.block _ (Array.getElem?_eq_some_iff.1 h.z).1).trans h.z, (hb.block _ (Array.getElem?_eq_some_iff.1 h.c).1).trans h.c, h.b.trans hb, h.ne⟩
theorem TC.only {w S S' : World} {q k n op y : Nat} (h : TC w S q k n op y) (hb : Only (w.heap.size + 1) S S') : TC w S' q k n op y := by
  have h1 := (Array.getElem?_eq_some_iff.1 h.z).1
  have h2 := (Array.getElem?_eq_some_iff.1 h.c).1
  have h3 := h.ne
  exact ⟨(hb.block _ h1 (by intro e; have := Option.some.inj e; omega)).trans h.z, (hb.block _ h2 (by intro e; have := Option.some.inj e; omega)).trans h.c, Below.trans h.b (only_below hb (by omega) (by omega)), h3⟩
theorem TC.new {L : List UInt8} {w w2 : World} {k : Nat} (h : Only (w.heap.size + 1) (tcW L w) w2) : TC w (w2.alloc (K73 k)) w2.heap.size k 0 0 0 := by
  have hz := tc_zero h
  have hs := h.size
  rw [tcW_size] at hs
  exact ⟨(Below.heap_alloc w2 _ _ (by omega)).trans hz, heap_alloc_new _ _, (tc_below h).alloc _, by omega⟩
theorem TC.setN {w S : World} {q k n op y m : Nat} (h : TC w S q k n op y) : TC w (S.setCell ⟨q, 1, none⟩ (.int .u64 m)) q k m op y := by
  have h3 := h.ne
  refine ⟨(Below.heap_setCell _ _ _ _ (by show w.heap.size ≠ q; omega)).trans h.z, ?_, h.b.setCell (by show w.heap.size ≤ q; omega) _, h3⟩
  rw [heap_setCell_same _ _ _ _ _ _ h.c]; rfl
theorem TC.setO {w S : World} {q k n op y m : Nat} (h : TC w S q k n op y) : TC w (S.setCell ⟨q, 2, none⟩ (.int .u8 m)) q k n m y := by
  have h3 := h.ne
  refine ⟨(Below.heap_setCell _ _ _ _ (by show w.heap.size ≠ q; omega)).trans h.z, ?_, h.b.setCell (by show w.heap.size ≤ q; omega) _, h3⟩
  rw [heap_setCell_same _ _ _ _ _ _ h.c]; rfl
theorem TC.setY {w S : World} {q k n op y m : Nat} (h : TC w S q k n op y) : TC w (S.setCell ⟨q, 3, none⟩ (.int .u64 m)) q k n op m := by
  have h3 := h.ne
  refine ⟨(Below.heap_setCell _ _ _ _ (by show w.heap.size ≠ q; omega)).trans h.z, ?_, h.b.setCell (by show w.heap.size ≤ q; omega) _, h3⟩
  rw [heap_setCell_same _ _ _ _ _ _ h.c]; rfl

set_option maxRecDepth 100000 in
set_option maxHeartbeats 1600000 in
theorem ctake_size_torn (L L1 L2 : List UInt8) (k N : Nat) (e1 e2 c : Int) (w : World) (hL : L ≠ []) (hl : L.length ≤ 10000) (hk : beN (fixO L 0 (1 : Nat)) = k) (h1 : fixL L 0 (1 : Nat) = L1) (f1 : fixE L 0 (1 : Nat) = e1) (hkk : k = 1 ∨ k = 2) (h2 : fixL L1 e1 (4 : Nat) = L2) (f2 : fixE L1 e1 (4 : Nat) = e2) (hN : beN (fixO L1 e1 (4 : Nat)) = N) (hw : wholeE L2 e2 = c) (hc : c ≠ 0) :
    Calls Try.prog 43 #[.string (strL L)] w fun x w' => x = .returned (.tuple #[chV 0 0 0 0, .int .i64 c]) ∧ Bl w w' := by
  have hnil := strL_ne hL
  have len1 : L1.length ≤ 10000 := by rw [← h1]; have := fixL_length L 0 (1 : Nat); omega
  have R1 := Lib.hid (fun w' h => r_u8 (w.heap.size + 1) L 0 w' (by omega) h)
  have R2 := Lib.hid (fun w' h => r_u32 (w.heap.size + 1) L1 e1 w' (by omega) h)
  unfold GetP at R1 R2
  rw [hk, h1, f1] at R1
  rw [hN, h2, f2] at R2
  have hNlt : N < 4294967296 := by rw [← hN]; exact Nat.lt_of_lt_of_le (beN_lt _) (by have := fixO_length L1 e1 (4 : Nat) 4 (by omega); exact Nat.pow_le_pow_right (by omega) this (n := 256))
  have hu : IntKind.u64.wrap (N : Int) = N := IntWalk.u64_in _ (by omega)
  have WH := Lib.hid (fun w' h => whole_any (w.heap.size + 1) L2 e2 w' h)
  rw [hw] at WH
  have RD0 := Lib.hid (tc_rd L w)
  have hne : w.heap.size + 1 ≠ w.heap.size := by omega
  have hcb : (c != 0) = true := by simpa using hc
  have hcb' : (c == 0) = false := by simpa using hc
  clear hc
  have g3 : ((k : Int) == 3) = false := by rw [beq_eq_false_iff_ne]; omega
  have g4 : ((k : Int) == 4) = false := by rw [beq_eq_false_iff_ne]; omega
  clear hL hl hk h1 f1 h2 f2 hN hw len1 hNlt
  rcases hkk with hkk | hkk
  · have g1 : ((k : Int) == 1) = true := by rw [beq_iff_eq]; omega
    clear hkk
    go_enter Try.func43, Try.ntmps43
    go_wp2_with (first
      | (go_at_call 74; refine (WH.out _ (rd_set W2.out.1 (by have := T3.out.ne; omega) _ _)).mono ?_; rintro e w6 ⟨rfl, rfl⟩; have T5 := Lib.hid (T3.out.setN (m := N)); clear x0 x1 x2 x3 g0 g1 g2 g3; obtain ⟨z0, z1, z2, z3, zf0, zf1, zf2, zf3⟩ := four_cells T5.out.z; obtain ⟨y0, y1, y2, y3, _, _, _, _⟩ := four_cells T5.out.c)
      | (go_at_call 38; have := W1; refine (R2.out _ (rd_alloc W1.out.1 _)).mono ?_; rintro e w3 ⟨rfl, h⟩; have W2 := Lib.hid h; have T3 := Lib.hid (TC.only (TC.new (k := k) W1.out.2) h.2); obtain ⟨x0, x1, x2, x3, g0, g1, g2, g3⟩ := four_cells T3.out.c; clear h)
      | (go_at_call 31; refine (R1.out _ RD0.out).mono ?_; rintro e w2 ⟨rfl, h⟩; have W1 := Lib.hid h; clear h)
      | (go_at_call 19; refine (r_new _ _).mono ?_; rintro e w1 ⟨rfl, rfl⟩))
    refine bodyPost_ret (v := .tuple #[.agg #[.int .u8 0, .int .u64 0, .int .u8 0, .int .u64 0], .int .i64 c]) (by simp [results, Try.results43, go_sem, *]) rfl ⟨rfl, ?_⟩
    have B1 := T5.out.b
    exact (((B1.setCell (Nat.le_refl _) _).setCell (Nat.le_refl _) _).setCell (Nat.le_refl _) _).setCell (Nat.le_refl _) _
  · have g1 : ((k : Int) == 1) = false := by rw [beq_eq_false_iff_ne]; omega
    have g2 : ((k : Int) == 2) = true := by rw [beq_iff_eq]; omega
    clear hkk
    go_enter Try.func43, Try.ntmps43
    go_wp2_with (first
      | (go_at_call 74; refine (WH.out _ (rd_set W2.out.1 (by have := T3.out.ne; omega) _ _)).mono ?_; rintro e w6 ⟨rfl, rfl⟩; have T5 := Lib.hid (T3.out.setN (m := N)); clear x0 x1 x2 x3 g0 g1 g2 g3; obtain ⟨z0, z1, z2, z3, zf0, zf1, zf2, zf3⟩ := four_cells T5.out.z; obtain ⟨y0, y1, y2, y3, _, _, _, _⟩ := four_cells T5.out.c)
      | (go_at_call 38; have := W1; refine (R2.out _ (rd_alloc W1.out.1 _)).mono ?_; rintro e w3 ⟨rfl, h⟩; have W2 := Lib.hid h; have T3 := Lib.hid (TC.only (TC.new (k := k) W1.out.2) h.2); obtain ⟨x0, x1, x2, x3, g0, g1, g2, g3⟩ := four_cells T3.out.c; clear h)
      | (go_at_call 31; refine (R1.out _ RD0.out).mono ?_; rintro e w2 ⟨rfl, h⟩; have W1 := Lib.hid h; clear h)
      | (go_at_call 19; refine (r_new _ _).mono ?_; rintro e w1 ⟨rfl, rfl⟩))
    refine bodyPost_ret (v := .tuple #[.agg #[.int .u8 0, .int .u64 0, .int .u8 0, .int .u64 0], .int .i64 c]) (by simp [results, Try.results43, go_sem, *]) rfl ⟨rfl, ?_⟩
    have B1 := T5.out.b
    exact (((B1.setCell (Nat.le_refl _) _).setCell (Nat.le_refl _) _).setCell (Nat.le_refl _) _).setCell (Nat.le_refl _) _

set_option maxRecDepth 100000 in
set_option maxHeartbeats 1600000 in
theorem ctake_size_bad (L L1 L2 : List UInt8) (k N : Nat) (e1 e2 c : Int) (w : World) (hL : L ≠ []) (hl : L.length ≤ 10000) (hk : beN (fixO L 0 (1 : Nat)) = k) (h1 : fixL L 0 (1 : Nat) = L1) (f1 : fixE L 0 (1 : Nat) = e1) (hkk : k = 1 ∨ k = 2) (h2 : fixL L1 e1 (4 : Nat) = L2) (f2 : fixE L1 e1 (4 : Nat) = e2) (hN : beN (fixO L1 e1 (4 : Nat)) = N) (hw : wholeE L2 e2 = 0) (hm : mayC k N 0 0 = false) (hc : c = 4) :
    Calls Try.prog 43 #[.string (strL L)] w fun x w' => x = .returned (.tuple #[chV 0 0 0 0, .int .i64 c]) ∧ Bl w w' := by
  have hnil := strL_ne hL
  have len1 : L1.length ≤ 10000 := by rw [← h1]; have := fixL_length L 0 (1 : Nat); omega
  have R1 := Lib.hid (fun w' h => r_u8 (w.heap.size + 1) L 0 w' (by omega) h)
  have R2 := Lib.hid (fun w' h => r_u32 (w.heap.size + 1) L1 e1 w' (by omega) h)
  unfold GetP at R1 R2
  rw [hk, h1, f1] at R1
  rw [hN, h2, f2] at R2
  have hNlt : N < 4294967296 := by rw [← hN]; exact Nat.lt_of_lt_of_le (beN_lt _) (by have := fixO_length L1 e1 (4 : Nat) 4 (by omega); exact Nat.pow_le_pow_right (by omega) this (n := 256))
  have hu : IntKind.u64.wrap (N : Int) = N := IntWalk.u64_in _ (by omega)
  have WH := Lib.hid (fun w' h => whole_any (w.heap.size + 1) L2 e2 w' h)
  rw [hw] at WH
  have RD0 := Lib.hid (tc_rd L w)
  have hne : w.heap.size + 1 ≠ w.heap.size := by omega
  have CH := Lib.hid (fun w' => may_any k N 0 0 w')
  unfold MayP at CH
  rw [hm] at CH
  clear hm
  subst hc
  have g3 : ((k : Int) == 3) = false := by rw [beq_eq_false_iff_ne]; omega
  have g4 : ((k : Int) == 4) = false := by rw [beq_eq_false_iff_ne]; omega
  clear hL hl hk h1 f1 h2 f2 hN hw len1 hNlt
  rcases hkk with hkk | hkk
  · have g1 : ((k : Int) == 1) = true := by rw [beq_iff_eq]; omega
    clear hkk
    go_enter Try.func43, Try.ntmps43
    go_wp2_with (first
      | (go_at_call 71; refine (CH.out _).mono ?_; rintro e w7 ⟨rfl, h7⟩; have T7 := Lib.hid (T5.out.bl h7); clear h7; clear z0 z1 z2 z3 zf0 zf1 zf2 zf3 y0 y1 y2 y3; obtain ⟨z0, z1, z2, z3, zf0, zf1, zf2, zf3⟩ := four_cells T7.out.z; obtain ⟨y0, y1, y2, y3, _, _, _, _⟩ := four_cells T7.out.c)
      | (go_at_call 74; refine (WH.out _ (rd_set W2.out.1 (by have := T3.out.ne; omega) _ _)).mono ?_; rintro e w6 ⟨rfl, rfl⟩; have T5 := Lib.hid (T3.out.setN (m := N)); clear x0 x1 x2 x3 g0 g1 g2 g3; obtain ⟨z0, z1, z2, z3, zf0, zf1, zf2, zf3⟩ := four_cells T5.out.z; obtain ⟨y0, y1, y2, y3, _, _, _, _⟩ := four_cells T5.out.c)
      | (go_at_call 38; have := W1; refine (R2.out _ (rd_alloc W1.out.1 _)).mono ?_; rintro e w3 ⟨rfl, h⟩; have W2 := Lib.hid h; have T3 := Lib.hid (TC.only (TC.new (k := k) W1.out.2) h.2); obtain ⟨x0, x1, x2, x3, g0, g1, g2, g3⟩ := four_cells T3.out.c; clear h)
      | (go_at_call 31; refine (R1.out _ RD0.out).mono ?_; rintro e w2 ⟨rfl, h⟩; have W1 := Lib.hid h; clear h)
      | (go_at_call 19; refine (r_new _ _).mono ?_; rintro e w1 ⟨rfl, rfl⟩))
    refine bodyPost_ret (v := .tuple #[.agg #[.int .u8 0, .int .u64 0, .int .u8 0, .int .u64 0], .int .i64 4]) (by simp [results, Try.results43, go_sem, *]) rfl ⟨rfl, ?_⟩
    have B1 := T7.out.b
    exact (((B1.setCell (Nat.le_refl _) _).setCell (Nat.le_refl _) _).setCell (Nat.le_refl _) _).setCell (Nat.le_refl _) _
  · have g1 : ((k : Int) == 1) = false := by rw [beq_eq_false_iff_ne]; omega
    have g2 : ((k : Int) == 2) = true := by rw [beq_iff_eq]; omega
    clear hkk
    go_enter Try.func43, Try.ntmps43
    go_wp2_with (first
      | (go_at_call 71; refine (CH.out _).mono ?_; rintro e w7 ⟨rfl, h7⟩; have T7 := Lib.hid (T5.out.bl h7); clear h7; clear z0 z1 z2 z3 zf0 zf1 zf2 zf3 y0 y1 y2 y3; obtain ⟨z0, z1, z2, z3, zf0, zf1, zf2, zf3⟩ := four_cells T7.out.z; obtain ⟨y0, y1, y2, y3, _, _, _, _⟩ := four_cells T7.out.c)
      | (go_at_call 74; refine (WH.out _ (rd_set W2.out.1 (by have := T3.out.ne; omega) _ _)).mono ?_; rintro e w6 ⟨rfl, rfl⟩; have T5 := Lib.hid (T3.out.setN (m := N)); clear x0 x1 x2 x3 g0 g1 g2 g3; obtain ⟨z0, z1, z2, z3, zf0, zf1, zf2, zf3⟩ := four_cells T5.out.z; obtain ⟨y0, y1, y2, y3, _, _, _, _⟩ := four_cells T5.out.c)
      | (go_at_call 38; have := W1; refine (R2.out _ (rd_alloc W1.out.1 _)).mono ?_; rintro e w3 ⟨rfl, h⟩; have W2 := Lib.hid h; have T3 := Lib.hid (TC.only (TC.new (k := k) W1.out.2) h.2); obtain ⟨x0, x1, x2, x3, g0, g1, g2, g3⟩ := four_cells T3.out.c; clear h)
      | (go_at_call 31; refine (R1.out _ RD0.out).mono ?_; rintro e w2 ⟨rfl, h⟩; have W1 := Lib.hid h; clear h)
      | (go_at_call 19; refine (r_new _ _).mono ?_; rintro e w1 ⟨rfl, rfl⟩))
    refine bodyPost_ret (v := .tuple #[.agg #[.int .u8 0, .int .u64 0, .int .u8 0, .int .u64 0], .int .i64 4]) (by simp [results, Try.results43, go_sem, *]) rfl ⟨rfl, ?_⟩
    have B1 := T7.out.b
    exact (((B1.setCell (Nat.le_refl _) _).setCell (Nat.le_refl _) _).setCell (Nat.le_refl _) _).setCell (Nat.le_refl _) _

set_option maxRecDepth 100000 in
set_option maxHeartbeats 1600000 in
theorem ctake_size_good (L L1 L2 : List UInt8) (k N : Nat) (e1 e2 c : Int) (w : World) (hL : L ≠ []) (hl : L.length ≤ 10000) (hk : beN (fixO L 0 (1 : Nat)) = k) (h1 : fixL L 0 (1 : Nat) = L1) (f1 : fixE L 0 (1 : Nat) = e1) (hkk : k = 1 ∨ k = 2) (h2 : fixL L1 e1 (4 : Nat) = L2) (f2 : fixE L1 e1 (4 : Nat) = e2) (hN : beN (fixO L1 e1 (4 : Nat)) = N) (hw : wholeE L2 e2 = 0) (hm : mayC k N 0 0 = true) (hc : c = 0) :
    Calls Try.prog 43 #[.string (strL L)] w fun x w' => x = .returned (.tuple #[chV k N 0 0, .int .i64 c]) ∧ Bl w w' := by
  have hnil := strL_ne hL
  have len1 : L1.length ≤ 10000 := by rw [← h1]; have := fixL_length L 0 (1 : Nat); omega
  have R1 := Lib.hid (fun w' h => r_u8 (w.heap.size + 1) L 0 w' (by omega) h)
  have R2 := Lib.hid (fun w' h => r_u32 (w.heap.size + 1) L1 e1 w' (by omega) h)
  unfold GetP at R1 R2
  rw [hk, h1, f1] at R1
  rw [hN, h2, f2] at R2
  have hNlt : N < 4294967296 := by rw [← hN]; exact Nat.lt_of_lt_of_le (beN_lt _) (by have := fixO_length L1 e1 (4 : Nat) 4 (by omega); exact Nat.pow_le_pow_right (by omega) this (n := 256))
  have hu : IntKind.u64.wrap (N : Int) = N := IntWalk.u64_in _ (by omega)
  have WH := Lib.hid (fun w' h => whole_any (w.heap.size + 1) L2 e2 w' h)
  rw [hw] at WH
  have RD0 := Lib.hid (tc_rd L w)
  have hne : w.heap.size + 1 ≠ w.heap.size := by omega
  have CH := Lib.hid (fun w' => may_any k N 0 0 w')
  unfold MayP at CH
  rw [hm] at CH
  clear hm
  subst hc
  have g3 : ((k : Int) == 3) = false := by rw [beq_eq_false_iff_ne]; omega
  have g4 : ((k : Int) == 4) = false := by rw [beq_eq_false_iff_ne]; omega
  clear hL hl hk h1 f1 h2 f2 hN hw len1 hNlt
  rcases hkk with hkk | hkk
  · have g1 : ((k : Int) == 1) = true := by rw [beq_iff_eq]; omega
    clear hkk
    go_enter Try.func43, Try.ntmps43
    go_wp2_with (first
      | (go_at_call 71; refine (CH.out _).mono ?_; rintro e w7 ⟨rfl, h7⟩; have T7 := Lib.hid (T5.out.bl h7); clear h7; clear z0 z1 z2 z3 zf0 zf1 zf2 zf3 y0 y1 y2 y3; obtain ⟨z0, z1, z2, z3, zf0, zf1, zf2, zf3⟩ := four_cells T7.out.z; obtain ⟨y0, y1, y2, y3, _, _, _, _⟩ := four_cells T7.out.c)
      | (go_at_call 74; refine (WH.out _ (rd_set W2.out.1 (by have := T3.out.ne; omega) _ _)).mono ?_; rintro e w6 ⟨rfl, rfl⟩; have T5 := Lib.hid (T3.out.setN (m := N)); clear x0 x1 x2 x3 g0 g1 g2 g3; obtain ⟨z0, z1, z2, z3, zf0, zf1, zf2, zf3⟩ := four_cells T5.out.z; obtain ⟨y0, y1, y2, y3, _, _, _, _⟩ := four_cells T5.out.c)
      | (go_at_call 38; have := W1; refine (R2.out _ (rd_alloc W1.out.1 _)).mono ?_; rintro e w3 ⟨rfl, h⟩; have W2 := Lib.hid h; have T3 := Lib.hid (TC.only (TC.new (k := k) W1.out.2) h.2); obtain ⟨x0, x1, x2, x3, g0, g1, g2, g3⟩ := four_cells T3.out.c; clear h)
      | (go_at_call 31; refine (R1.out _ RD0.out).mono ?_; rintro e w2 ⟨rfl, h⟩; have W1 := Lib.hid h; clear h)
      | (go_at_call 19; refine (r_new _ _).mono ?_; rintro e w1 ⟨rfl, rfl⟩))
    refine bodyPost_ret (v := .tuple #[.agg #[.int .u8 k, .int .u64 N, .int .u8 0, .int .u64 0], .int .i64 0]) (by simp [results, Try.results43, go_sem, *]) rfl ⟨rfl, ?_⟩
    have B1 := T7.out.b
    exact (((B1.setCell (Nat.le_refl _) _).setCell (Nat.le_refl _) _).setCell (Nat.le_refl _) _).setCell (Nat.le_refl _) _
  · have g1 : ((k : Int) == 1) = false := by rw [beq_eq_false_iff_ne]; omega
    have g2 : ((k : Int) == 2) = true := by rw [beq_iff_eq]; omega
    clear hkk
    go_enter Try.func43, Try.ntmps43
    go_wp2_with (first
      | (go_at_call 71; refine (CH.out _).mono ?_; rintro e w7 ⟨rfl, h7⟩; have T7 := Lib.hid (T5.out.bl h7); clear h7; clear z0 z1 z2 z3 zf0 zf1 zf2 zf3 y0 y1 y2 y3; obtain ⟨z0, z1, z2, z3, zf0, zf1, zf2, zf3⟩ := four_cells T7.out.z; obtain ⟨y0, y1, y2, y3, _, _, _, _⟩ := four_cells T7.out.c)
      | (go_at_call 74; refine (WH.out _ (rd_set W2.out.1 (by have := T3.out.ne; omega) _ _)).mono ?_; rintro e w6 ⟨rfl, rfl⟩; have T5 := Lib.hid (T3.out.setN (m := N)); clear x0 x1 x2 x3 g0 g1 g2 g3; obtain ⟨z0, z1, z2, z3, zf0, zf1, zf2, zf3⟩ := four_cells T5.out.z; obtain ⟨y0, y1, y2, y3, _, _, _, _⟩ := four_cells T5.out.c)
      | (go_at_call 38; have := W1; refine (R2.out _ (rd_alloc W1.out.1 _)).mono ?_; rintro e w3 ⟨rfl, h⟩; have W2 := Lib.hid h; have T3 := Lib.hid (TC.only (TC.new (k := k) W1.out.2) h.2); obtain ⟨x0, x1, x2, x3, g0, g1, g2, g3⟩ := four_cells T3.out.c; clear h)
      | (go_at_call 31; refine (R1.out _ RD0.out).mono ?_; rintro e w2 ⟨rfl, h⟩; have W1 := Lib.hid h; clear h)
      | (go_at_call 19; refine (r_new _ _).mono ?_; rintro e w1 ⟨rfl, rfl⟩))
    refine bodyPost_ret (v := .tuple #[.agg #[.int .u8 k, .int .u64 N, .int .u8 0, .int .u64 0], .int .i64 0]) (by simp [results, Try.results43, go_sem, *]) rfl ⟨rfl, ?_⟩
    have B1 := T7.out.b
    exact (((B1.setCell (Nat.le_refl _) _).setCell (Nat.le_refl _) _).setCell (Nat.le_refl _) _).setCell (Nat.le_refl _) _

set_option maxRecDepth 100000 in
set_option maxHeartbeats 1600000 in
theorem ctake_stamp_torn (L L1 L2 : List UInt8) (k N : Nat) (e1 e2 c : Int) (w : World) (hL : L ≠ []) (hl : L.length ≤ 10000) (hk : beN (fixO L 0 (1 : Nat)) = k) (h1 : fixL L 0 (1 : Nat) = L1) (f1 : fixE L 0 (1 : Nat) = e1) (hkk : k = 4) (h2 : fixL L1 e1 (8 : Nat) = L2) (f2 : fixE L1 e1 (8 : Nat) = e2) (hN : beN (fixO L1 e1 (8 : Nat)) = N) (hw : wholeE L2 e2 = c) (hc : c ≠ 0) :
    Calls Try.prog 43 #[.string (strL L)] w fun x w' => x = .returned (.tuple #[chV 0 0 0 0, .int .i64 c]) ∧ Bl w w' := by
  have hnil := strL_ne hL
  have len1 : L1.length ≤ 10000 := by rw [← h1]; have := fixL_length L 0 (1 : Nat); omega
  have R1 := Lib.hid (fun w' h => r_u8 (w.heap.size + 1) L 0 w' (by omega) h)
  have R2 := Lib.hid (fun w' h => r_u64 (w.heap.size + 1) L1 e1 w' (by omega) h)
  unfold GetP at R1 R2
  rw [hk, h1, f1] at R1
  rw [hN, h2, f2] at R2
  have WH := Lib.hid (fun w' h => whole_any (w.heap.size + 1) L2 e2 w' h)
  rw [hw] at WH
  have RD0 := Lib.hid (tc_rd L w)
  have hne : w.heap.size + 1 ≠ w.heap.size := by omega
  have hcb : (c != 0) = true := by simpa using hc
  have hcb' : (c == 0) = false := by simpa using hc
  clear hc
  have g1 : ((k : Int) == 1) = false := by rw [beq_eq_false_iff_ne]; omega
  have g2 : ((k : Int) == 2) = false := by rw [beq_eq_false_iff_ne]; omega
  have g3 : ((k : Int) == 3) = false := by rw [beq_eq_false_iff_ne]; omega
  have g4 : ((k : Int) == 4) = true := by rw [beq_iff_eq]; omega
  clear hL hl hk h1 f1 h2 f2 hN hw len1 hkk
  go_enter Try.func43, Try.ntmps43
  go_wp2_with (first
    | (go_at_call 74; refine (WH.out _ (rd_set W2.out.1 (by have := T3.out.ne; omega) _ _)).mono ?_; rintro e w6 ⟨rfl, rfl⟩; have T5 := Lib.hid (T3.out.setN (m := N)); clear x0 x1 x2 x3 g0 g1 g2 g3; obtain ⟨z0, z1, z2, z3, zf0, zf1, zf2, zf3⟩ := four_cells T5.out.z; obtain ⟨y0, y1, y2, y3, _, _, _, _⟩ := four_cells T5.out.c)
    | (go_at_call 35; have := W1; refine (R2.out _ (rd_alloc W1.out.1 _)).mono ?_; rintro e w3 ⟨rfl, h⟩; have W2 := Lib.hid h; have T3 := Lib.hid (TC.only (TC.new (k := k) W1.out.2) h.2); obtain ⟨x0, x1, x2, x3, g0, g1, g2, g3⟩ := four_cells T3.out.c; clear h)
    | (go_at_call 31; refine (R1.out _ RD0.out).mono ?_; rintro e w2 ⟨rfl, h⟩; have W1 := Lib.hid h; clear h)
    | (go_at_call 19; refine (r_new _ _).mono ?_; rintro e w1 ⟨rfl, rfl⟩))
  refine bodyPost_ret (v := .tuple #[.agg #[.int .u8 0, .int .u64 0, .int .u8 0, .int .u64 0], .int .i64 c]) (by simp [results, Try.results43, go_sem, *]) rfl ⟨rfl, ?_⟩
  have B1 := T5.out.b
  exact (((B1.setCell (Nat.le_refl _) _).setCell (Nat.le_refl _) _).setCell (Nat.le_refl _) _).setCell (Nat.le_refl _) _

set_option maxRecDepth 100000 in
set_option maxHeartbeats 1600000 in
theorem ctake_stamp_bad (L L1 L2 : List UInt8) (k N : Nat) (e1 e2 c : Int) (w : World) (hL : L ≠ []) (hl : L.length ≤ 10000) (hk : beN (fixO L 0 (1 : Nat)) = k) (h1 : fixL L 0 (1 : Nat) = L1) (f1 : fixE L 0 (1 : Nat) = e1) (hkk : k = 4) (h2 : fixL L1 e1 (8 : Nat) = L2) (f2 : fixE L1 e1 (8 : Nat) = e2) (hN : beN (fixO L1 e1 (8 : Nat)) = N) (hw : wholeE L2 e2 = 0) (hm : mayC k N 0 0 = false) (hc : c = 4) :
    Calls Try.prog 43 #[.string (strL L)] w fun x w' => x = .returned (.tuple #[chV 0 0 0 0, .int .i64 c]) ∧ Bl w w' := by
  have hnil := strL_ne hL
  have len1 : L1.length ≤ 10000 := by rw [← h1]; have := fixL_length L 0 (1 : Nat); omega
  have R1 := Lib.hid (fun w' h => r_u8 (w.heap.size + 1) L 0 w' (by omega) h)
  have R2 := Lib.hid (fun w' h => r_u64 (w.heap.size + 1) L1 e1 w' (by omega) h)
  unfold GetP at R1 R2
  rw [hk, h1, f1] at R1
  rw [hN, h2, f2] at R2
  have WH := Lib.hid (fun w' h => whole_any (w.heap.size + 1) L2 e2 w' h)
  rw [hw] at WH
  have RD0 := Lib.hid (tc_rd L w)
  have hne : w.heap.size + 1 ≠ w.heap.size := by omega
  have CH := Lib.hid (fun w' => may_any k N 0 0 w')
  unfold MayP at CH
  rw [hm] at CH
  clear hm
  subst hc
  have g1 : ((k : Int) == 1) = false := by rw [beq_eq_false_iff_ne]; omega
  have g2 : ((k : Int) == 2) = false := by rw [beq_eq_false_iff_ne]; omega
  have g3 : ((k : Int) == 3) = false := by rw [beq_eq_false_iff_ne]; omega
  have g4 : ((k : Int) == 4) = true := by rw [beq_iff_eq]; omega
  clear hL hl hk h1 f1 h2 f2 hN hw len1 hkk
  go_enter Try.func43, Try.ntmps43
  go_wp2_with (first
    | (go_at_call 71; refine (CH.out _).mono ?_; rintro e w7 ⟨rfl, h7⟩; have T7 := Lib.hid (T5.out.bl h7); clear h7; clear z0 z1 z2 z3 zf0 zf1 zf2 zf3 y0 y1 y2 y3; obtain ⟨z0, z1, z2, z3, zf0, zf1, zf2, zf3⟩ := four_cells T7.out.z; obtain ⟨y0, y1, y2, y3, _, _, _, _⟩ := four_cells T7.out.c)
    | (go_at_call 74; refine (WH.out _ (rd_set W2.out.1 (by have := T3.out.ne; omega) _ _)).mono ?_; rintro e w6 ⟨rfl, rfl⟩; have T5 := Lib.hid (T3.out.setN (m := N)); clear x0 x1 x2 x3 g0 g1 g2 g3; obtain ⟨z0, z1, z2, z3, zf0, zf1, zf2, zf3⟩ := four_cells T5.out.z; obtain ⟨y0, y1, y2, y3, _, _, _, _⟩ := four_cells T5.out.c)
    | (go_at_call 35; have := W1; refine (R2.out _ (rd_alloc W1.out.1 _)).mono ?_; rintro e w3 ⟨rfl, h⟩; have W2 := Lib.hid h; have T3 := Lib.hid (TC.only (TC.new (k := k) W1.out.2) h.2); obtain ⟨x0, x1, x2, x3, g0, g1, g2, g3⟩ := four_cells T3.out.c; clear h)
    | (go_at_call 31; refine (R1.out _ RD0.out).mono ?_; rintro e w2 ⟨rfl, h⟩; have W1 := Lib.hid h; clear h)
    | (go_at_call 19; refine (r_new _ _).mono ?_; rintro e w1 ⟨rfl, rfl⟩))
  refine bodyPost_ret (v := .tuple #[.agg #[.int .u8 0, .int .u64 0, .int .u8 0, .int .u64 0], .int .i64 4]) (by simp [results, Try.results43, go_sem, *]) rfl ⟨rfl, ?_⟩
  have B1 := T7.out.b
  exact (((B1.setCell (Nat.le_refl _) _).setCell (Nat.le_refl _) _).setCell (Nat.le_refl _) _).setCell (Nat.le_refl _) _

set_option maxRecDepth 100000 in
set_option maxHeartbeats 1600000 in
theorem ctake_stamp_good (L L1 L2 : List UInt8) (k N : Nat) (e1 e2 c : Int) (w : World) (hL : L ≠ []) (hl : L.length ≤ 10000) (hk : beN (fixO L 0 (1 : Nat)) = k) (h1 : fixL L 0 (1 : Nat) = L1) (f1 : fixE L 0 (1 : Nat) = e1) (hkk : k = 4) (h2 : fixL L1 e1 (8 : Nat) = L2) (f2 : fixE L1 e1 (8 : Nat) = e2) (hN : beN (fixO L1 e1 (8 : Nat)) = N) (hw : wholeE L2 e2 = 0) (hm : mayC k N 0 0 = true) (hc : c = 0) :
    Calls Try.prog 43 #[.string (strL L)] w fun x w' => x = .returned (.tuple #[chV k N 0 0, .int .i64 c]) ∧ Bl w w' := by
  have hnil := strL_ne hL
  have len1 : L1.length ≤ 10000 := by rw [← h1]; have := fixL_length L 0 (1 : Nat); omega
  have R1 := Lib.hid (fun w' h => r_u8 (w.heap.size + 1) L 0 w' (by omega) h)
  have R2 := Lib.hid (fun w' h => r_u64 (w.heap.size + 1) L1 e1 w' (by omega) h)
  unfold GetP at R1 R2
  rw [hk, h1, f1] at R1
  rw [hN, h2, f2] at R2
  have WH := Lib.hid (fun w' h => whole_any (w.heap.size + 1) L2 e2 w' h)
  rw [hw] at WH
  have RD0 := Lib.hid (tc_rd L w)
  have hne : w.heap.size + 1 ≠ w.heap.size := by omega
  have CH := Lib.hid (fun w' => may_any k N 0 0 w')
  unfold MayP at CH
  rw [hm] at CH
  clear hm
  subst hc
  have g1 : ((k : Int) == 1) = false := by rw [beq_eq_false_iff_ne]; omega
  have g2 : ((k : Int) == 2) = false := by rw [beq_eq_false_iff_ne]; omega
  have g3 : ((k : Int) == 3) = false := by rw [beq_eq_false_iff_ne]; omega
  have g4 : ((k : Int) == 4) = true := by rw [beq_iff_eq]; omega
  clear hL hl hk h1 f1 h2 f2 hN hw len1 hkk
  go_enter Try.func43, Try.ntmps43
  go_wp2_with (first
    | (go_at_call 71; refine (CH.out _).mono ?_; rintro e w7 ⟨rfl, h7⟩; have T7 := Lib.hid (T5.out.bl h7); clear h7; clear z0 z1 z2 z3 zf0 zf1 zf2 zf3 y0 y1 y2 y3; obtain ⟨z0, z1, z2, z3, zf0, zf1, zf2, zf3⟩ := four_cells T7.out.z; obtain ⟨y0, y1, y2, y3, _, _, _, _⟩ := four_cells T7.out.c)
    | (go_at_call 74; refine (WH.out _ (rd_set W2.out.1 (by have := T3.out.ne; omega) _ _)).mono ?_; rintro e w6 ⟨rfl, rfl⟩; have T5 := Lib.hid (T3.out.setN (m := N)); clear x0 x1 x2 x3 g0 g1 g2 g3; obtain ⟨z0, z1, z2, z3, zf0, zf1, zf2, zf3⟩ := four_cells T5.out.z; obtain ⟨y0, y1, y2, y3, _, _, _, _⟩ := four_cells T5.out.c)
    | (go_at_call 35; have := W1; refine (R2.out _ (rd_alloc W1.out.1 _)).mono ?_; rintro e w3 ⟨rfl, h⟩; have W2 := Lib.hid h; have T3 := Lib.hid (TC.only (TC.new (k := k) W1.out.2) h.2); obtain ⟨x0, x1, x2, x3, g0, g1, g2, g3⟩ := four_cells T3.out.c; clear h)
    | (go_at_call 31; refine (R1.out _ RD0.out).mono ?_; rintro e w2 ⟨rfl, h⟩; have W1 := Lib.hid h; clear h)
    | (go_at_call 19; refine (r_new _ _).mono ?_; rintro e w1 ⟨rfl, rfl⟩))
  refine bodyPost_ret (v := .tuple #[.agg #[.int .u8 k, .int .u64 N, .int .u8 0, .int .u64 0], .int .i64 0]) (by simp [results, Try.results43, go_sem, *]) rfl ⟨rfl, ?_⟩
  have B1 := T7.out.b
  exact (((B1.setCell (Nat.le_refl _) _).setCell (Nat.le_refl _) _).setCell (Nat.le_refl _) _).setCell (Nat.le_refl _) _

set_option maxRecDepth 100000 in
set_option maxHeartbeats 1600000 in
theorem ctake_mark_torn (L L1 L2 L3 : List UInt8) (k N M : Nat) (e1 e2 e3 c : Int) (w : World) (hL : L ≠ []) (hl : L.length ≤ 10000) (hk : beN (fixO L 0 (1 : Nat)) = k) (h1 : fixL L 0 (1 : Nat) = L1) (f1 : fixE L 0 (1 : Nat) = e1) (hkk : k = 3) (h2 : fixL L1 e1 (1 : Nat) = L2) (f2 : fixE L1 e1 (1 : Nat) = e2) (hN : beN (fixO L1 e1 (1 : Nat)) = N) (h3 : fixL L2 e2 (8 : Nat) = L3) (f3 : fixE L2 e2 (8 : Nat) = e3) (hM : beN (fixO L2 e2 (8 : Nat)) = M) (hw : wholeE L3 e3 = c) (hc : c ≠ 0) :
    Calls Try.prog 43 #[.string (strL L)] w fun x w' => x = .returned (.tuple #[chV 0 0 0 0, .int .i64 c]) ∧ Bl w w' := by
  have hnil := strL_ne hL
  have len1 : L1.length ≤ 10000 := by rw [← h1]; have := fixL_length L 0 (1 : Nat); omega
  have R1 := Lib.hid (fun w' h => r_u8 (w.heap.size + 1) L 0 w' (by omega) h)
  have len2 : L2.length ≤ 10000 := by rw [← h2]; have := fixL_length L1 e1 (1 : Nat); omega
  have R2 := Lib.hid (fun w' h => r_u8 (w.heap.size + 1) L1 e1 w' (by omega) h)
  have R3 := Lib.hid (fun w' h => r_u64 (w.heap.size + 1) L2 e2 w' (by omega) h)
  unfold GetP at R1 R2 R3
  rw [hk, h1, f1] at R1
  rw [hN, h2, f2] at R2
  rw [hM, h3, f3] at R3
  have WH := Lib.hid (fun w' h => whole_any (w.heap.size + 1) L3 e3 w' h)
  rw [hw] at WH
  have RD0 := Lib.hid (tc_rd L w)
  have hne : w.heap.size + 1 ≠ w.heap.size := by omega
  have hcb : (c != 0) = true := by simpa using hc
  have hcb' : (c == 0) = false := by simpa using hc
  clear hc
  have g1 : ((k : Int) == 1) = false := by rw [beq_eq_false_iff_ne]; omega
  have g2 : ((k : Int) == 2) = false := by rw [beq_eq_false_iff_ne]; omega
  have g3 : ((k : Int) == 3) = true := by rw [beq_iff_eq]; omega
  have g4 : ((k : Int) == 4) = false := by rw [beq_eq_false_iff_ne]; omega
  clear hL hl hk h1 f1 h2 f2 hN hw len1 h3 f3 hM len2 hkk
  go_enter Try.func43, Try.ntmps43
  go_wp2_with (first
    | (go_at_call 74; refine (WH.out _ (rd_set (rd_set W3.out.1 (by have := T4.out.ne; omega) _ _) (by have := T4.out.ne; omega) _ _)).mono ?_; rintro e w6 ⟨rfl, rfl⟩; have T5 := Lib.hid ((T4.out.setO (m := N)).setY (m := M)); clear x0 x1 x2 x3 g0 g1 g2 g3; obtain ⟨z0, z1, z2, z3, zf0, zf1, zf2, zf3⟩ := four_cells T5.out.z; obtain ⟨y0, y1, y2, y3, _, _, _, _⟩ := four_cells T5.out.c)
    | (go_at_call 35; refine (R3.out _ W2.out.1).mono ?_; rintro e w4 ⟨rfl, h⟩; have W3 := Lib.hid h; have T4 := Lib.hid (TC.only T3.out h.2); obtain ⟨x0, x1, x2, x3, g0, g1, g2, g3⟩ := four_cells T4.out.c; clear h)
    | (go_at_call 31; have := W1; refine (R2.out _ (rd_alloc W1.out.1 _)).mono ?_; rintro e w3 ⟨rfl, h⟩; have W2 := Lib.hid h; have T3 := Lib.hid (TC.only (TC.new (k := k) W1.out.2) h.2); clear h)
    | (go_at_call 31; refine (R1.out _ RD0.out).mono ?_; rintro e w2 ⟨rfl, h⟩; have W1 := Lib.hid h; clear h)
    | (go_at_call 19; refine (r_new _ _).mono ?_; rintro e w1 ⟨rfl, rfl⟩))
  refine bodyPost_ret (v := .tuple #[.agg #[.int .u8 0, .int .u64 0, .int .u8 0, .int .u64 0], .int .i64 c]) (by simp [results, Try.results43, go_sem, *]) rfl ⟨rfl, ?_⟩
  have B1 := T5.out.b
  exact (((B1.setCell (Nat.le_refl _) _).setCell (Nat.le_refl _) _).setCell (Nat.le_refl _) _).setCell (Nat.le_refl _) _

set_option maxRecDepth 100000 in
set_option maxHeartbeats 1600000 in
theorem ctake_mark_bad (L L1 L2 L3 : List UInt8) (k N M : Nat) (e1 e2 e3 c : Int) (w : World) (hL : L ≠ []) (hl : L.length ≤ 10000) (hk : beN (fixO L 0 (1 : Nat)) = k) (h1 : fixL L 0 (1 : Nat) = L1) (f1 : fixE L 0 (1 : Nat) = e1) (hkk : k = 3) (h2 : fixL L1 e1 (1 : Nat) = L2) (f2 : fixE L1 e1 (1 : Nat) = e2) (hN : beN (fixO L1 e1 (1 : Nat)) = N) (h3 : fixL L2 e2 (8 : Nat) = L3) (f3 : fixE L2 e2 (8 : Nat) = e3) (hM : beN (fixO L2 e2 (8 : Nat)) = M) (hw : wholeE L3 e3 = 0) (hm : mayC k 0 N M = false) (hc : c = 4) :
    Calls Try.prog 43 #[.string (strL L)] w fun x w' => x = .returned (.tuple #[chV 0 0 0 0, .int .i64 c]) ∧ Bl w w' := by
  have hnil := strL_ne hL
  have len1 : L1.length ≤ 10000 := by rw [← h1]; have := fixL_length L 0 (1 : Nat); omega
  have R1 := Lib.hid (fun w' h => r_u8 (w.heap.size + 1) L 0 w' (by omega) h)
  have len2 : L2.length ≤ 10000 := by rw [← h2]; have := fixL_length L1 e1 (1 : Nat); omega
  have R2 := Lib.hid (fun w' h => r_u8 (w.heap.size + 1) L1 e1 w' (by omega) h)
  have R3 := Lib.hid (fun w' h => r_u64 (w.heap.size + 1) L2 e2 w' (by omega) h)
  unfold GetP at R1 R2 R3
  rw [hk, h1, f1] at R1
  rw [hN, h2, f2] at R2
  rw [hM, h3, f3] at R3
  have WH := Lib.hid (fun w' h => whole_any (w.heap.size + 1) L3 e3 w' h)
  rw [hw] at WH
  have RD0 := Lib.hid (tc_rd L w)
  have hne : w.heap.size + 1 ≠ w.heap.size := by omega
  have CH := Lib.hid (fun w' => may_any k 0 N M w')
  unfold MayP at CH
  rw [hm] at CH
  clear hm
  subst hc
  have g1 : ((k : Int) == 1) = false := by rw [beq_eq_false_iff_ne]; omega
  have g2 : ((k : Int) == 2) = false := by rw [beq_eq_false_iff_ne]; omega
  have g3 : ((k : Int) == 3) = true := by rw [beq_iff_eq]; omega
  have g4 : ((k : Int) == 4) = false := by rw [beq_eq_false_iff_ne]; omega
  clear hL hl hk h1 f1 h2 f2 hN hw len1 h3 f3 hM len2 hkk
  go_enter Try.func43, Try.ntmps43
  go_wp2_with (first
    | (go_at_call 71; refine (CH.out _).mono ?_; rintro e w7 ⟨rfl, h7⟩; have T7 := Lib.hid (T5.out.bl h7); clear h7; clear z0 z1 z2 z3 zf0 zf1 zf2 zf3 y0 y1 y2 y3; obtain ⟨z0, z1, z2, z3, zf0, zf1, zf2, zf3⟩ := four_cells T7.out.z; obtain ⟨y0, y1, y2, y3, _, _, _, _⟩ := four_cells T7.out.c)
    | (go_at_call 74; refine (WH.out _ (rd_set (rd_set W3.out.1 (by have := T4.out.ne; omega) _ _) (by have := T4.out.ne; omega) _ _)).mono ?_; rintro e w6 ⟨rfl, rfl⟩; have T5 := Lib.hid ((T4.out.setO (m := N)).setY (m := M)); clear x0 x1 x2 x3 g0 g1 g2 g3; obtain ⟨z0, z1, z2, z3, zf0, zf1, zf2, zf3⟩ := four_cells T5.out.z; obtain ⟨y0, y1, y2, y3, _, _, _, _⟩ := four_cells T5.out.c)
    | (go_at_call 35; refine (R3.out _ W2.out.1).mono ?_; rintro e w4 ⟨rfl, h⟩; have W3 := Lib.hid h; have T4 := Lib.hid (TC.only T3.out h.2); obtain ⟨x0, x1, x2, x3, g0, g1, g2, g3⟩ := four_cells T4.out.c; clear h)
    | (go_at_call 31; have := W1; refine (R2.out _ (rd_alloc W1.out.1 _)).mono ?_; rintro e w3 ⟨rfl, h⟩; have W2 := Lib.hid h; have T3 := Lib.hid (TC.only (TC.new (k := k) W1.out.2) h.2); clear h)
    | (go_at_call 31; refine (R1.out _ RD0.out).mono ?_; rintro e w2 ⟨rfl, h⟩; have W1 := Lib.hid h; clear h)
    | (go_at_call 19; refine (r_new _ _).mono ?_; rintro e w1 ⟨rfl, rfl⟩))
  refine bodyPost_ret (v := .tuple #[.agg #[.int .u8 0, .int .u64 0, .int .u8 0, .int .u64 0], .int .i64 4]) (by simp [results, Try.results43, go_sem, *]) rfl ⟨rfl, ?_⟩
  have B1 := T7.out.b
  exact (((B1.setCell (Nat.le_refl _) _).setCell (Nat.le_refl _) _).setCell (Nat.le_refl _) _).setCell (Nat.le_refl _) _

set_option maxRecDepth 100000 in
set_option maxHeartbeats 1600000 in
theorem ctake_mark_good (L L1 L2 L3 : List UInt8) (k N M : Nat) (e1 e2 e3 c : Int) (w : World) (hL : L ≠ []) (hl : L.length ≤ 10000) (hk : beN (fixO L 0 (1 : Nat)) = k) (h1 : fixL L 0 (1 : Nat) = L1) (f1 : fixE L 0 (1 : Nat) = e1) (hkk : k = 3) (h2 : fixL L1 e1 (1 : Nat) = L2) (f2 : fixE L1 e1 (1 : Nat) = e2) (hN : beN (fixO L1 e1 (1 : Nat)) = N) (h3 : fixL L2 e2 (8 : Nat) = L3) (f3 : fixE L2 e2 (8 : Nat) = e3) (hM : beN (fixO L2 e2 (8 : Nat)) = M) (hw : wholeE L3 e3 = 0) (hm : mayC k 0 N M = true) (hc : c = 0) :
    Calls Try.prog 43 #[.string (strL L)] w fun x w' => x = .returned (.tuple #[chV k 0 N M, .int .i64 c]) ∧ Bl w w' := by
  have hnil := strL_ne hL
  have len1 : L1.length ≤ 10000 := by rw [← h1]; have := fixL_length L 0 (1 : Nat); omega
  have R1 := Lib.hid (fun w' h => r_u8 (w.heap.size + 1) L 0 w' (by omega) h)
  have len2 : L2.length ≤ 10000 := by rw [← h2]; have := fixL_length L1 e1 (1 : Nat); omega
  have R2 := Lib.hid (fun w' h => r_u8 (w.heap.size + 1) L1 e1 w' (by omega) h)
  have R3 := Lib.hid (fun w' h => r_u64 (w.heap.size + 1) L2 e2 w' (by omega) h)
  unfold GetP at R1 R2 R3
  rw [hk, h1, f1] at R1
  rw [hN, h2, f2] at R2
  rw [hM, h3, f3] at R3
  have WH := Lib.hid (fun w' h => whole_any (w.heap.size + 1) L3 e3 w' h)
  rw [hw] at WH
  have RD0 := Lib.hid (tc_rd L w)
  have hne : w.heap.size + 1 ≠ w.heap.size := by omega
  have CH := Lib.hid (fun w' => may_any k 0 N M w')
  unfold MayP at CH
  rw [hm] at CH
  clear hm
  subst hc
  have g1 : ((k : Int) == 1) = false := by rw [beq_eq_false_iff_ne]; omega
  have g2 : ((k : Int) == 2) = false := by rw [beq_eq_false_iff_ne]; omega
  have g3 : ((k : Int) == 3) = true := by rw [beq_iff_eq]; omega
  have g4 : ((k : Int) == 4) = false := by rw [beq_eq_false_iff_ne]; omega
  clear hL hl hk h1 f1 h2 f2 hN hw len1 h3 f3 hM len2 hkk
  go_enter Try.func43, Try.ntmps43
  go_wp2_with (first
    | (go_at_call 71; refine (CH.out _).mono ?_; rintro e w7 ⟨rfl, h7⟩; have T7 := Lib.hid (T5.out.bl h7); clear h7; clear z0 z1 z2 z3 zf0 zf1 zf2 zf3 y0 y1 y2 y3; obtain ⟨z0, z1, z2, z3, zf0, zf1, zf2, zf3⟩ := four_cells T7.out.z; obtain ⟨y0, y1, y2, y3, _, _, _, _⟩ := four_cells T7.out.c)
    | (go_at_call 74; refine (WH.out _ (rd_set (rd_set W3.out.1 (by have := T4.out.ne; omega) _ _) (by have := T4.out.ne; omega) _ _)).mono ?_; rintro e w6 ⟨rfl, rfl⟩; have T5 := Lib.hid ((T4.out.setO (m := N)).setY (m := M)); clear x0 x1 x2 x3 g0 g1 g2 g3; obtain ⟨z0, z1, z2, z3, zf0, zf1, zf2, zf3⟩ := four_cells T5.out.z; obtain ⟨y0, y1, y2, y3, _, _, _, _⟩ := four_cells T5.out.c)
    | (go_at_call 35; refine (R3.out _ W2.out.1).mono ?_; rintro e w4 ⟨rfl, h⟩; have W3 := Lib.hid h; have T4 := Lib.hid (TC.only T3.out h.2); obtain ⟨x0, x1, x2, x3, g0, g1, g2, g3⟩ := four_cells T4.out.c; clear h)
    | (go_at_call 31; have := W1; refine (R2.out _ (rd_alloc W1.out.1 _)).mono ?_; rintro e w3 ⟨rfl, h⟩; have W2 := Lib.hid h; have T3 := Lib.hid (TC.only (TC.new (k := k) W1.out.2) h.2); clear h)
    | (go_at_call 31; refine (R1.out _ RD0.out).mono ?_; rintro e w2 ⟨rfl, h⟩; have W1 := Lib.hid h; clear h)
    | (go_at_call 19; refine (r_new _ _).mono ?_; rintro e w1 ⟨rfl, rfl⟩))
  refine bodyPost_ret (v := .tuple #[.agg #[.int .u8 k, .int .u64 0, .int .u8 N, .int .u64 M], .int .i64 0]) (by simp [results, Try.results43, go_sem, *]) rfl ⟨rfl, ?_⟩
  have B1 := T7.out.b
  exact (((B1.setCell (Nat.le_refl _) _).setCell (Nat.le_refl _) _).setCell (Nat.le_refl _) _).setCell (Nat.le_refl _) _

end Go.Proofs.Ytniblmpihnhglaa
