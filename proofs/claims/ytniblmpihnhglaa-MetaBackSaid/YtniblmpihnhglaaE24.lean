/- The statement MetaBack, walked case by case. Printed by gen_e24.py. -/
import Derived.Test.YtniblmpihnhglaaE23
import Derived.Test.YtniblmpihnhglaaE20
namespace Go.Proofs.Ytniblmpihnhglaa
open Go.RowKit
set_option linter.unusedVariables false

theorem cTV_ch (L : List UInt8) : ∃ y : Ch, y.ok ∧ cTV L = .agg #[.int .u8 y.k, .int .u64 y.n, .int .u8 y.op, .int .u64 y.y] ∧ (cOK L = true → changeL y.k y.n y.op y.y = L ∧ mayC y.k y.n y.op y.y = true) := by
  have lt : ∀ (l : List UInt8) (m : Nat), l.length ≤ m → beN l < 256 ^ m := fun l m h => Nat.lt_of_lt_of_le (beN_lt l) (Nat.pow_le_pow_right (by omega) h)
  by_cases h : cOK L = true
  · refine ⟨⟨cK L, cN L, cO L, cY L⟩, ⟨?_, ?_, ?_, ?_⟩, ?_, fun _ => ⟨take_putc h, (cOK_form h).2.2.2⟩⟩
    · exact lt _ 1 (by rw [List.length_take]; omega)
    · show cN L < 256 ^ 8
      unfold cN
      split
      · decide
      split
      · exact lt _ 8 (by rw [List.length_take]; omega)
      · exact Nat.lt_of_lt_of_le (lt _ 4 (by rw [List.length_take]; omega)) (by decide)
    · show cO L < 256
      unfold cO
      split
      · exact lt _ 1 (by rw [List.length_take]; omega)
      · decide
    · show cY L < 256 ^ 8
      unfold cY
      split
      · exact lt _ 8 (by rw [List.length_take]; omega)
      · decide
    · unfold cTV; rw [if_pos h]; rfl
  · exact ⟨⟨0, 0, 0, 0⟩, ⟨by decide, by decide, by decide, by decide⟩, by unfold cTV; rw [if_neg h]; rfl, fun h2 => absurd h2 h⟩
theorem tV_me (L : List UInt8) : ∃ y : Me, y.ok ∧ tV L = .agg #[.int .u8 y.k, .int .u32 y.s, .int .u64 y.m, .int .u64 y.t] ∧ (tOK L = true → metaL y.k y.s y.m y.t = L ∧ mayM y.k y.s y.m = true) := by
  have lt : ∀ (l : List UInt8) (m : Nat), l.length ≤ m → beN l < 256 ^ m := fun l m h => Nat.lt_of_lt_of_le (beN_lt l) (Nat.pow_le_pow_right (by omega) h)
  by_cases h : tOK L = true
  · refine ⟨⟨tK L, tS L, tM L, tT L⟩, ⟨?_, ?_, ?_, ?_⟩, ?_, fun _ => take_put h⟩
    · exact lt _ 1 (by rw [List.length_take]; omega)
    · exact lt _ 4 (by rw [List.length_take]; omega)
    · exact lt _ 8 (by rw [List.length_take]; omega)
    · exact lt _ 8 (by rw [List.length_take]; omega)
    · unfold tV; rw [if_pos h]; rfl
  · exact ⟨⟨0, 0, 0, 0⟩, ⟨by decide, by decide, by decide, by decide⟩, by unfold tV; rw [if_neg h]; rfl, fun h2 => absurd h2 h⟩
theorem c73_new (c : Ch) (w : World) : CC w.heap.size c (w.alloc (cO73 c)) := heap_alloc_new _ _
theorem strL_inj' {a b : List UInt8} (h : strL a = strL b) : a = b := strL_inj h

/-- What the calls answer: of Put and PutChange (S, E; U, G), of the texts put (x1, F1; y1, H1), of the text at hand (x2, F2; y2, H2), and of what was taken put anew. -/
structure BK (x : Me) (c : Ch) (L : List UInt8) (S U : List UInt8) (E G : Int) (x1 x2 : Me) (y1 y2 : Ch) (F1 H1 F2 H2 : Int) (S2 U2 : List UInt8) (E2 G2 : Int) : Prop where
  put : ∀ w, Calls Try.prog 49 #[.agg #[.int .u8 x.k, .int .u32 x.s, .int .u64 x.m, .int .u64 x.t]] w fun e w' => e = .returned (.tuple #[.string (strL S), .int .i64 E]) ∧ Bl w w'
  tk1 : ∀ w, Calls Try.prog 51 #[.string (strL S)] w fun e w' => e = .returned (.tuple #[.agg #[.int .u8 x1.k, .int .u32 x1.s, .int .u64 x1.m, .int .u64 x1.t], .int .i64 F1]) ∧ Bl w w'
  pc : ∀ w, Calls Try.prog 40 #[.agg #[.int .u8 c.k, .int .u64 c.n, .int .u8 c.op, .int .u64 c.y]] w fun e w' => e = .returned (.tuple #[.string (strL U), .int .i64 G]) ∧ Bl w w'
  tc1 : ∀ w, Calls Try.prog 43 #[.string (strL U)] w fun e w' => e = .returned (.tuple #[.agg #[.int .u8 y1.k, .int .u64 y1.n, .int .u8 y1.op, .int .u64 y1.y], .int .i64 H1]) ∧ Bl w w'
  tk2 : ∀ w, Calls Try.prog 51 #[.string (strL L)] w fun e w' => e = .returned (.tuple #[.agg #[.int .u8 x2.k, .int .u32 x2.s, .int .u64 x2.m, .int .u64 x2.t], .int .i64 F2]) ∧ Bl w w'
  tc2 : ∀ w, Calls Try.prog 43 #[.string (strL L)] w fun e w' => e = .returned (.tuple #[.agg #[.int .u8 y2.k, .int .u64 y2.n, .int .u8 y2.op, .int .u64 y2.y], .int .i64 H2]) ∧ Bl w w'
  put2 : ∀ w, Calls Try.prog 49 #[.agg #[.int .u8 x2.k, .int .u32 x2.s, .int .u64 x2.m, .int .u64 x2.t]] w fun e w' => e = .returned (.tuple #[.string (strL S2), .int .i64 E2]) ∧ Bl w w'
  pc2 : ∀ w, Calls Try.prog 40 #[.agg #[.int .u8 y2.k, .int .u64 y2.n, .int .u8 y2.op, .int .u64 y2.y]] w fun e w' => e = .returned (.tuple #[.string (strL U2), .int .i64 G2]) ∧ Bl w w'
theorem alloc_lt (w : World) (o : Obj) : w.heap.size < (w.alloc o).heap.size := by rw [alloc_size]; omega
theorem mc_store {b : Nat} {x0 : Me} {w : World} (h : MC b x0 w) (x : Me) : MC b x ((((w.setCell ⟨b, 0, none⟩ (.int .u8 x.k)).setCell ⟨b, 1, none⟩ (.int .u32 x.s)).setCell ⟨b, 2, none⟩ (.int .u64 x.m)).setCell ⟨b, 3, none⟩ (.int .u64 x.t)) := by
  have h1 := heap_setCell_same w b 0 _ _ (.int .u8 x.k) h
  have h2 := heap_setCell_same _ b 1 _ _ (.int .u32 x.s) h1
  have h3 := heap_setCell_same _ b 2 _ _ (.int .u64 x.m) h2
  have h4 := heap_setCell_same _ b 3 _ _ (.int .u64 x.t) h3
  exact h4
theorem cc_store {b : Nat} {x0 : Ch} {w : World} (h : CC b x0 w) (x : Ch) : CC b x ((((w.setCell ⟨b, 0, none⟩ (.int .u8 x.k)).setCell ⟨b, 1, none⟩ (.int .u64 x.n)).setCell ⟨b, 2, none⟩ (.int .u8 x.op)).setCell ⟨b, 3, none⟩ (.int .u64 x.y)) := by
  have h1 := heap_setCell_same w b 0 _ _ (.int .u8 x.k) h
  have h2 := heap_setCell_same _ b 1 _ _ (.int .u64 x.n) h1
  have h3 := heap_setCell_same _ b 2 _ _ (.int .u8 x.op) h2
  have h4 := heap_setCell_same _ b 3 _ _ (.int .u64 x.y) h3
  exact h4
theorem mc_other {b q : Nat} {y : Me} {w : World} (h : MC q y w) (hne : q ≠ b) (u0 u1 u2 u3 : Value) : MC q y ((((w.setCell ⟨b, 0, none⟩ u0).setCell ⟨b, 1, none⟩ u1).setCell ⟨b, 2, none⟩ u2).setCell ⟨b, 3, none⟩ u3) := by
  unfold MC
  rw [Below.heap_setCell _ _ _ _ hne, Below.heap_setCell _ _ _ _ hne, Below.heap_setCell _ _ _ _ hne, Below.heap_setCell _ _ _ _ hne]
  exact h
theorem cc_other {b q : Nat} {y : Ch} {w : World} (h : CC q y w) (hne : q ≠ b) (u0 u1 u2 u3 : Value) : CC q y ((((w.setCell ⟨b, 0, none⟩ u0).setCell ⟨b, 1, none⟩ u1).setCell ⟨b, 2, none⟩ u2).setCell ⟨b, 3, none⟩ u3) := by
  unfold CC
  rw [Below.heap_setCell _ _ _ _ hne, Below.heap_setCell _ _ _ _ hne, Below.heap_setCell _ _ _ _ hne, Below.heap_setCell _ _ _ _ hne]
  exact h
theorem bl_store {w W : World} (h : Bl w W) {b : Nat} (hb : w.heap.size ≤ b) (u0 u1 u2 u3 : Value) : Bl w ((((W.setCell ⟨b, 0, none⟩ u0).setCell ⟨b, 1, none⟩ u1).setCell ⟨b, 2, none⟩ u2).setCell ⟨b, 3, none⟩ u3) :=
  (((h.setCell hb _).setCell hb _).setCell hb _).setCell hb _


set_option maxRecDepth 100000 in
set_option maxHeartbeats 3200000 in
theorem metaBack_TTm (x : Me) (c : Ch) (L S U : List UInt8) (E G : Int) (x1 x2 : Me) (y1 y2 : Ch) (F1 H1 F2 H2 : Int) (S2 U2 : List UInt8) (E2 G2 : Int) (w : World) (hl : L.length ≤ 1000) (hB : BK x c L S U E G x1 x2 y1 y2 F1 H1 F2 H2 S2 U2 E2 G2) (hE : E = 0) (hF1 : F1 = 0) (hx1 : x = x1) (hG : G = 0) (hH1 : H1 = 0) (hy1 : c = y1) (hF2 : F2 = 0) (hH2 : H2 ≠ 0) (hS2 : L = S2) (hE2 : E2 = 0) :
    Calls Try.prog 13 #[.agg #[.int .u8 x.k, .int .u32 x.s, .int .u64 x.m, .int .u64 x.t], .agg #[.int .u8 c.k, .int .u64 c.n, .int .u8 c.op, .int .u64 c.y], .string (strL L)] w fun e w' => e = .returned (.bool true) ∧ Bl w w' := by
  have hsz := strL_size L
  have hd : decide ((1000 : Int) < (L.length : Int)) = false := decide_eq_false (by omega)
  obtain ⟨PU, TK1, PC, TC1, TK2, TC2, PU2, PC2⟩ := hB
  subst hE hF1 hx1
  subst hG hH1 hy1
  subst hF2 hS2 hE2
  replace PU := Lib.hid PU
  replace TK1 := Lib.hid TK1
  replace PC := Lib.hid PC
  replace TC1 := Lib.hid TC1
  replace TK2 := Lib.hid TK2
  replace TC2 := Lib.hid TC2
  replace PU2 := Lib.hid PU2
  replace PC2 := Lib.hid PC2
  have h1 : (H2 == 0) = false := by simpa using hH2
  have h2 : (H2 != 0) = true := by simpa using hH2
  have K1 := Lib.hid ((mc_new x w).alloc (cO73 c))
  have K2 := Lib.hid (cc_new1 c w (mO x))
  have N0 : Hid (Bl w ((w.alloc (mO x)).alloc (cO73 c))) := Lib.hid (((Bl.refl w).alloc _).alloc _)
  clear hl hH2
  go_enter Try.func13, Try.ntmps13
  go_wp2_with (first
    | (go_at_call 39; refine (mawake_any _).mono ?_; rintro e w9 ⟨rfl, h⟩; have B9 := Lib.hid h; clear h)
    | (go_at_call 49; have := N4; refine (PU2.out _).mono ?_; rintro e w8 ⟨rfl, h⟩; have B8 := Lib.hid h; clear h)
    | (go_at_call 43; have := N3; refine (TC2.out _).mono ?_; rintro e w7 ⟨rfl, h⟩; have P4 := Lib.hid (P3.out.bl h); have Q4 := Lib.hid (Q3.out.bl h); have N4 := Lib.hid (N3.out.trans h); clear p0 p1 p2 p3 pf0 pf1 pf2 pf3 q0 q1 q2 q3 qf0 qf1 qf2 qf3; obtain ⟨p0, p1, p2, p3, pf0, pf1, pf2, pf3⟩ := four_cells P4.out; obtain ⟨q0, q1, q2, q3, qf0, qf1, qf2, qf3⟩ := four_cells Q4.out; have P5 : Hid (MC w2.heap.size x2 ((((w7.setCell ⟨w4.heap.size, 0, none⟩ (.int .u8 y2.k)).setCell ⟨w4.heap.size, 1, none⟩ (.int .u64 y2.n)).setCell ⟨w4.heap.size, 2, none⟩ (.int .u8 y2.op)).setCell ⟨w4.heap.size, 3, none⟩ (.int .u64 y2.y))) := Lib.hid (mc_other P4.out (by have := NE.out; omega) _ _ _ _); have Q5 : Hid (CC w4.heap.size y2 ((((w7.setCell ⟨w4.heap.size, 0, none⟩ (.int .u8 y2.k)).setCell ⟨w4.heap.size, 1, none⟩ (.int .u64 y2.n)).setCell ⟨w4.heap.size, 2, none⟩ (.int .u8 y2.op)).setCell ⟨w4.heap.size, 3, none⟩ (.int .u64 y2.y))) := Lib.hid (cc_store Q4.out y2); obtain ⟨r0, r1, r2, r3, _, _, _, _⟩ := four_cells P5.out; obtain ⟨s0, s1, s2, s3, _, _, _, _⟩ := four_cells Q5.out; have N5 : Hid (Bl w ((((w7.setCell ⟨w4.heap.size, 0, none⟩ (.int .u8 y2.k)).setCell ⟨w4.heap.size, 1, none⟩ (.int .u64 y2.n)).setCell ⟨w4.heap.size, 2, none⟩ (.int .u8 y2.op)).setCell ⟨w4.heap.size, 3, none⟩ (.int .u64 y2.y))) := Lib.hid (bl_store N4.out (by have := SZ.out; have := NE.out; omega) _ _ _ _); clear h)
    | (go_at_call 51; have := N2; refine (TK2.out _).mono ?_; rintro e w6 ⟨rfl, h⟩; have P2 := Lib.hid (P1.out.bl h); have Q2 := Lib.hid (Q1.out.bl h); have N25 := Lib.hid (N2.out.trans h); have P3 : Hid (MC w2.heap.size x2 ((((w6.setCell ⟨w2.heap.size, 0, none⟩ (.int .u8 x2.k)).setCell ⟨w2.heap.size, 1, none⟩ (.int .u32 x2.s)).setCell ⟨w2.heap.size, 2, none⟩ (.int .u64 x2.m)).setCell ⟨w2.heap.size, 3, none⟩ (.int .u64 x2.t))) := Lib.hid (mc_store P2.out x2); have Q3 : Hid (CC w4.heap.size c ((((w6.setCell ⟨w2.heap.size, 0, none⟩ (.int .u8 x2.k)).setCell ⟨w2.heap.size, 1, none⟩ (.int .u32 x2.s)).setCell ⟨w2.heap.size, 2, none⟩ (.int .u64 x2.m)).setCell ⟨w2.heap.size, 3, none⟩ (.int .u64 x2.t))) := Lib.hid (cc_other Q2.out (by have := NE.out; omega) _ _ _ _); have N3 : Hid (Bl w ((((w6.setCell ⟨w2.heap.size, 0, none⟩ (.int .u8 x2.k)).setCell ⟨w2.heap.size, 1, none⟩ (.int .u32 x2.s)).setCell ⟨w2.heap.size, 2, none⟩ (.int .u64 x2.m)).setCell ⟨w2.heap.size, 3, none⟩ (.int .u64 x2.t))) := Lib.hid (bl_store N25.out (by have := SZ.out; omega) _ _ _ _); clear c0 c1 c2 c3 d0 d1 d2 d3 e0 e1 e2 e3 g0 g1 g2 g3; obtain ⟨p0, p1, p2, p3, pf0, pf1, pf2, pf3⟩ := four_cells P2.out; obtain ⟨q0, q1, q2, q3, qf0, qf1, qf2, qf3⟩ := four_cells Q2.out; clear h)
    | (go_at_call 43; refine (TC1.out _).mono ?_; rintro e w4 ⟨rfl, h⟩; have P1 := Lib.hid ((((mc_new x w2).bl B3.out).bl h).alloc (cO73 c)); have Q1 := Lib.hid (c73_new c w4); have XX := Lib.hid ((XB.out.bl h).alloc (cO73 c)); have CY := Lib.hid ((CB.out.bl h).alloc (cO73 c)); have N2 := Lib.hid ((N15.out.trans h).alloc (cO73 c)); have NE : Hid (w2.heap.size < w4.heap.size) := Lib.hid (Nat.lt_of_lt_of_le (alloc_lt w2 (mO x)) (Nat.le_trans B3.out.size h.size)); clear i0 i1 i2 i3; obtain ⟨c0, c1, c2, c3, _, _, _, _⟩ := four_cells XX.out; obtain ⟨d0, d1, d2, d3, _, _, _, _⟩ := four_cells CY.out; obtain ⟨e0, e1, e2, e3, _, _, _, _⟩ := four_cells P1.out; obtain ⟨g0, g1, g2, g3, _, _, _, _⟩ := four_cells Q1.out; clear h)
    | (go_at_call 40; refine (PC.out _).mono ?_; rintro e w3 ⟨rfl, h⟩; have B3 := Lib.hid h; have XB := Lib.hid (((XA.out.alloc (mO x))).bl h); have CB := Lib.hid (((CA.out.alloc (mO x))).bl h); have N15 := Lib.hid ((N1.out.alloc (mO x)).trans h); clear h)
    | (go_at_call 51; refine (TK1.out _).mono ?_; rintro e w2 ⟨rfl, h⟩; have XA := Lib.hid ((K1.out.bl B1.out).bl h); have CA := Lib.hid ((K2.out.bl B1.out).bl h); have N1 := Lib.hid ((N0.out.trans B1.out).trans h); have SZ : Hid (w.heap.size ≤ w2.heap.size) := Lib.hid ((N0.out.trans B1.out).trans h).size; obtain ⟨i0, i1, i2, i3, _, _, _, _⟩ := four_cells (CA.out.alloc (mO x)); clear h)
    | (go_at_call 49; refine (PU.out _).mono ?_; rintro e w1 ⟨rfl, h⟩; have B1 := Lib.hid h; clear h))
  go_ret
  exact ⟨rfl, (N5.out.trans B8.out).trans B9.out⟩

set_option maxRecDepth 100000 in
set_option maxHeartbeats 3200000 in
theorem metaBack_TTc (x : Me) (c : Ch) (L S U : List UInt8) (E G : Int) (x1 x2 : Me) (y1 y2 : Ch) (F1 H1 F2 H2 : Int) (S2 U2 : List UInt8) (E2 G2 : Int) (w : World) (hl : L.length ≤ 1000) (hB : BK x c L S U E G x1 x2 y1 y2 F1 H1 F2 H2 S2 U2 E2 G2) (hE : E = 0) (hF1 : F1 = 0) (hx1 : x = x1) (hG : G = 0) (hH1 : H1 = 0) (hy1 : c = y1) (hF2 : F2 ≠ 0) (hH2 : H2 = 0) (hU2 : L = U2) (hG2 : G2 = 0) :
    Calls Try.prog 13 #[.agg #[.int .u8 x.k, .int .u32 x.s, .int .u64 x.m, .int .u64 x.t], .agg #[.int .u8 c.k, .int .u64 c.n, .int .u8 c.op, .int .u64 c.y], .string (strL L)] w fun e w' => e = .returned (.bool true) ∧ Bl w w' := by
  have hsz := strL_size L
  have hd : decide ((1000 : Int) < (L.length : Int)) = false := decide_eq_false (by omega)
  obtain ⟨PU, TK1, PC, TC1, TK2, TC2, PU2, PC2⟩ := hB
  subst hE hF1 hx1
  subst hG hH1 hy1
  subst hH2 hU2 hG2
  replace PU := Lib.hid PU
  replace TK1 := Lib.hid TK1
  replace PC := Lib.hid PC
  replace TC1 := Lib.hid TC1
  replace TK2 := Lib.hid TK2
  replace TC2 := Lib.hid TC2
  replace PU2 := Lib.hid PU2
  replace PC2 := Lib.hid PC2
  have f1 : (F2 == 0) = false := by simpa using hF2
  have f2 : (F2 != 0) = true := by simpa using hF2
  have K1 := Lib.hid ((mc_new x w).alloc (cO73 c))
  have K2 := Lib.hid (cc_new1 c w (mO x))
  have N0 : Hid (Bl w ((w.alloc (mO x)).alloc (cO73 c))) := Lib.hid (((Bl.refl w).alloc _).alloc _)
  clear hl hF2
  go_enter Try.func13, Try.ntmps13
  go_wp2_with (first
    | (go_at_call 39; refine (mawake_any _).mono ?_; rintro e w9 ⟨rfl, h⟩; have B9 := Lib.hid h; clear h)
    | (go_at_call 40; have := N4; refine (PC2.out _).mono ?_; rintro e w8 ⟨rfl, h⟩; have B8 := Lib.hid h; clear h)
    | (go_at_call 43; have := N3; refine (TC2.out _).mono ?_; rintro e w7 ⟨rfl, h⟩; have P4 := Lib.hid (P3.out.bl h); have Q4 := Lib.hid (Q3.out.bl h); have N4 := Lib.hid (N3.out.trans h); clear p0 p1 p2 p3 pf0 pf1 pf2 pf3 q0 q1 q2 q3 qf0 qf1 qf2 qf3; obtain ⟨p0, p1, p2, p3, pf0, pf1, pf2, pf3⟩ := four_cells P4.out; obtain ⟨q0, q1, q2, q3, qf0, qf1, qf2, qf3⟩ := four_cells Q4.out; have P5 : Hid (MC w2.heap.size x2 ((((w7.setCell ⟨w4.heap.size, 0, none⟩ (.int .u8 y2.k)).setCell ⟨w4.heap.size, 1, none⟩ (.int .u64 y2.n)).setCell ⟨w4.heap.size, 2, none⟩ (.int .u8 y2.op)).setCell ⟨w4.heap.size, 3, none⟩ (.int .u64 y2.y))) := Lib.hid (mc_other P4.out (by have := NE.out; omega) _ _ _ _); have Q5 : Hid (CC w4.heap.size y2 ((((w7.setCell ⟨w4.heap.size, 0, none⟩ (.int .u8 y2.k)).setCell ⟨w4.heap.size, 1, none⟩ (.int .u64 y2.n)).setCell ⟨w4.heap.size, 2, none⟩ (.int .u8 y2.op)).setCell ⟨w4.heap.size, 3, none⟩ (.int .u64 y2.y))) := Lib.hid (cc_store Q4.out y2); obtain ⟨r0, r1, r2, r3, _, _, _, _⟩ := four_cells P5.out; obtain ⟨s0, s1, s2, s3, _, _, _, _⟩ := four_cells Q5.out; have N5 : Hid (Bl w ((((w7.setCell ⟨w4.heap.size, 0, none⟩ (.int .u8 y2.k)).setCell ⟨w4.heap.size, 1, none⟩ (.int .u64 y2.n)).setCell ⟨w4.heap.size, 2, none⟩ (.int .u8 y2.op)).setCell ⟨w4.heap.size, 3, none⟩ (.int .u64 y2.y))) := Lib.hid (bl_store N4.out (by have := SZ.out; have := NE.out; omega) _ _ _ _); clear h)
    | (go_at_call 51; have := N2; refine (TK2.out _).mono ?_; rintro e w6 ⟨rfl, h⟩; have P2 := Lib.hid (P1.out.bl h); have Q2 := Lib.hid (Q1.out.bl h); have N25 := Lib.hid (N2.out.trans h); have P3 : Hid (MC w2.heap.size x2 ((((w6.setCell ⟨w2.heap.size, 0, none⟩ (.int .u8 x2.k)).setCell ⟨w2.heap.size, 1, none⟩ (.int .u32 x2.s)).setCell ⟨w2.heap.size, 2, none⟩ (.int .u64 x2.m)).setCell ⟨w2.heap.size, 3, none⟩ (.int .u64 x2.t))) := Lib.hid (mc_store P2.out x2); have Q3 : Hid (CC w4.heap.size c ((((w6.setCell ⟨w2.heap.size, 0, none⟩ (.int .u8 x2.k)).setCell ⟨w2.heap.size, 1, none⟩ (.int .u32 x2.s)).setCell ⟨w2.heap.size, 2, none⟩ (.int .u64 x2.m)).setCell ⟨w2.heap.size, 3, none⟩ (.int .u64 x2.t))) := Lib.hid (cc_other Q2.out (by have := NE.out; omega) _ _ _ _); have N3 : Hid (Bl w ((((w6.setCell ⟨w2.heap.size, 0, none⟩ (.int .u8 x2.k)).setCell ⟨w2.heap.size, 1, none⟩ (.int .u32 x2.s)).setCell ⟨w2.heap.size, 2, none⟩ (.int .u64 x2.m)).setCell ⟨w2.heap.size, 3, none⟩ (.int .u64 x2.t))) := Lib.hid (bl_store N25.out (by have := SZ.out; omega) _ _ _ _); clear c0 c1 c2 c3 d0 d1 d2 d3 e0 e1 e2 e3 g0 g1 g2 g3; obtain ⟨p0, p1, p2, p3, pf0, pf1, pf2, pf3⟩ := four_cells P2.out; obtain ⟨q0, q1, q2, q3, qf0, qf1, qf2, qf3⟩ := four_cells Q2.out; clear h)
    | (go_at_call 43; refine (TC1.out _).mono ?_; rintro e w4 ⟨rfl, h⟩; have P1 := Lib.hid ((((mc_new x w2).bl B3.out).bl h).alloc (cO73 c)); have Q1 := Lib.hid (c73_new c w4); have XX := Lib.hid ((XB.out.bl h).alloc (cO73 c)); have CY := Lib.hid ((CB.out.bl h).alloc (cO73 c)); have N2 := Lib.hid ((N15.out.trans h).alloc (cO73 c)); have NE : Hid (w2.heap.size < w4.heap.size) := Lib.hid (Nat.lt_of_lt_of_le (alloc_lt w2 (mO x)) (Nat.le_trans B3.out.size h.size)); clear i0 i1 i2 i3; obtain ⟨c0, c1, c2, c3, _, _, _, _⟩ := four_cells XX.out; obtain ⟨d0, d1, d2, d3, _, _, _, _⟩ := four_cells CY.out; obtain ⟨e0, e1, e2, e3, _, _, _, _⟩ := four_cells P1.out; obtain ⟨g0, g1, g2, g3, _, _, _, _⟩ := four_cells Q1.out; clear h)
    | (go_at_call 40; refine (PC.out _).mono ?_; rintro e w3 ⟨rfl, h⟩; have B3 := Lib.hid h; have XB := Lib.hid (((XA.out.alloc (mO x))).bl h); have CB := Lib.hid (((CA.out.alloc (mO x))).bl h); have N15 := Lib.hid ((N1.out.alloc (mO x)).trans h); clear h)
    | (go_at_call 51; refine (TK1.out _).mono ?_; rintro e w2 ⟨rfl, h⟩; have XA := Lib.hid ((K1.out.bl B1.out).bl h); have CA := Lib.hid ((K2.out.bl B1.out).bl h); have N1 := Lib.hid ((N0.out.trans B1.out).trans h); have SZ : Hid (w.heap.size ≤ w2.heap.size) := Lib.hid ((N0.out.trans B1.out).trans h).size; obtain ⟨i0, i1, i2, i3, _, _, _, _⟩ := four_cells (CA.out.alloc (mO x)); clear h)
    | (go_at_call 49; refine (PU.out _).mono ?_; rintro e w1 ⟨rfl, h⟩; have B1 := Lib.hid h; clear h))
  go_ret
  exact ⟨rfl, (N5.out.trans B8.out).trans B9.out⟩

set_option maxRecDepth 100000 in
set_option maxHeartbeats 3200000 in
theorem metaBack_TTn (x : Me) (c : Ch) (L S U : List UInt8) (E G : Int) (x1 x2 : Me) (y1 y2 : Ch) (F1 H1 F2 H2 : Int) (S2 U2 : List UInt8) (E2 G2 : Int) (w : World) (hl : L.length ≤ 1000) (hB : BK x c L S U E G x1 x2 y1 y2 F1 H1 F2 H2 S2 U2 E2 G2) (hE : E = 0) (hF1 : F1 = 0) (hx1 : x = x1) (hG : G = 0) (hH1 : H1 = 0) (hy1 : c = y1) (hF2 : F2 ≠ 0) (hH2 : H2 ≠ 0) :
    Calls Try.prog 13 #[.agg #[.int .u8 x.k, .int .u32 x.s, .int .u64 x.m, .int .u64 x.t], .agg #[.int .u8 c.k, .int .u64 c.n, .int .u8 c.op, .int .u64 c.y], .string (strL L)] w fun e w' => e = .returned (.bool true) ∧ Bl w w' := by
  have hsz := strL_size L
  have hd : decide ((1000 : Int) < (L.length : Int)) = false := decide_eq_false (by omega)
  obtain ⟨PU, TK1, PC, TC1, TK2, TC2, PU2, PC2⟩ := hB
  subst hE hF1 hx1
  subst hG hH1 hy1
  skip
  replace PU := Lib.hid PU
  replace TK1 := Lib.hid TK1
  replace PC := Lib.hid PC
  replace TC1 := Lib.hid TC1
  replace TK2 := Lib.hid TK2
  replace TC2 := Lib.hid TC2
  replace PU2 := Lib.hid PU2
  replace PC2 := Lib.hid PC2
  have f1 : (F2 == 0) = false := by simpa using hF2
  have f2 : (F2 != 0) = true := by simpa using hF2
  have h1 : (H2 == 0) = false := by simpa using hH2
  have h2 : (H2 != 0) = true := by simpa using hH2
  have K1 := Lib.hid ((mc_new x w).alloc (cO73 c))
  have K2 := Lib.hid (cc_new1 c w (mO x))
  have N0 : Hid (Bl w ((w.alloc (mO x)).alloc (cO73 c))) := Lib.hid (((Bl.refl w).alloc _).alloc _)
  clear hl hF2 hH2
  go_enter Try.func13, Try.ntmps13
  go_wp2_with (first
    | (go_at_call 39; refine (mawake_any _).mono ?_; rintro e w9 ⟨rfl, h⟩; have B9 := Lib.hid h; clear h)
    | (go_at_call 43; have := N3; refine (TC2.out _).mono ?_; rintro e w7 ⟨rfl, h⟩; have P4 := Lib.hid (P3.out.bl h); have Q4 := Lib.hid (Q3.out.bl h); have N4 := Lib.hid (N3.out.trans h); clear p0 p1 p2 p3 pf0 pf1 pf2 pf3 q0 q1 q2 q3 qf0 qf1 qf2 qf3; obtain ⟨p0, p1, p2, p3, pf0, pf1, pf2, pf3⟩ := four_cells P4.out; obtain ⟨q0, q1, q2, q3, qf0, qf1, qf2, qf3⟩ := four_cells Q4.out; have P5 : Hid (MC w2.heap.size x2 ((((w7.setCell ⟨w4.heap.size, 0, none⟩ (.int .u8 y2.k)).setCell ⟨w4.heap.size, 1, none⟩ (.int .u64 y2.n)).setCell ⟨w4.heap.size, 2, none⟩ (.int .u8 y2.op)).setCell ⟨w4.heap.size, 3, none⟩ (.int .u64 y2.y))) := Lib.hid (mc_other P4.out (by have := NE.out; omega) _ _ _ _); have Q5 : Hid (CC w4.heap.size y2 ((((w7.setCell ⟨w4.heap.size, 0, none⟩ (.int .u8 y2.k)).setCell ⟨w4.heap.size, 1, none⟩ (.int .u64 y2.n)).setCell ⟨w4.heap.size, 2, none⟩ (.int .u8 y2.op)).setCell ⟨w4.heap.size, 3, none⟩ (.int .u64 y2.y))) := Lib.hid (cc_store Q4.out y2); obtain ⟨r0, r1, r2, r3, _, _, _, _⟩ := four_cells P5.out; obtain ⟨s0, s1, s2, s3, _, _, _, _⟩ := four_cells Q5.out; have N5 : Hid (Bl w ((((w7.setCell ⟨w4.heap.size, 0, none⟩ (.int .u8 y2.k)).setCell ⟨w4.heap.size, 1, none⟩ (.int .u64 y2.n)).setCell ⟨w4.heap.size, 2, none⟩ (.int .u8 y2.op)).setCell ⟨w4.heap.size, 3, none⟩ (.int .u64 y2.y))) := Lib.hid (bl_store N4.out (by have := SZ.out; have := NE.out; omega) _ _ _ _); clear h)
    | (go_at_call 51; have := N2; refine (TK2.out _).mono ?_; rintro e w6 ⟨rfl, h⟩; have P2 := Lib.hid (P1.out.bl h); have Q2 := Lib.hid (Q1.out.bl h); have N25 := Lib.hid (N2.out.trans h); have P3 : Hid (MC w2.heap.size x2 ((((w6.setCell ⟨w2.heap.size, 0, none⟩ (.int .u8 x2.k)).setCell ⟨w2.heap.size, 1, none⟩ (.int .u32 x2.s)).setCell ⟨w2.heap.size, 2, none⟩ (.int .u64 x2.m)).setCell ⟨w2.heap.size, 3, none⟩ (.int .u64 x2.t))) := Lib.hid (mc_store P2.out x2); have Q3 : Hid (CC w4.heap.size c ((((w6.setCell ⟨w2.heap.size, 0, none⟩ (.int .u8 x2.k)).setCell ⟨w2.heap.size, 1, none⟩ (.int .u32 x2.s)).setCell ⟨w2.heap.size, 2, none⟩ (.int .u64 x2.m)).setCell ⟨w2.heap.size, 3, none⟩ (.int .u64 x2.t))) := Lib.hid (cc_other Q2.out (by have := NE.out; omega) _ _ _ _); have N3 : Hid (Bl w ((((w6.setCell ⟨w2.heap.size, 0, none⟩ (.int .u8 x2.k)).setCell ⟨w2.heap.size, 1, none⟩ (.int .u32 x2.s)).setCell ⟨w2.heap.size, 2, none⟩ (.int .u64 x2.m)).setCell ⟨w2.heap.size, 3, none⟩ (.int .u64 x2.t))) := Lib.hid (bl_store N25.out (by have := SZ.out; omega) _ _ _ _); clear c0 c1 c2 c3 d0 d1 d2 d3 e0 e1 e2 e3 g0 g1 g2 g3; obtain ⟨p0, p1, p2, p3, pf0, pf1, pf2, pf3⟩ := four_cells P2.out; obtain ⟨q0, q1, q2, q3, qf0, qf1, qf2, qf3⟩ := four_cells Q2.out; clear h)
    | (go_at_call 43; refine (TC1.out _).mono ?_; rintro e w4 ⟨rfl, h⟩; have P1 := Lib.hid ((((mc_new x w2).bl B3.out).bl h).alloc (cO73 c)); have Q1 := Lib.hid (c73_new c w4); have XX := Lib.hid ((XB.out.bl h).alloc (cO73 c)); have CY := Lib.hid ((CB.out.bl h).alloc (cO73 c)); have N2 := Lib.hid ((N15.out.trans h).alloc (cO73 c)); have NE : Hid (w2.heap.size < w4.heap.size) := Lib.hid (Nat.lt_of_lt_of_le (alloc_lt w2 (mO x)) (Nat.le_trans B3.out.size h.size)); clear i0 i1 i2 i3; obtain ⟨c0, c1, c2, c3, _, _, _, _⟩ := four_cells XX.out; obtain ⟨d0, d1, d2, d3, _, _, _, _⟩ := four_cells CY.out; obtain ⟨e0, e1, e2, e3, _, _, _, _⟩ := four_cells P1.out; obtain ⟨g0, g1, g2, g3, _, _, _, _⟩ := four_cells Q1.out; clear h)
    | (go_at_call 40; refine (PC.out _).mono ?_; rintro e w3 ⟨rfl, h⟩; have B3 := Lib.hid h; have XB := Lib.hid (((XA.out.alloc (mO x))).bl h); have CB := Lib.hid (((CA.out.alloc (mO x))).bl h); have N15 := Lib.hid ((N1.out.alloc (mO x)).trans h); clear h)
    | (go_at_call 51; refine (TK1.out _).mono ?_; rintro e w2 ⟨rfl, h⟩; have XA := Lib.hid ((K1.out.bl B1.out).bl h); have CA := Lib.hid ((K2.out.bl B1.out).bl h); have N1 := Lib.hid ((N0.out.trans B1.out).trans h); have SZ : Hid (w.heap.size ≤ w2.heap.size) := Lib.hid ((N0.out.trans B1.out).trans h).size; obtain ⟨i0, i1, i2, i3, _, _, _, _⟩ := four_cells (CA.out.alloc (mO x)); clear h)
    | (go_at_call 49; refine (PU.out _).mono ?_; rintro e w1 ⟨rfl, h⟩; have B1 := Lib.hid h; clear h))
  go_ret
  exact ⟨rfl, (N5.out).trans B9.out⟩

set_option maxRecDepth 100000 in
set_option maxHeartbeats 3200000 in
theorem metaBack_TFm (x : Me) (c : Ch) (L S U : List UInt8) (E G : Int) (x1 x2 : Me) (y1 y2 : Ch) (F1 H1 F2 H2 : Int) (S2 U2 : List UInt8) (E2 G2 : Int) (w : World) (hl : L.length ≤ 1000) (hB : BK x c L S U E G x1 x2 y1 y2 F1 H1 F2 H2 S2 U2 E2 G2) (hE : E = 0) (hF1 : F1 = 0) (hx1 : x = x1) (hG : G = 4) (hF2 : F2 = 0) (hH2 : H2 ≠ 0) (hS2 : L = S2) (hE2 : E2 = 0) :
    Calls Try.prog 13 #[.agg #[.int .u8 x.k, .int .u32 x.s, .int .u64 x.m, .int .u64 x.t], .agg #[.int .u8 c.k, .int .u64 c.n, .int .u8 c.op, .int .u64 c.y], .string (strL L)] w fun e w' => e = .returned (.bool true) ∧ Bl w w' := by
  have hsz := strL_size L
  have hd : decide ((1000 : Int) < (L.length : Int)) = false := decide_eq_false (by omega)
  obtain ⟨PU, TK1, PC, TC1, TK2, TC2, PU2, PC2⟩ := hB
  subst hE hF1 hx1
  subst hG
  subst hF2 hS2 hE2
  replace PU := Lib.hid PU
  replace TK1 := Lib.hid TK1
  replace PC := Lib.hid PC
  replace TC1 := Lib.hid TC1
  replace TK2 := Lib.hid TK2
  replace TC2 := Lib.hid TC2
  replace PU2 := Lib.hid PU2
  replace PC2 := Lib.hid PC2
  have h1 : (H2 == 0) = false := by simpa using hH2
  have h2 : (H2 != 0) = true := by simpa using hH2
  have K1 := Lib.hid ((mc_new x w).alloc (cO73 c))
  have K2 := Lib.hid (cc_new1 c w (mO x))
  have N0 : Hid (Bl w ((w.alloc (mO x)).alloc (cO73 c))) := Lib.hid (((Bl.refl w).alloc _).alloc _)
  clear hl hH2
  go_enter Try.func13, Try.ntmps13
  go_wp2_with (first
    | (go_at_call 39; refine (mawake_any _).mono ?_; rintro e w9 ⟨rfl, h⟩; have B9 := Lib.hid h; clear h)
    | (go_at_call 49; have := N4; refine (PU2.out _).mono ?_; rintro e w8 ⟨rfl, h⟩; have B8 := Lib.hid h; clear h)
    | (go_at_call 43; have := N3; refine (TC2.out _).mono ?_; rintro e w7 ⟨rfl, h⟩; have P4 := Lib.hid (P3.out.bl h); have Q4 := Lib.hid (Q3.out.bl h); have N4 := Lib.hid (N3.out.trans h); clear p0 p1 p2 p3 pf0 pf1 pf2 pf3 q0 q1 q2 q3 qf0 qf1 qf2 qf3; obtain ⟨p0, p1, p2, p3, pf0, pf1, pf2, pf3⟩ := four_cells P4.out; obtain ⟨q0, q1, q2, q3, qf0, qf1, qf2, qf3⟩ := four_cells Q4.out; have P5 : Hid (MC w2.heap.size x2 ((((w7.setCell ⟨w4.heap.size, 0, none⟩ (.int .u8 y2.k)).setCell ⟨w4.heap.size, 1, none⟩ (.int .u64 y2.n)).setCell ⟨w4.heap.size, 2, none⟩ (.int .u8 y2.op)).setCell ⟨w4.heap.size, 3, none⟩ (.int .u64 y2.y))) := Lib.hid (mc_other P4.out (by have := NE.out; omega) _ _ _ _); have Q5 : Hid (CC w4.heap.size y2 ((((w7.setCell ⟨w4.heap.size, 0, none⟩ (.int .u8 y2.k)).setCell ⟨w4.heap.size, 1, none⟩ (.int .u64 y2.n)).setCell ⟨w4.heap.size, 2, none⟩ (.int .u8 y2.op)).setCell ⟨w4.heap.size, 3, none⟩ (.int .u64 y2.y))) := Lib.hid (cc_store Q4.out y2); obtain ⟨r0, r1, r2, r3, _, _, _, _⟩ := four_cells P5.out; obtain ⟨s0, s1, s2, s3, _, _, _, _⟩ := four_cells Q5.out; have N5 : Hid (Bl w ((((w7.setCell ⟨w4.heap.size, 0, none⟩ (.int .u8 y2.k)).setCell ⟨w4.heap.size, 1, none⟩ (.int .u64 y2.n)).setCell ⟨w4.heap.size, 2, none⟩ (.int .u8 y2.op)).setCell ⟨w4.heap.size, 3, none⟩ (.int .u64 y2.y))) := Lib.hid (bl_store N4.out (by have := SZ.out; have := NE.out; omega) _ _ _ _); clear h)
    | (go_at_call 51; have := N2; refine (TK2.out _).mono ?_; rintro e w6 ⟨rfl, h⟩; have P2 := Lib.hid (P1.out.bl h); have Q2 := Lib.hid (Q1.out.bl h); have N25 := Lib.hid (N2.out.trans h); have P3 : Hid (MC w2.heap.size x2 ((((w6.setCell ⟨w2.heap.size, 0, none⟩ (.int .u8 x2.k)).setCell ⟨w2.heap.size, 1, none⟩ (.int .u32 x2.s)).setCell ⟨w2.heap.size, 2, none⟩ (.int .u64 x2.m)).setCell ⟨w2.heap.size, 3, none⟩ (.int .u64 x2.t))) := Lib.hid (mc_store P2.out x2); have Q3 : Hid (CC w4.heap.size y1 ((((w6.setCell ⟨w2.heap.size, 0, none⟩ (.int .u8 x2.k)).setCell ⟨w2.heap.size, 1, none⟩ (.int .u32 x2.s)).setCell ⟨w2.heap.size, 2, none⟩ (.int .u64 x2.m)).setCell ⟨w2.heap.size, 3, none⟩ (.int .u64 x2.t))) := Lib.hid (cc_other Q2.out (by have := NE.out; omega) _ _ _ _); have N3 : Hid (Bl w ((((w6.setCell ⟨w2.heap.size, 0, none⟩ (.int .u8 x2.k)).setCell ⟨w2.heap.size, 1, none⟩ (.int .u32 x2.s)).setCell ⟨w2.heap.size, 2, none⟩ (.int .u64 x2.m)).setCell ⟨w2.heap.size, 3, none⟩ (.int .u64 x2.t))) := Lib.hid (bl_store N25.out (by have := SZ.out; omega) _ _ _ _); clear c0 c1 c2 c3 d0 d1 d2 d3 e0 e1 e2 e3 g0 g1 g2 g3; obtain ⟨p0, p1, p2, p3, pf0, pf1, pf2, pf3⟩ := four_cells P2.out; obtain ⟨q0, q1, q2, q3, qf0, qf1, qf2, qf3⟩ := four_cells Q2.out; clear h)
    | (go_at_call 43; refine (TC1.out _).mono ?_; rintro e w4 ⟨rfl, h⟩; have P1 := Lib.hid ((((mc_new x w2).bl B3.out).bl h).alloc (cO73 y1)); have Q1 := Lib.hid (c73_new y1 w4); have XX := Lib.hid ((XB.out.bl h).alloc (cO73 y1)); have CY := Lib.hid ((CB.out.bl h).alloc (cO73 y1)); have N2 := Lib.hid ((N15.out.trans h).alloc (cO73 y1)); have NE : Hid (w2.heap.size < w4.heap.size) := Lib.hid (Nat.lt_of_lt_of_le (alloc_lt w2 (mO x)) (Nat.le_trans B3.out.size h.size)); clear i0 i1 i2 i3; obtain ⟨c0, c1, c2, c3, _, _, _, _⟩ := four_cells XX.out; obtain ⟨d0, d1, d2, d3, _, _, _, _⟩ := four_cells CY.out; obtain ⟨e0, e1, e2, e3, _, _, _, _⟩ := four_cells P1.out; obtain ⟨g0, g1, g2, g3, _, _, _, _⟩ := four_cells Q1.out; clear h)
    | (go_at_call 40; refine (PC.out _).mono ?_; rintro e w3 ⟨rfl, h⟩; have B3 := Lib.hid h; have XB := Lib.hid (((XA.out.alloc (mO x))).bl h); have CB := Lib.hid (((CA.out.alloc (mO x))).bl h); have N15 := Lib.hid ((N1.out.alloc (mO x)).trans h); clear h)
    | (go_at_call 51; refine (TK1.out _).mono ?_; rintro e w2 ⟨rfl, h⟩; have XA := Lib.hid ((K1.out.bl B1.out).bl h); have CA := Lib.hid ((K2.out.bl B1.out).bl h); have N1 := Lib.hid ((N0.out.trans B1.out).trans h); have SZ : Hid (w.heap.size ≤ w2.heap.size) := Lib.hid ((N0.out.trans B1.out).trans h).size; obtain ⟨i0, i1, i2, i3, _, _, _, _⟩ := four_cells (CA.out.alloc (mO x)); clear h)
    | (go_at_call 49; refine (PU.out _).mono ?_; rintro e w1 ⟨rfl, h⟩; have B1 := Lib.hid h; clear h))
  go_ret
  exact ⟨rfl, (N5.out.trans B8.out).trans B9.out⟩

set_option maxRecDepth 100000 in
set_option maxHeartbeats 3200000 in
theorem metaBack_TFc (x : Me) (c : Ch) (L S U : List UInt8) (E G : Int) (x1 x2 : Me) (y1 y2 : Ch) (F1 H1 F2 H2 : Int) (S2 U2 : List UInt8) (E2 G2 : Int) (w : World) (hl : L.length ≤ 1000) (hB : BK x c L S U E G x1 x2 y1 y2 F1 H1 F2 H2 S2 U2 E2 G2) (hE : E = 0) (hF1 : F1 = 0) (hx1 : x = x1) (hG : G = 4) (hF2 : F2 ≠ 0) (hH2 : H2 = 0) (hU2 : L = U2) (hG2 : G2 = 0) :
    Calls Try.prog 13 #[.agg #[.int .u8 x.k, .int .u32 x.s, .int .u64 x.m, .int .u64 x.t], .agg #[.int .u8 c.k, .int .u64 c.n, .int .u8 c.op, .int .u64 c.y], .string (strL L)] w fun e w' => e = .returned (.bool true) ∧ Bl w w' := by
  have hsz := strL_size L
  have hd : decide ((1000 : Int) < (L.length : Int)) = false := decide_eq_false (by omega)
  obtain ⟨PU, TK1, PC, TC1, TK2, TC2, PU2, PC2⟩ := hB
  subst hE hF1 hx1
  subst hG
  subst hH2 hU2 hG2
  replace PU := Lib.hid PU
  replace TK1 := Lib.hid TK1
  replace PC := Lib.hid PC
  replace TC1 := Lib.hid TC1
  replace TK2 := Lib.hid TK2
  replace TC2 := Lib.hid TC2
  replace PU2 := Lib.hid PU2
  replace PC2 := Lib.hid PC2
  have f1 : (F2 == 0) = false := by simpa using hF2
  have f2 : (F2 != 0) = true := by simpa using hF2
  have K1 := Lib.hid ((mc_new x w).alloc (cO73 c))
  have K2 := Lib.hid (cc_new1 c w (mO x))
  have N0 : Hid (Bl w ((w.alloc (mO x)).alloc (cO73 c))) := Lib.hid (((Bl.refl w).alloc _).alloc _)
  clear hl hF2
  go_enter Try.func13, Try.ntmps13
  go_wp2_with (first
    | (go_at_call 39; refine (mawake_any _).mono ?_; rintro e w9 ⟨rfl, h⟩; have B9 := Lib.hid h; clear h)
    | (go_at_call 40; have := N4; refine (PC2.out _).mono ?_; rintro e w8 ⟨rfl, h⟩; have B8 := Lib.hid h; clear h)
    | (go_at_call 43; have := N3; refine (TC2.out _).mono ?_; rintro e w7 ⟨rfl, h⟩; have P4 := Lib.hid (P3.out.bl h); have Q4 := Lib.hid (Q3.out.bl h); have N4 := Lib.hid (N3.out.trans h); clear p0 p1 p2 p3 pf0 pf1 pf2 pf3 q0 q1 q2 q3 qf0 qf1 qf2 qf3; obtain ⟨p0, p1, p2, p3, pf0, pf1, pf2, pf3⟩ := four_cells P4.out; obtain ⟨q0, q1, q2, q3, qf0, qf1, qf2, qf3⟩ := four_cells Q4.out; have P5 : Hid (MC w2.heap.size x2 ((((w7.setCell ⟨w4.heap.size, 0, none⟩ (.int .u8 y2.k)).setCell ⟨w4.heap.size, 1, none⟩ (.int .u64 y2.n)).setCell ⟨w4.heap.size, 2, none⟩ (.int .u8 y2.op)).setCell ⟨w4.heap.size, 3, none⟩ (.int .u64 y2.y))) := Lib.hid (mc_other P4.out (by have := NE.out; omega) _ _ _ _); have Q5 : Hid (CC w4.heap.size y2 ((((w7.setCell ⟨w4.heap.size, 0, none⟩ (.int .u8 y2.k)).setCell ⟨w4.heap.size, 1, none⟩ (.int .u64 y2.n)).setCell ⟨w4.heap.size, 2, none⟩ (.int .u8 y2.op)).setCell ⟨w4.heap.size, 3, none⟩ (.int .u64 y2.y))) := Lib.hid (cc_store Q4.out y2); obtain ⟨r0, r1, r2, r3, _, _, _, _⟩ := four_cells P5.out; obtain ⟨s0, s1, s2, s3, _, _, _, _⟩ := four_cells Q5.out; have N5 : Hid (Bl w ((((w7.setCell ⟨w4.heap.size, 0, none⟩ (.int .u8 y2.k)).setCell ⟨w4.heap.size, 1, none⟩ (.int .u64 y2.n)).setCell ⟨w4.heap.size, 2, none⟩ (.int .u8 y2.op)).setCell ⟨w4.heap.size, 3, none⟩ (.int .u64 y2.y))) := Lib.hid (bl_store N4.out (by have := SZ.out; have := NE.out; omega) _ _ _ _); clear h)
    | (go_at_call 51; have := N2; refine (TK2.out _).mono ?_; rintro e w6 ⟨rfl, h⟩; have P2 := Lib.hid (P1.out.bl h); have Q2 := Lib.hid (Q1.out.bl h); have N25 := Lib.hid (N2.out.trans h); have P3 : Hid (MC w2.heap.size x2 ((((w6.setCell ⟨w2.heap.size, 0, none⟩ (.int .u8 x2.k)).setCell ⟨w2.heap.size, 1, none⟩ (.int .u32 x2.s)).setCell ⟨w2.heap.size, 2, none⟩ (.int .u64 x2.m)).setCell ⟨w2.heap.size, 3, none⟩ (.int .u64 x2.t))) := Lib.hid (mc_store P2.out x2); have Q3 : Hid (CC w4.heap.size y1 ((((w6.setCell ⟨w2.heap.size, 0, none⟩ (.int .u8 x2.k)).setCell ⟨w2.heap.size, 1, none⟩ (.int .u32 x2.s)).setCell ⟨w2.heap.size, 2, none⟩ (.int .u64 x2.m)).setCell ⟨w2.heap.size, 3, none⟩ (.int .u64 x2.t))) := Lib.hid (cc_other Q2.out (by have := NE.out; omega) _ _ _ _); have N3 : Hid (Bl w ((((w6.setCell ⟨w2.heap.size, 0, none⟩ (.int .u8 x2.k)).setCell ⟨w2.heap.size, 1, none⟩ (.int .u32 x2.s)).setCell ⟨w2.heap.size, 2, none⟩ (.int .u64 x2.m)).setCell ⟨w2.heap.size, 3, none⟩ (.int .u64 x2.t))) := Lib.hid (bl_store N25.out (by have := SZ.out; omega) _ _ _ _); clear c0 c1 c2 c3 d0 d1 d2 d3 e0 e1 e2 e3 g0 g1 g2 g3; obtain ⟨p0, p1, p2, p3, pf0, pf1, pf2, pf3⟩ := four_cells P2.out; obtain ⟨q0, q1, q2, q3, qf0, qf1, qf2, qf3⟩ := four_cells Q2.out; clear h)
    | (go_at_call 43; refine (TC1.out _).mono ?_; rintro e w4 ⟨rfl, h⟩; have P1 := Lib.hid ((((mc_new x w2).bl B3.out).bl h).alloc (cO73 y1)); have Q1 := Lib.hid (c73_new y1 w4); have XX := Lib.hid ((XB.out.bl h).alloc (cO73 y1)); have CY := Lib.hid ((CB.out.bl h).alloc (cO73 y1)); have N2 := Lib.hid ((N15.out.trans h).alloc (cO73 y1)); have NE : Hid (w2.heap.size < w4.heap.size) := Lib.hid (Nat.lt_of_lt_of_le (alloc_lt w2 (mO x)) (Nat.le_trans B3.out.size h.size)); clear i0 i1 i2 i3; obtain ⟨c0, c1, c2, c3, _, _, _, _⟩ := four_cells XX.out; obtain ⟨d0, d1, d2, d3, _, _, _, _⟩ := four_cells CY.out; obtain ⟨e0, e1, e2, e3, _, _, _, _⟩ := four_cells P1.out; obtain ⟨g0, g1, g2, g3, _, _, _, _⟩ := four_cells Q1.out; clear h)
    | (go_at_call 40; refine (PC.out _).mono ?_; rintro e w3 ⟨rfl, h⟩; have B3 := Lib.hid h; have XB := Lib.hid (((XA.out.alloc (mO x))).bl h); have CB := Lib.hid (((CA.out.alloc (mO x))).bl h); have N15 := Lib.hid ((N1.out.alloc (mO x)).trans h); clear h)
    | (go_at_call 51; refine (TK1.out _).mono ?_; rintro e w2 ⟨rfl, h⟩; have XA := Lib.hid ((K1.out.bl B1.out).bl h); have CA := Lib.hid ((K2.out.bl B1.out).bl h); have N1 := Lib.hid ((N0.out.trans B1.out).trans h); have SZ : Hid (w.heap.size ≤ w2.heap.size) := Lib.hid ((N0.out.trans B1.out).trans h).size; obtain ⟨i0, i1, i2, i3, _, _, _, _⟩ := four_cells (CA.out.alloc (mO x)); clear h)
    | (go_at_call 49; refine (PU.out _).mono ?_; rintro e w1 ⟨rfl, h⟩; have B1 := Lib.hid h; clear h))
  go_ret
  exact ⟨rfl, (N5.out.trans B8.out).trans B9.out⟩

set_option maxRecDepth 100000 in
set_option maxHeartbeats 3200000 in
theorem metaBack_TFn (x : Me) (c : Ch) (L S U : List UInt8) (E G : Int) (x1 x2 : Me) (y1 y2 : Ch) (F1 H1 F2 H2 : Int) (S2 U2 : List UInt8) (E2 G2 : Int) (w : World) (hl : L.length ≤ 1000) (hB : BK x c L S U E G x1 x2 y1 y2 F1 H1 F2 H2 S2 U2 E2 G2) (hE : E = 0) (hF1 : F1 = 0) (hx1 : x = x1) (hG : G = 4) (hF2 : F2 ≠ 0) (hH2 : H2 ≠ 0) :
    Calls Try.prog 13 #[.agg #[.int .u8 x.k, .int .u32 x.s, .int .u64 x.m, .int .u64 x.t], .agg #[.int .u8 c.k, .int .u64 c.n, .int .u8 c.op, .int .u64 c.y], .string (strL L)] w fun e w' => e = .returned (.bool true) ∧ Bl w w' := by
  have hsz := strL_size L
  have hd : decide ((1000 : Int) < (L.length : Int)) = false := decide_eq_false (by omega)
  obtain ⟨PU, TK1, PC, TC1, TK2, TC2, PU2, PC2⟩ := hB
  subst hE hF1 hx1
  subst hG
  skip
  replace PU := Lib.hid PU
  replace TK1 := Lib.hid TK1
  replace PC := Lib.hid PC
  replace TC1 := Lib.hid TC1
  replace TK2 := Lib.hid TK2
  replace TC2 := Lib.hid TC2
  replace PU2 := Lib.hid PU2
  replace PC2 := Lib.hid PC2
  have f1 : (F2 == 0) = false := by simpa using hF2
  have f2 : (F2 != 0) = true := by simpa using hF2
  have h1 : (H2 == 0) = false := by simpa using hH2
  have h2 : (H2 != 0) = true := by simpa using hH2
  have K1 := Lib.hid ((mc_new x w).alloc (cO73 c))
  have K2 := Lib.hid (cc_new1 c w (mO x))
  have N0 : Hid (Bl w ((w.alloc (mO x)).alloc (cO73 c))) := Lib.hid (((Bl.refl w).alloc _).alloc _)
  clear hl hF2 hH2
  go_enter Try.func13, Try.ntmps13
  go_wp2_with (first
    | (go_at_call 39; refine (mawake_any _).mono ?_; rintro e w9 ⟨rfl, h⟩; have B9 := Lib.hid h; clear h)
    | (go_at_call 43; have := N3; refine (TC2.out _).mono ?_; rintro e w7 ⟨rfl, h⟩; have P4 := Lib.hid (P3.out.bl h); have Q4 := Lib.hid (Q3.out.bl h); have N4 := Lib.hid (N3.out.trans h); clear p0 p1 p2 p3 pf0 pf1 pf2 pf3 q0 q1 q2 q3 qf0 qf1 qf2 qf3; obtain ⟨p0, p1, p2, p3, pf0, pf1, pf2, pf3⟩ := four_cells P4.out; obtain ⟨q0, q1, q2, q3, qf0, qf1, qf2, qf3⟩ := four_cells Q4.out; have P5 : Hid (MC w2.heap.size x2 ((((w7.setCell ⟨w4.heap.size, 0, none⟩ (.int .u8 y2.k)).setCell ⟨w4.heap.size, 1, none⟩ (.int .u64 y2.n)).setCell ⟨w4.heap.size, 2, none⟩ (.int .u8 y2.op)).setCell ⟨w4.heap.size, 3, none⟩ (.int .u64 y2.y))) := Lib.hid (mc_other P4.out (by have := NE.out; omega) _ _ _ _); have Q5 : Hid (CC w4.heap.size y2 ((((w7.setCell ⟨w4.heap.size, 0, none⟩ (.int .u8 y2.k)).setCell ⟨w4.heap.size, 1, none⟩ (.int .u64 y2.n)).setCell ⟨w4.heap.size, 2, none⟩ (.int .u8 y2.op)).setCell ⟨w4.heap.size, 3, none⟩ (.int .u64 y2.y))) := Lib.hid (cc_store Q4.out y2); obtain ⟨r0, r1, r2, r3, _, _, _, _⟩ := four_cells P5.out; obtain ⟨s0, s1, s2, s3, _, _, _, _⟩ := four_cells Q5.out; have N5 : Hid (Bl w ((((w7.setCell ⟨w4.heap.size, 0, none⟩ (.int .u8 y2.k)).setCell ⟨w4.heap.size, 1, none⟩ (.int .u64 y2.n)).setCell ⟨w4.heap.size, 2, none⟩ (.int .u8 y2.op)).setCell ⟨w4.heap.size, 3, none⟩ (.int .u64 y2.y))) := Lib.hid (bl_store N4.out (by have := SZ.out; have := NE.out; omega) _ _ _ _); clear h)
    | (go_at_call 51; have := N2; refine (TK2.out _).mono ?_; rintro e w6 ⟨rfl, h⟩; have P2 := Lib.hid (P1.out.bl h); have Q2 := Lib.hid (Q1.out.bl h); have N25 := Lib.hid (N2.out.trans h); have P3 : Hid (MC w2.heap.size x2 ((((w6.setCell ⟨w2.heap.size, 0, none⟩ (.int .u8 x2.k)).setCell ⟨w2.heap.size, 1, none⟩ (.int .u32 x2.s)).setCell ⟨w2.heap.size, 2, none⟩ (.int .u64 x2.m)).setCell ⟨w2.heap.size, 3, none⟩ (.int .u64 x2.t))) := Lib.hid (mc_store P2.out x2); have Q3 : Hid (CC w4.heap.size y1 ((((w6.setCell ⟨w2.heap.size, 0, none⟩ (.int .u8 x2.k)).setCell ⟨w2.heap.size, 1, none⟩ (.int .u32 x2.s)).setCell ⟨w2.heap.size, 2, none⟩ (.int .u64 x2.m)).setCell ⟨w2.heap.size, 3, none⟩ (.int .u64 x2.t))) := Lib.hid (cc_other Q2.out (by have := NE.out; omega) _ _ _ _); have N3 : Hid (Bl w ((((w6.setCell ⟨w2.heap.size, 0, none⟩ (.int .u8 x2.k)).setCell ⟨w2.heap.size, 1, none⟩ (.int .u32 x2.s)).setCell ⟨w2.heap.size, 2, none⟩ (.int .u64 x2.m)).setCell ⟨w2.heap.size, 3, none⟩ (.int .u64 x2.t))) := Lib.hid (bl_store N25.out (by have := SZ.out; omega) _ _ _ _); clear c0 c1 c2 c3 d0 d1 d2 d3 e0 e1 e2 e3 g0 g1 g2 g3; obtain ⟨p0, p1, p2, p3, pf0, pf1, pf2, pf3⟩ := four_cells P2.out; obtain ⟨q0, q1, q2, q3, qf0, qf1, qf2, qf3⟩ := four_cells Q2.out; clear h)
    | (go_at_call 43; refine (TC1.out _).mono ?_; rintro e w4 ⟨rfl, h⟩; have P1 := Lib.hid ((((mc_new x w2).bl B3.out).bl h).alloc (cO73 y1)); have Q1 := Lib.hid (c73_new y1 w4); have XX := Lib.hid ((XB.out.bl h).alloc (cO73 y1)); have CY := Lib.hid ((CB.out.bl h).alloc (cO73 y1)); have N2 := Lib.hid ((N15.out.trans h).alloc (cO73 y1)); have NE : Hid (w2.heap.size < w4.heap.size) := Lib.hid (Nat.lt_of_lt_of_le (alloc_lt w2 (mO x)) (Nat.le_trans B3.out.size h.size)); clear i0 i1 i2 i3; obtain ⟨c0, c1, c2, c3, _, _, _, _⟩ := four_cells XX.out; obtain ⟨d0, d1, d2, d3, _, _, _, _⟩ := four_cells CY.out; obtain ⟨e0, e1, e2, e3, _, _, _, _⟩ := four_cells P1.out; obtain ⟨g0, g1, g2, g3, _, _, _, _⟩ := four_cells Q1.out; clear h)
    | (go_at_call 40; refine (PC.out _).mono ?_; rintro e w3 ⟨rfl, h⟩; have B3 := Lib.hid h; have XB := Lib.hid (((XA.out.alloc (mO x))).bl h); have CB := Lib.hid (((CA.out.alloc (mO x))).bl h); have N15 := Lib.hid ((N1.out.alloc (mO x)).trans h); clear h)
    | (go_at_call 51; refine (TK1.out _).mono ?_; rintro e w2 ⟨rfl, h⟩; have XA := Lib.hid ((K1.out.bl B1.out).bl h); have CA := Lib.hid ((K2.out.bl B1.out).bl h); have N1 := Lib.hid ((N0.out.trans B1.out).trans h); have SZ : Hid (w.heap.size ≤ w2.heap.size) := Lib.hid ((N0.out.trans B1.out).trans h).size; obtain ⟨i0, i1, i2, i3, _, _, _, _⟩ := four_cells (CA.out.alloc (mO x)); clear h)
    | (go_at_call 49; refine (PU.out _).mono ?_; rintro e w1 ⟨rfl, h⟩; have B1 := Lib.hid h; clear h))
  go_ret
  exact ⟨rfl, (N5.out).trans B9.out⟩

set_option maxRecDepth 100000 in
set_option maxHeartbeats 3200000 in
theorem metaBack_FTm (x : Me) (c : Ch) (L S U : List UInt8) (E G : Int) (x1 x2 : Me) (y1 y2 : Ch) (F1 H1 F2 H2 : Int) (S2 U2 : List UInt8) (E2 G2 : Int) (w : World) (hl : L.length ≤ 1000) (hB : BK x c L S U E G x1 x2 y1 y2 F1 H1 F2 H2 S2 U2 E2 G2) (hE : E = 4) (hG : G = 0) (hH1 : H1 = 0) (hy1 : c = y1) (hF2 : F2 = 0) (hH2 : H2 ≠ 0) (hS2 : L = S2) (hE2 : E2 = 0) :
    Calls Try.prog 13 #[.agg #[.int .u8 x.k, .int .u32 x.s, .int .u64 x.m, .int .u64 x.t], .agg #[.int .u8 c.k, .int .u64 c.n, .int .u8 c.op, .int .u64 c.y], .string (strL L)] w fun e w' => e = .returned (.bool true) ∧ Bl w w' := by
  have hsz := strL_size L
  have hd : decide ((1000 : Int) < (L.length : Int)) = false := decide_eq_false (by omega)
  obtain ⟨PU, TK1, PC, TC1, TK2, TC2, PU2, PC2⟩ := hB
  subst hE
  subst hG hH1 hy1
  subst hF2 hS2 hE2
  replace PU := Lib.hid PU
  replace TK1 := Lib.hid TK1
  replace PC := Lib.hid PC
  replace TC1 := Lib.hid TC1
  replace TK2 := Lib.hid TK2
  replace TC2 := Lib.hid TC2
  replace PU2 := Lib.hid PU2
  replace PC2 := Lib.hid PC2
  have h1 : (H2 == 0) = false := by simpa using hH2
  have h2 : (H2 != 0) = true := by simpa using hH2
  have K1 := Lib.hid ((mc_new x w).alloc (cO73 c))
  have K2 := Lib.hid (cc_new1 c w (mO x))
  have N0 : Hid (Bl w ((w.alloc (mO x)).alloc (cO73 c))) := Lib.hid (((Bl.refl w).alloc _).alloc _)
  clear hl hH2
  go_enter Try.func13, Try.ntmps13
  go_wp2_with (first
    | (go_at_call 39; refine (mawake_any _).mono ?_; rintro e w9 ⟨rfl, h⟩; have B9 := Lib.hid h; clear h)
    | (go_at_call 49; have := N4; refine (PU2.out _).mono ?_; rintro e w8 ⟨rfl, h⟩; have B8 := Lib.hid h; clear h)
    | (go_at_call 43; have := N3; refine (TC2.out _).mono ?_; rintro e w7 ⟨rfl, h⟩; have P4 := Lib.hid (P3.out.bl h); have Q4 := Lib.hid (Q3.out.bl h); have N4 := Lib.hid (N3.out.trans h); clear p0 p1 p2 p3 pf0 pf1 pf2 pf3 q0 q1 q2 q3 qf0 qf1 qf2 qf3; obtain ⟨p0, p1, p2, p3, pf0, pf1, pf2, pf3⟩ := four_cells P4.out; obtain ⟨q0, q1, q2, q3, qf0, qf1, qf2, qf3⟩ := four_cells Q4.out; have P5 : Hid (MC w2.heap.size x2 ((((w7.setCell ⟨w4.heap.size, 0, none⟩ (.int .u8 y2.k)).setCell ⟨w4.heap.size, 1, none⟩ (.int .u64 y2.n)).setCell ⟨w4.heap.size, 2, none⟩ (.int .u8 y2.op)).setCell ⟨w4.heap.size, 3, none⟩ (.int .u64 y2.y))) := Lib.hid (mc_other P4.out (by have := NE.out; omega) _ _ _ _); have Q5 : Hid (CC w4.heap.size y2 ((((w7.setCell ⟨w4.heap.size, 0, none⟩ (.int .u8 y2.k)).setCell ⟨w4.heap.size, 1, none⟩ (.int .u64 y2.n)).setCell ⟨w4.heap.size, 2, none⟩ (.int .u8 y2.op)).setCell ⟨w4.heap.size, 3, none⟩ (.int .u64 y2.y))) := Lib.hid (cc_store Q4.out y2); obtain ⟨r0, r1, r2, r3, _, _, _, _⟩ := four_cells P5.out; obtain ⟨s0, s1, s2, s3, _, _, _, _⟩ := four_cells Q5.out; have N5 : Hid (Bl w ((((w7.setCell ⟨w4.heap.size, 0, none⟩ (.int .u8 y2.k)).setCell ⟨w4.heap.size, 1, none⟩ (.int .u64 y2.n)).setCell ⟨w4.heap.size, 2, none⟩ (.int .u8 y2.op)).setCell ⟨w4.heap.size, 3, none⟩ (.int .u64 y2.y))) := Lib.hid (bl_store N4.out (by have := SZ.out; have := NE.out; omega) _ _ _ _); clear h)
    | (go_at_call 51; have := N2; refine (TK2.out _).mono ?_; rintro e w6 ⟨rfl, h⟩; have P2 := Lib.hid (P1.out.bl h); have Q2 := Lib.hid (Q1.out.bl h); have N25 := Lib.hid (N2.out.trans h); have P3 : Hid (MC w2.heap.size x2 ((((w6.setCell ⟨w2.heap.size, 0, none⟩ (.int .u8 x2.k)).setCell ⟨w2.heap.size, 1, none⟩ (.int .u32 x2.s)).setCell ⟨w2.heap.size, 2, none⟩ (.int .u64 x2.m)).setCell ⟨w2.heap.size, 3, none⟩ (.int .u64 x2.t))) := Lib.hid (mc_store P2.out x2); have Q3 : Hid (CC w4.heap.size c ((((w6.setCell ⟨w2.heap.size, 0, none⟩ (.int .u8 x2.k)).setCell ⟨w2.heap.size, 1, none⟩ (.int .u32 x2.s)).setCell ⟨w2.heap.size, 2, none⟩ (.int .u64 x2.m)).setCell ⟨w2.heap.size, 3, none⟩ (.int .u64 x2.t))) := Lib.hid (cc_other Q2.out (by have := NE.out; omega) _ _ _ _); have N3 : Hid (Bl w ((((w6.setCell ⟨w2.heap.size, 0, none⟩ (.int .u8 x2.k)).setCell ⟨w2.heap.size, 1, none⟩ (.int .u32 x2.s)).setCell ⟨w2.heap.size, 2, none⟩ (.int .u64 x2.m)).setCell ⟨w2.heap.size, 3, none⟩ (.int .u64 x2.t))) := Lib.hid (bl_store N25.out (by have := SZ.out; omega) _ _ _ _); clear c0 c1 c2 c3 d0 d1 d2 d3 e0 e1 e2 e3 g0 g1 g2 g3; obtain ⟨p0, p1, p2, p3, pf0, pf1, pf2, pf3⟩ := four_cells P2.out; obtain ⟨q0, q1, q2, q3, qf0, qf1, qf2, qf3⟩ := four_cells Q2.out; clear h)
    | (go_at_call 43; refine (TC1.out _).mono ?_; rintro e w4 ⟨rfl, h⟩; have P1 := Lib.hid ((((mc_new x1 w2).bl B3.out).bl h).alloc (cO73 c)); have Q1 := Lib.hid (c73_new c w4); have XX := Lib.hid ((XB.out.bl h).alloc (cO73 c)); have CY := Lib.hid ((CB.out.bl h).alloc (cO73 c)); have N2 := Lib.hid ((N15.out.trans h).alloc (cO73 c)); have NE : Hid (w2.heap.size < w4.heap.size) := Lib.hid (Nat.lt_of_lt_of_le (alloc_lt w2 (mO x1)) (Nat.le_trans B3.out.size h.size)); clear i0 i1 i2 i3; obtain ⟨c0, c1, c2, c3, _, _, _, _⟩ := four_cells XX.out; obtain ⟨d0, d1, d2, d3, _, _, _, _⟩ := four_cells CY.out; obtain ⟨e0, e1, e2, e3, _, _, _, _⟩ := four_cells P1.out; obtain ⟨g0, g1, g2, g3, _, _, _, _⟩ := four_cells Q1.out; clear h)
    | (go_at_call 40; refine (PC.out _).mono ?_; rintro e w3 ⟨rfl, h⟩; have B3 := Lib.hid h; have XB := Lib.hid (((XA.out.alloc (mO x1))).bl h); have CB := Lib.hid (((CA.out.alloc (mO x1))).bl h); have N15 := Lib.hid ((N1.out.alloc (mO x1)).trans h); clear h)
    | (go_at_call 51; refine (TK1.out _).mono ?_; rintro e w2 ⟨rfl, h⟩; have XA := Lib.hid ((K1.out.bl B1.out).bl h); have CA := Lib.hid ((K2.out.bl B1.out).bl h); have N1 := Lib.hid ((N0.out.trans B1.out).trans h); have SZ : Hid (w.heap.size ≤ w2.heap.size) := Lib.hid ((N0.out.trans B1.out).trans h).size; obtain ⟨i0, i1, i2, i3, _, _, _, _⟩ := four_cells (CA.out.alloc (mO x1)); clear h)
    | (go_at_call 49; refine (PU.out _).mono ?_; rintro e w1 ⟨rfl, h⟩; have B1 := Lib.hid h; clear h))
  go_ret
  exact ⟨rfl, (N5.out.trans B8.out).trans B9.out⟩

set_option maxRecDepth 100000 in
set_option maxHeartbeats 3200000 in
theorem metaBack_FTc (x : Me) (c : Ch) (L S U : List UInt8) (E G : Int) (x1 x2 : Me) (y1 y2 : Ch) (F1 H1 F2 H2 : Int) (S2 U2 : List UInt8) (E2 G2 : Int) (w : World) (hl : L.length ≤ 1000) (hB : BK x c L S U E G x1 x2 y1 y2 F1 H1 F2 H2 S2 U2 E2 G2) (hE : E = 4) (hG : G = 0) (hH1 : H1 = 0) (hy1 : c = y1) (hF2 : F2 ≠ 0) (hH2 : H2 = 0) (hU2 : L = U2) (hG2 : G2 = 0) :
    Calls Try.prog 13 #[.agg #[.int .u8 x.k, .int .u32 x.s, .int .u64 x.m, .int .u64 x.t], .agg #[.int .u8 c.k, .int .u64 c.n, .int .u8 c.op, .int .u64 c.y], .string (strL L)] w fun e w' => e = .returned (.bool true) ∧ Bl w w' := by
  have hsz := strL_size L
  have hd : decide ((1000 : Int) < (L.length : Int)) = false := decide_eq_false (by omega)
  obtain ⟨PU, TK1, PC, TC1, TK2, TC2, PU2, PC2⟩ := hB
  subst hE
  subst hG hH1 hy1
  subst hH2 hU2 hG2
  replace PU := Lib.hid PU
  replace TK1 := Lib.hid TK1
  replace PC := Lib.hid PC
  replace TC1 := Lib.hid TC1
  replace TK2 := Lib.hid TK2
  replace TC2 := Lib.hid TC2
  replace PU2 := Lib.hid PU2
  replace PC2 := Lib.hid PC2
  have f1 : (F2 == 0) = false := by simpa using hF2
  have f2 : (F2 != 0) = true := by simpa using hF2
  have K1 := Lib.hid ((mc_new x w).alloc (cO73 c))
  have K2 := Lib.hid (cc_new1 c w (mO x))
  have N0 : Hid (Bl w ((w.alloc (mO x)).alloc (cO73 c))) := Lib.hid (((Bl.refl w).alloc _).alloc _)
  clear hl hF2
  go_enter Try.func13, Try.ntmps13
  go_wp2_with (first
    | (go_at_call 39; refine (mawake_any _).mono ?_; rintro e w9 ⟨rfl, h⟩; have B9 := Lib.hid h; clear h)
    | (go_at_call 40; have := N4; refine (PC2.out _).mono ?_; rintro e w8 ⟨rfl, h⟩; have B8 := Lib.hid h; clear h)
    | (go_at_call 43; have := N3; refine (TC2.out _).mono ?_; rintro e w7 ⟨rfl, h⟩; have P4 := Lib.hid (P3.out.bl h); have Q4 := Lib.hid (Q3.out.bl h); have N4 := Lib.hid (N3.out.trans h); clear p0 p1 p2 p3 pf0 pf1 pf2 pf3 q0 q1 q2 q3 qf0 qf1 qf2 qf3; obtain ⟨p0, p1, p2, p3, pf0, pf1, pf2, pf3⟩ := four_cells P4.out; obtain ⟨q0, q1, q2, q3, qf0, qf1, qf2, qf3⟩ := four_cells Q4.out; have P5 : Hid (MC w2.heap.size x2 ((((w7.setCell ⟨w4.heap.size, 0, none⟩ (.int .u8 y2.k)).setCell ⟨w4.heap.size, 1, none⟩ (.int .u64 y2.n)).setCell ⟨w4.heap.size, 2, none⟩ (.int .u8 y2.op)).setCell ⟨w4.heap.size, 3, none⟩ (.int .u64 y2.y))) := Lib.hid (mc_other P4.out (by have := NE.out; omega) _ _ _ _); have Q5 : Hid (CC w4.heap.size y2 ((((w7.setCell ⟨w4.heap.size, 0, none⟩ (.int .u8 y2.k)).setCell ⟨w4.heap.size, 1, none⟩ (.int .u64 y2.n)).setCell ⟨w4.heap.size, 2, none⟩ (.int .u8 y2.op)).setCell ⟨w4.heap.size, 3, none⟩ (.int .u64 y2.y))) := Lib.hid (cc_store Q4.out y2); obtain ⟨r0, r1, r2, r3, _, _, _, _⟩ := four_cells P5.out; obtain ⟨s0, s1, s2, s3, _, _, _, _⟩ := four_cells Q5.out; have N5 : Hid (Bl w ((((w7.setCell ⟨w4.heap.size, 0, none⟩ (.int .u8 y2.k)).setCell ⟨w4.heap.size, 1, none⟩ (.int .u64 y2.n)).setCell ⟨w4.heap.size, 2, none⟩ (.int .u8 y2.op)).setCell ⟨w4.heap.size, 3, none⟩ (.int .u64 y2.y))) := Lib.hid (bl_store N4.out (by have := SZ.out; have := NE.out; omega) _ _ _ _); clear h)
    | (go_at_call 51; have := N2; refine (TK2.out _).mono ?_; rintro e w6 ⟨rfl, h⟩; have P2 := Lib.hid (P1.out.bl h); have Q2 := Lib.hid (Q1.out.bl h); have N25 := Lib.hid (N2.out.trans h); have P3 : Hid (MC w2.heap.size x2 ((((w6.setCell ⟨w2.heap.size, 0, none⟩ (.int .u8 x2.k)).setCell ⟨w2.heap.size, 1, none⟩ (.int .u32 x2.s)).setCell ⟨w2.heap.size, 2, none⟩ (.int .u64 x2.m)).setCell ⟨w2.heap.size, 3, none⟩ (.int .u64 x2.t))) := Lib.hid (mc_store P2.out x2); have Q3 : Hid (CC w4.heap.size c ((((w6.setCell ⟨w2.heap.size, 0, none⟩ (.int .u8 x2.k)).setCell ⟨w2.heap.size, 1, none⟩ (.int .u32 x2.s)).setCell ⟨w2.heap.size, 2, none⟩ (.int .u64 x2.m)).setCell ⟨w2.heap.size, 3, none⟩ (.int .u64 x2.t))) := Lib.hid (cc_other Q2.out (by have := NE.out; omega) _ _ _ _); have N3 : Hid (Bl w ((((w6.setCell ⟨w2.heap.size, 0, none⟩ (.int .u8 x2.k)).setCell ⟨w2.heap.size, 1, none⟩ (.int .u32 x2.s)).setCell ⟨w2.heap.size, 2, none⟩ (.int .u64 x2.m)).setCell ⟨w2.heap.size, 3, none⟩ (.int .u64 x2.t))) := Lib.hid (bl_store N25.out (by have := SZ.out; omega) _ _ _ _); clear c0 c1 c2 c3 d0 d1 d2 d3 e0 e1 e2 e3 g0 g1 g2 g3; obtain ⟨p0, p1, p2, p3, pf0, pf1, pf2, pf3⟩ := four_cells P2.out; obtain ⟨q0, q1, q2, q3, qf0, qf1, qf2, qf3⟩ := four_cells Q2.out; clear h)
    | (go_at_call 43; refine (TC1.out _).mono ?_; rintro e w4 ⟨rfl, h⟩; have P1 := Lib.hid ((((mc_new x1 w2).bl B3.out).bl h).alloc (cO73 c)); have Q1 := Lib.hid (c73_new c w4); have XX := Lib.hid ((XB.out.bl h).alloc (cO73 c)); have CY := Lib.hid ((CB.out.bl h).alloc (cO73 c)); have N2 := Lib.hid ((N15.out.trans h).alloc (cO73 c)); have NE : Hid (w2.heap.size < w4.heap.size) := Lib.hid (Nat.lt_of_lt_of_le (alloc_lt w2 (mO x1)) (Nat.le_trans B3.out.size h.size)); clear i0 i1 i2 i3; obtain ⟨c0, c1, c2, c3, _, _, _, _⟩ := four_cells XX.out; obtain ⟨d0, d1, d2, d3, _, _, _, _⟩ := four_cells CY.out; obtain ⟨e0, e1, e2, e3, _, _, _, _⟩ := four_cells P1.out; obtain ⟨g0, g1, g2, g3, _, _, _, _⟩ := four_cells Q1.out; clear h)
    | (go_at_call 40; refine (PC.out _).mono ?_; rintro e w3 ⟨rfl, h⟩; have B3 := Lib.hid h; have XB := Lib.hid (((XA.out.alloc (mO x1))).bl h); have CB := Lib.hid (((CA.out.alloc (mO x1))).bl h); have N15 := Lib.hid ((N1.out.alloc (mO x1)).trans h); clear h)
    | (go_at_call 51; refine (TK1.out _).mono ?_; rintro e w2 ⟨rfl, h⟩; have XA := Lib.hid ((K1.out.bl B1.out).bl h); have CA := Lib.hid ((K2.out.bl B1.out).bl h); have N1 := Lib.hid ((N0.out.trans B1.out).trans h); have SZ : Hid (w.heap.size ≤ w2.heap.size) := Lib.hid ((N0.out.trans B1.out).trans h).size; obtain ⟨i0, i1, i2, i3, _, _, _, _⟩ := four_cells (CA.out.alloc (mO x1)); clear h)
    | (go_at_call 49; refine (PU.out _).mono ?_; rintro e w1 ⟨rfl, h⟩; have B1 := Lib.hid h; clear h))
  go_ret
  exact ⟨rfl, (N5.out.trans B8.out).trans B9.out⟩

set_option maxRecDepth 100000 in
set_option maxHeartbeats 3200000 in
theorem metaBack_FTn (x : Me) (c : Ch) (L S U : List UInt8) (E G : Int) (x1 x2 : Me) (y1 y2 : Ch) (F1 H1 F2 H2 : Int) (S2 U2 : List UInt8) (E2 G2 : Int) (w : World) (hl : L.length ≤ 1000) (hB : BK x c L S U E G x1 x2 y1 y2 F1 H1 F2 H2 S2 U2 E2 G2) (hE : E = 4) (hG : G = 0) (hH1 : H1 = 0) (hy1 : c = y1) (hF2 : F2 ≠ 0) (hH2 : H2 ≠ 0) :
    Calls Try.prog 13 #[.agg #[.int .u8 x.k, .int .u32 x.s, .int .u64 x.m, .int .u64 x.t], .agg #[.int .u8 c.k, .int .u64 c.n, .int .u8 c.op, .int .u64 c.y], .string (strL L)] w fun e w' => e = .returned (.bool true) ∧ Bl w w' := by
  have hsz := strL_size L
  have hd : decide ((1000 : Int) < (L.length : Int)) = false := decide_eq_false (by omega)
  obtain ⟨PU, TK1, PC, TC1, TK2, TC2, PU2, PC2⟩ := hB
  subst hE
  subst hG hH1 hy1
  skip
  replace PU := Lib.hid PU
  replace TK1 := Lib.hid TK1
  replace PC := Lib.hid PC
  replace TC1 := Lib.hid TC1
  replace TK2 := Lib.hid TK2
  replace TC2 := Lib.hid TC2
  replace PU2 := Lib.hid PU2
  replace PC2 := Lib.hid PC2
  have f1 : (F2 == 0) = false := by simpa using hF2
  have f2 : (F2 != 0) = true := by simpa using hF2
  have h1 : (H2 == 0) = false := by simpa using hH2
  have h2 : (H2 != 0) = true := by simpa using hH2
  have K1 := Lib.hid ((mc_new x w).alloc (cO73 c))
  have K2 := Lib.hid (cc_new1 c w (mO x))
  have N0 : Hid (Bl w ((w.alloc (mO x)).alloc (cO73 c))) := Lib.hid (((Bl.refl w).alloc _).alloc _)
  clear hl hF2 hH2
  go_enter Try.func13, Try.ntmps13
  go_wp2_with (first
    | (go_at_call 39; refine (mawake_any _).mono ?_; rintro e w9 ⟨rfl, h⟩; have B9 := Lib.hid h; clear h)
    | (go_at_call 43; have := N3; refine (TC2.out _).mono ?_; rintro e w7 ⟨rfl, h⟩; have P4 := Lib.hid (P3.out.bl h); have Q4 := Lib.hid (Q3.out.bl h); have N4 := Lib.hid (N3.out.trans h); clear p0 p1 p2 p3 pf0 pf1 pf2 pf3 q0 q1 q2 q3 qf0 qf1 qf2 qf3; obtain ⟨p0, p1, p2, p3, pf0, pf1, pf2, pf3⟩ := four_cells P4.out; obtain ⟨q0, q1, q2, q3, qf0, qf1, qf2, qf3⟩ := four_cells Q4.out; have P5 : Hid (MC w2.heap.size x2 ((((w7.setCell ⟨w4.heap.size, 0, none⟩ (.int .u8 y2.k)).setCell ⟨w4.heap.size, 1, none⟩ (.int .u64 y2.n)).setCell ⟨w4.heap.size, 2, none⟩ (.int .u8 y2.op)).setCell ⟨w4.heap.size, 3, none⟩ (.int .u64 y2.y))) := Lib.hid (mc_other P4.out (by have := NE.out; omega) _ _ _ _); have Q5 : Hid (CC w4.heap.size y2 ((((w7.setCell ⟨w4.heap.size, 0, none⟩ (.int .u8 y2.k)).setCell ⟨w4.heap.size, 1, none⟩ (.int .u64 y2.n)).setCell ⟨w4.heap.size, 2, none⟩ (.int .u8 y2.op)).setCell ⟨w4.heap.size, 3, none⟩ (.int .u64 y2.y))) := Lib.hid (cc_store Q4.out y2); obtain ⟨r0, r1, r2, r3, _, _, _, _⟩ := four_cells P5.out; obtain ⟨s0, s1, s2, s3, _, _, _, _⟩ := four_cells Q5.out; have N5 : Hid (Bl w ((((w7.setCell ⟨w4.heap.size, 0, none⟩ (.int .u8 y2.k)).setCell ⟨w4.heap.size, 1, none⟩ (.int .u64 y2.n)).setCell ⟨w4.heap.size, 2, none⟩ (.int .u8 y2.op)).setCell ⟨w4.heap.size, 3, none⟩ (.int .u64 y2.y))) := Lib.hid (bl_store N4.out (by have := SZ.out; have := NE.out; omega) _ _ _ _); clear h)
    | (go_at_call 51; have := N2; refine (TK2.out _).mono ?_; rintro e w6 ⟨rfl, h⟩; have P2 := Lib.hid (P1.out.bl h); have Q2 := Lib.hid (Q1.out.bl h); have N25 := Lib.hid (N2.out.trans h); have P3 : Hid (MC w2.heap.size x2 ((((w6.setCell ⟨w2.heap.size, 0, none⟩ (.int .u8 x2.k)).setCell ⟨w2.heap.size, 1, none⟩ (.int .u32 x2.s)).setCell ⟨w2.heap.size, 2, none⟩ (.int .u64 x2.m)).setCell ⟨w2.heap.size, 3, none⟩ (.int .u64 x2.t))) := Lib.hid (mc_store P2.out x2); have Q3 : Hid (CC w4.heap.size c ((((w6.setCell ⟨w2.heap.size, 0, none⟩ (.int .u8 x2.k)).setCell ⟨w2.heap.size, 1, none⟩ (.int .u32 x2.s)).setCell ⟨w2.heap.size, 2, none⟩ (.int .u64 x2.m)).setCell ⟨w2.heap.size, 3, none⟩ (.int .u64 x2.t))) := Lib.hid (cc_other Q2.out (by have := NE.out; omega) _ _ _ _); have N3 : Hid (Bl w ((((w6.setCell ⟨w2.heap.size, 0, none⟩ (.int .u8 x2.k)).setCell ⟨w2.heap.size, 1, none⟩ (.int .u32 x2.s)).setCell ⟨w2.heap.size, 2, none⟩ (.int .u64 x2.m)).setCell ⟨w2.heap.size, 3, none⟩ (.int .u64 x2.t))) := Lib.hid (bl_store N25.out (by have := SZ.out; omega) _ _ _ _); clear c0 c1 c2 c3 d0 d1 d2 d3 e0 e1 e2 e3 g0 g1 g2 g3; obtain ⟨p0, p1, p2, p3, pf0, pf1, pf2, pf3⟩ := four_cells P2.out; obtain ⟨q0, q1, q2, q3, qf0, qf1, qf2, qf3⟩ := four_cells Q2.out; clear h)
    | (go_at_call 43; refine (TC1.out _).mono ?_; rintro e w4 ⟨rfl, h⟩; have P1 := Lib.hid ((((mc_new x1 w2).bl B3.out).bl h).alloc (cO73 c)); have Q1 := Lib.hid (c73_new c w4); have XX := Lib.hid ((XB.out.bl h).alloc (cO73 c)); have CY := Lib.hid ((CB.out.bl h).alloc (cO73 c)); have N2 := Lib.hid ((N15.out.trans h).alloc (cO73 c)); have NE : Hid (w2.heap.size < w4.heap.size) := Lib.hid (Nat.lt_of_lt_of_le (alloc_lt w2 (mO x1)) (Nat.le_trans B3.out.size h.size)); clear i0 i1 i2 i3; obtain ⟨c0, c1, c2, c3, _, _, _, _⟩ := four_cells XX.out; obtain ⟨d0, d1, d2, d3, _, _, _, _⟩ := four_cells CY.out; obtain ⟨e0, e1, e2, e3, _, _, _, _⟩ := four_cells P1.out; obtain ⟨g0, g1, g2, g3, _, _, _, _⟩ := four_cells Q1.out; clear h)
    | (go_at_call 40; refine (PC.out _).mono ?_; rintro e w3 ⟨rfl, h⟩; have B3 := Lib.hid h; have XB := Lib.hid (((XA.out.alloc (mO x1))).bl h); have CB := Lib.hid (((CA.out.alloc (mO x1))).bl h); have N15 := Lib.hid ((N1.out.alloc (mO x1)).trans h); clear h)
    | (go_at_call 51; refine (TK1.out _).mono ?_; rintro e w2 ⟨rfl, h⟩; have XA := Lib.hid ((K1.out.bl B1.out).bl h); have CA := Lib.hid ((K2.out.bl B1.out).bl h); have N1 := Lib.hid ((N0.out.trans B1.out).trans h); have SZ : Hid (w.heap.size ≤ w2.heap.size) := Lib.hid ((N0.out.trans B1.out).trans h).size; obtain ⟨i0, i1, i2, i3, _, _, _, _⟩ := four_cells (CA.out.alloc (mO x1)); clear h)
    | (go_at_call 49; refine (PU.out _).mono ?_; rintro e w1 ⟨rfl, h⟩; have B1 := Lib.hid h; clear h))
  go_ret
  exact ⟨rfl, (N5.out).trans B9.out⟩

set_option maxRecDepth 100000 in
set_option maxHeartbeats 3200000 in
theorem metaBack_FFm (x : Me) (c : Ch) (L S U : List UInt8) (E G : Int) (x1 x2 : Me) (y1 y2 : Ch) (F1 H1 F2 H2 : Int) (S2 U2 : List UInt8) (E2 G2 : Int) (w : World) (hl : L.length ≤ 1000) (hB : BK x c L S U E G x1 x2 y1 y2 F1 H1 F2 H2 S2 U2 E2 G2) (hE : E = 4) (hG : G = 4) (hF2 : F2 = 0) (hH2 : H2 ≠ 0) (hS2 : L = S2) (hE2 : E2 = 0) :
    Calls Try.prog 13 #[.agg #[.int .u8 x.k, .int .u32 x.s, .int .u64 x.m, .int .u64 x.t], .agg #[.int .u8 c.k, .int .u64 c.n, .int .u8 c.op, .int .u64 c.y], .string (strL L)] w fun e w' => e = .returned (.bool true) ∧ Bl w w' := by
  have hsz := strL_size L
  have hd : decide ((1000 : Int) < (L.length : Int)) = false := decide_eq_false (by omega)
  obtain ⟨PU, TK1, PC, TC1, TK2, TC2, PU2, PC2⟩ := hB
  subst hE
  subst hG
  subst hF2 hS2 hE2
  replace PU := Lib.hid PU
  replace TK1 := Lib.hid TK1
  replace PC := Lib.hid PC
  replace TC1 := Lib.hid TC1
  replace TK2 := Lib.hid TK2
  replace TC2 := Lib.hid TC2
  replace PU2 := Lib.hid PU2
  replace PC2 := Lib.hid PC2
  have h1 : (H2 == 0) = false := by simpa using hH2
  have h2 : (H2 != 0) = true := by simpa using hH2
  have K1 := Lib.hid ((mc_new x w).alloc (cO73 c))
  have K2 := Lib.hid (cc_new1 c w (mO x))
  have N0 : Hid (Bl w ((w.alloc (mO x)).alloc (cO73 c))) := Lib.hid (((Bl.refl w).alloc _).alloc _)
  clear hl hH2
  go_enter Try.func13, Try.ntmps13
  go_wp2_with (first
    | (go_at_call 39; refine (mawake_any _).mono ?_; rintro e w9 ⟨rfl, h⟩; have B9 := Lib.hid h; clear h)
    | (go_at_call 49; have := N4; refine (PU2.out _).mono ?_; rintro e w8 ⟨rfl, h⟩; have B8 := Lib.hid h; clear h)
    | (go_at_call 43; have := N3; refine (TC2.out _).mono ?_; rintro e w7 ⟨rfl, h⟩; have P4 := Lib.hid (P3.out.bl h); have Q4 := Lib.hid (Q3.out.bl h); have N4 := Lib.hid (N3.out.trans h); clear p0 p1 p2 p3 pf0 pf1 pf2 pf3 q0 q1 q2 q3 qf0 qf1 qf2 qf3; obtain ⟨p0, p1, p2, p3, pf0, pf1, pf2, pf3⟩ := four_cells P4.out; obtain ⟨q0, q1, q2, q3, qf0, qf1, qf2, qf3⟩ := four_cells Q4.out; have P5 : Hid (MC w2.heap.size x2 ((((w7.setCell ⟨w4.heap.size, 0, none⟩ (.int .u8 y2.k)).setCell ⟨w4.heap.size, 1, none⟩ (.int .u64 y2.n)).setCell ⟨w4.heap.size, 2, none⟩ (.int .u8 y2.op)).setCell ⟨w4.heap.size, 3, none⟩ (.int .u64 y2.y))) := Lib.hid (mc_other P4.out (by have := NE.out; omega) _ _ _ _); have Q5 : Hid (CC w4.heap.size y2 ((((w7.setCell ⟨w4.heap.size, 0, none⟩ (.int .u8 y2.k)).setCell ⟨w4.heap.size, 1, none⟩ (.int .u64 y2.n)).setCell ⟨w4.heap.size, 2, none⟩ (.int .u8 y2.op)).setCell ⟨w4.heap.size, 3, none⟩ (.int .u64 y2.y))) := Lib.hid (cc_store Q4.out y2); obtain ⟨r0, r1, r2, r3, _, _, _, _⟩ := four_cells P5.out; obtain ⟨s0, s1, s2, s3, _, _, _, _⟩ := four_cells Q5.out; have N5 : Hid (Bl w ((((w7.setCell ⟨w4.heap.size, 0, none⟩ (.int .u8 y2.k)).setCell ⟨w4.heap.size, 1, none⟩ (.int .u64 y2.n)).setCell ⟨w4.heap.size, 2, none⟩ (.int .u8 y2.op)).setCell ⟨w4.heap.size, 3, none⟩ (.int .u64 y2.y))) := Lib.hid (bl_store N4.out (by have := SZ.out; have := NE.out; omega) _ _ _ _); clear h)
    | (go_at_call 51; have := N2; refine (TK2.out _).mono ?_; rintro e w6 ⟨rfl, h⟩; have P2 := Lib.hid (P1.out.bl h); have Q2 := Lib.hid (Q1.out.bl h); have N25 := Lib.hid (N2.out.trans h); have P3 : Hid (MC w2.heap.size x2 ((((w6.setCell ⟨w2.heap.size, 0, none⟩ (.int .u8 x2.k)).setCell ⟨w2.heap.size, 1, none⟩ (.int .u32 x2.s)).setCell ⟨w2.heap.size, 2, none⟩ (.int .u64 x2.m)).setCell ⟨w2.heap.size, 3, none⟩ (.int .u64 x2.t))) := Lib.hid (mc_store P2.out x2); have Q3 : Hid (CC w4.heap.size y1 ((((w6.setCell ⟨w2.heap.size, 0, none⟩ (.int .u8 x2.k)).setCell ⟨w2.heap.size, 1, none⟩ (.int .u32 x2.s)).setCell ⟨w2.heap.size, 2, none⟩ (.int .u64 x2.m)).setCell ⟨w2.heap.size, 3, none⟩ (.int .u64 x2.t))) := Lib.hid (cc_other Q2.out (by have := NE.out; omega) _ _ _ _); have N3 : Hid (Bl w ((((w6.setCell ⟨w2.heap.size, 0, none⟩ (.int .u8 x2.k)).setCell ⟨w2.heap.size, 1, none⟩ (.int .u32 x2.s)).setCell ⟨w2.heap.size, 2, none⟩ (.int .u64 x2.m)).setCell ⟨w2.heap.size, 3, none⟩ (.int .u64 x2.t))) := Lib.hid (bl_store N25.out (by have := SZ.out; omega) _ _ _ _); clear c0 c1 c2 c3 d0 d1 d2 d3 e0 e1 e2 e3 g0 g1 g2 g3; obtain ⟨p0, p1, p2, p3, pf0, pf1, pf2, pf3⟩ := four_cells P2.out; obtain ⟨q0, q1, q2, q3, qf0, qf1, qf2, qf3⟩ := four_cells Q2.out; clear h)
    | (go_at_call 43; refine (TC1.out _).mono ?_; rintro e w4 ⟨rfl, h⟩; have P1 := Lib.hid ((((mc_new x1 w2).bl B3.out).bl h).alloc (cO73 y1)); have Q1 := Lib.hid (c73_new y1 w4); have XX := Lib.hid ((XB.out.bl h).alloc (cO73 y1)); have CY := Lib.hid ((CB.out.bl h).alloc (cO73 y1)); have N2 := Lib.hid ((N15.out.trans h).alloc (cO73 y1)); have NE : Hid (w2.heap.size < w4.heap.size) := Lib.hid (Nat.lt_of_lt_of_le (alloc_lt w2 (mO x1)) (Nat.le_trans B3.out.size h.size)); clear i0 i1 i2 i3; obtain ⟨c0, c1, c2, c3, _, _, _, _⟩ := four_cells XX.out; obtain ⟨d0, d1, d2, d3, _, _, _, _⟩ := four_cells CY.out; obtain ⟨e0, e1, e2, e3, _, _, _, _⟩ := four_cells P1.out; obtain ⟨g0, g1, g2, g3, _, _, _, _⟩ := four_cells Q1.out; clear h)
    | (go_at_call 40; refine (PC.out _).mono ?_; rintro e w3 ⟨rfl, h⟩; have B3 := Lib.hid h; have XB := Lib.hid (((XA.out.alloc (mO x1))).bl h); have CB := Lib.hid (((CA.out.alloc (mO x1))).bl h); have N15 := Lib.hid ((N1.out.alloc (mO x1)).trans h); clear h)
    | (go_at_call 51; refine (TK1.out _).mono ?_; rintro e w2 ⟨rfl, h⟩; have XA := Lib.hid ((K1.out.bl B1.out).bl h); have CA := Lib.hid ((K2.out.bl B1.out).bl h); have N1 := Lib.hid ((N0.out.trans B1.out).trans h); have SZ : Hid (w.heap.size ≤ w2.heap.size) := Lib.hid ((N0.out.trans B1.out).trans h).size; obtain ⟨i0, i1, i2, i3, _, _, _, _⟩ := four_cells (CA.out.alloc (mO x1)); clear h)
    | (go_at_call 49; refine (PU.out _).mono ?_; rintro e w1 ⟨rfl, h⟩; have B1 := Lib.hid h; clear h))
  go_ret
  exact ⟨rfl, (N5.out.trans B8.out).trans B9.out⟩

set_option maxRecDepth 100000 in
set_option maxHeartbeats 3200000 in
theorem metaBack_FFc (x : Me) (c : Ch) (L S U : List UInt8) (E G : Int) (x1 x2 : Me) (y1 y2 : Ch) (F1 H1 F2 H2 : Int) (S2 U2 : List UInt8) (E2 G2 : Int) (w : World) (hl : L.length ≤ 1000) (hB : BK x c L S U E G x1 x2 y1 y2 F1 H1 F2 H2 S2 U2 E2 G2) (hE : E = 4) (hG : G = 4) (hF2 : F2 ≠ 0) (hH2 : H2 = 0) (hU2 : L = U2) (hG2 : G2 = 0) :
    Calls Try.prog 13 #[.agg #[.int .u8 x.k, .int .u32 x.s, .int .u64 x.m, .int .u64 x.t], .agg #[.int .u8 c.k, .int .u64 c.n, .int .u8 c.op, .int .u64 c.y], .string (strL L)] w fun e w' => e = .returned (.bool true) ∧ Bl w w' := by
  have hsz := strL_size L
  have hd : decide ((1000 : Int) < (L.length : Int)) = false := decide_eq_false (by omega)
  obtain ⟨PU, TK1, PC, TC1, TK2, TC2, PU2, PC2⟩ := hB
  subst hE
  subst hG
  subst hH2 hU2 hG2
  replace PU := Lib.hid PU
  replace TK1 := Lib.hid TK1
  replace PC := Lib.hid PC
  replace TC1 := Lib.hid TC1
  replace TK2 := Lib.hid TK2
  replace TC2 := Lib.hid TC2
  replace PU2 := Lib.hid PU2
  replace PC2 := Lib.hid PC2
  have f1 : (F2 == 0) = false := by simpa using hF2
  have f2 : (F2 != 0) = true := by simpa using hF2
  have K1 := Lib.hid ((mc_new x w).alloc (cO73 c))
  have K2 := Lib.hid (cc_new1 c w (mO x))
  have N0 : Hid (Bl w ((w.alloc (mO x)).alloc (cO73 c))) := Lib.hid (((Bl.refl w).alloc _).alloc _)
  clear hl hF2
  go_enter Try.func13, Try.ntmps13
  go_wp2_with (first
    | (go_at_call 39; refine (mawake_any _).mono ?_; rintro e w9 ⟨rfl, h⟩; have B9 := Lib.hid h; clear h)
    | (go_at_call 40; have := N4; refine (PC2.out _).mono ?_; rintro e w8 ⟨rfl, h⟩; have B8 := Lib.hid h; clear h)
    | (go_at_call 43; have := N3; refine (TC2.out _).mono ?_; rintro e w7 ⟨rfl, h⟩; have P4 := Lib.hid (P3.out.bl h); have Q4 := Lib.hid (Q3.out.bl h); have N4 := Lib.hid (N3.out.trans h); clear p0 p1 p2 p3 pf0 pf1 pf2 pf3 q0 q1 q2 q3 qf0 qf1 qf2 qf3; obtain ⟨p0, p1, p2, p3, pf0, pf1, pf2, pf3⟩ := four_cells P4.out; obtain ⟨q0, q1, q2, q3, qf0, qf1, qf2, qf3⟩ := four_cells Q4.out; have P5 : Hid (MC w2.heap.size x2 ((((w7.setCell ⟨w4.heap.size, 0, none⟩ (.int .u8 y2.k)).setCell ⟨w4.heap.size, 1, none⟩ (.int .u64 y2.n)).setCell ⟨w4.heap.size, 2, none⟩ (.int .u8 y2.op)).setCell ⟨w4.heap.size, 3, none⟩ (.int .u64 y2.y))) := Lib.hid (mc_other P4.out (by have := NE.out; omega) _ _ _ _); have Q5 : Hid (CC w4.heap.size y2 ((((w7.setCell ⟨w4.heap.size, 0, none⟩ (.int .u8 y2.k)).setCell ⟨w4.heap.size, 1, none⟩ (.int .u64 y2.n)).setCell ⟨w4.heap.size, 2, none⟩ (.int .u8 y2.op)).setCell ⟨w4.heap.size, 3, none⟩ (.int .u64 y2.y))) := Lib.hid (cc_store Q4.out y2); obtain ⟨r0, r1, r2, r3, _, _, _, _⟩ := four_cells P5.out; obtain ⟨s0, s1, s2, s3, _, _, _, _⟩ := four_cells Q5.out; have N5 : Hid (Bl w ((((w7.setCell ⟨w4.heap.size, 0, none⟩ (.int .u8 y2.k)).setCell ⟨w4.heap.size, 1, none⟩ (.int .u64 y2.n)).setCell ⟨w4.heap.size, 2, none⟩ (.int .u8 y2.op)).setCell ⟨w4.heap.size, 3, none⟩ (.int .u64 y2.y))) := Lib.hid (bl_store N4.out (by have := SZ.out; have := NE.out; omega) _ _ _ _); clear h)
    | (go_at_call 51; have := N2; refine (TK2.out _).mono ?_; rintro e w6 ⟨rfl, h⟩; have P2 := Lib.hid (P1.out.bl h); have Q2 := Lib.hid (Q1.out.bl h); have N25 := Lib.hid (N2.out.trans h); have P3 : Hid (MC w2.heap.size x2 ((((w6.setCell ⟨w2.heap.size, 0, none⟩ (.int .u8 x2.k)).setCell ⟨w2.heap.size, 1, none⟩ (.int .u32 x2.s)).setCell ⟨w2.heap.size, 2, none⟩ (.int .u64 x2.m)).setCell ⟨w2.heap.size, 3, none⟩ (.int .u64 x2.t))) := Lib.hid (mc_store P2.out x2); have Q3 : Hid (CC w4.heap.size y1 ((((w6.setCell ⟨w2.heap.size, 0, none⟩ (.int .u8 x2.k)).setCell ⟨w2.heap.size, 1, none⟩ (.int .u32 x2.s)).setCell ⟨w2.heap.size, 2, none⟩ (.int .u64 x2.m)).setCell ⟨w2.heap.size, 3, none⟩ (.int .u64 x2.t))) := Lib.hid (cc_other Q2.out (by have := NE.out; omega) _ _ _ _); have N3 : Hid (Bl w ((((w6.setCell ⟨w2.heap.size, 0, none⟩ (.int .u8 x2.k)).setCell ⟨w2.heap.size, 1, none⟩ (.int .u32 x2.s)).setCell ⟨w2.heap.size, 2, none⟩ (.int .u64 x2.m)).setCell ⟨w2.heap.size, 3, none⟩ (.int .u64 x2.t))) := Lib.hid (bl_store N25.out (by have := SZ.out; omega) _ _ _ _); clear c0 c1 c2 c3 d0 d1 d2 d3 e0 e1 e2 e3 g0 g1 g2 g3; obtain ⟨p0, p1, p2, p3, pf0, pf1, pf2, pf3⟩ := four_cells P2.out; obtain ⟨q0, q1, q2, q3, qf0, qf1, qf2, qf3⟩ := four_cells Q2.out; clear h)
    | (go_at_call 43; refine (TC1.out _).mono ?_; rintro e w4 ⟨rfl, h⟩; have P1 := Lib.hid ((((mc_new x1 w2).bl B3.out).bl h).alloc (cO73 y1)); have Q1 := Lib.hid (c73_new y1 w4); have XX := Lib.hid ((XB.out.bl h).alloc (cO73 y1)); have CY := Lib.hid ((CB.out.bl h).alloc (cO73 y1)); have N2 := Lib.hid ((N15.out.trans h).alloc (cO73 y1)); have NE : Hid (w2.heap.size < w4.heap.size) := Lib.hid (Nat.lt_of_lt_of_le (alloc_lt w2 (mO x1)) (Nat.le_trans B3.out.size h.size)); clear i0 i1 i2 i3; obtain ⟨c0, c1, c2, c3, _, _, _, _⟩ := four_cells XX.out; obtain ⟨d0, d1, d2, d3, _, _, _, _⟩ := four_cells CY.out; obtain ⟨e0, e1, e2, e3, _, _, _, _⟩ := four_cells P1.out; obtain ⟨g0, g1, g2, g3, _, _, _, _⟩ := four_cells Q1.out; clear h)
    | (go_at_call 40; refine (PC.out _).mono ?_; rintro e w3 ⟨rfl, h⟩; have B3 := Lib.hid h; have XB := Lib.hid (((XA.out.alloc (mO x1))).bl h); have CB := Lib.hid (((CA.out.alloc (mO x1))).bl h); have N15 := Lib.hid ((N1.out.alloc (mO x1)).trans h); clear h)
    | (go_at_call 51; refine (TK1.out _).mono ?_; rintro e w2 ⟨rfl, h⟩; have XA := Lib.hid ((K1.out.bl B1.out).bl h); have CA := Lib.hid ((K2.out.bl B1.out).bl h); have N1 := Lib.hid ((N0.out.trans B1.out).trans h); have SZ : Hid (w.heap.size ≤ w2.heap.size) := Lib.hid ((N0.out.trans B1.out).trans h).size; obtain ⟨i0, i1, i2, i3, _, _, _, _⟩ := four_cells (CA.out.alloc (mO x1)); clear h)
    | (go_at_call 49; refine (PU.out _).mono ?_; rintro e w1 ⟨rfl, h⟩; have B1 := Lib.hid h; clear h))
  go_ret
  exact ⟨rfl, (N5.out.trans B8.out).trans B9.out⟩

set_option maxRecDepth 100000 in
set_option maxHeartbeats 3200000 in
theorem metaBack_FFn (x : Me) (c : Ch) (L S U : List UInt8) (E G : Int) (x1 x2 : Me) (y1 y2 : Ch) (F1 H1 F2 H2 : Int) (S2 U2 : List UInt8) (E2 G2 : Int) (w : World) (hl : L.length ≤ 1000) (hB : BK x c L S U E G x1 x2 y1 y2 F1 H1 F2 H2 S2 U2 E2 G2) (hE : E = 4) (hG : G = 4) (hF2 : F2 ≠ 0) (hH2 : H2 ≠ 0) :
    Calls Try.prog 13 #[.agg #[.int .u8 x.k, .int .u32 x.s, .int .u64 x.m, .int .u64 x.t], .agg #[.int .u8 c.k, .int .u64 c.n, .int .u8 c.op, .int .u64 c.y], .string (strL L)] w fun e w' => e = .returned (.bool true) ∧ Bl w w' := by
  have hsz := strL_size L
  have hd : decide ((1000 : Int) < (L.length : Int)) = false := decide_eq_false (by omega)
  obtain ⟨PU, TK1, PC, TC1, TK2, TC2, PU2, PC2⟩ := hB
  subst hE
  subst hG
  skip
  replace PU := Lib.hid PU
  replace TK1 := Lib.hid TK1
  replace PC := Lib.hid PC
  replace TC1 := Lib.hid TC1
  replace TK2 := Lib.hid TK2
  replace TC2 := Lib.hid TC2
  replace PU2 := Lib.hid PU2
  replace PC2 := Lib.hid PC2
  have f1 : (F2 == 0) = false := by simpa using hF2
  have f2 : (F2 != 0) = true := by simpa using hF2
  have h1 : (H2 == 0) = false := by simpa using hH2
  have h2 : (H2 != 0) = true := by simpa using hH2
  have K1 := Lib.hid ((mc_new x w).alloc (cO73 c))
  have K2 := Lib.hid (cc_new1 c w (mO x))
  have N0 : Hid (Bl w ((w.alloc (mO x)).alloc (cO73 c))) := Lib.hid (((Bl.refl w).alloc _).alloc _)
  clear hl hF2 hH2
  go_enter Try.func13, Try.ntmps13
  go_wp2_with (first
    | (go_at_call 39; refine (mawake_any _).mono ?_; rintro e w9 ⟨rfl, h⟩; have B9 := Lib.hid h; clear h)
    | (go_at_call 43; have := N3; refine (TC2.out _).mono ?_; rintro e w7 ⟨rfl, h⟩; have P4 := Lib.hid (P3.out.bl h); have Q4 := Lib.hid (Q3.out.bl h); have N4 := Lib.hid (N3.out.trans h); clear p0 p1 p2 p3 pf0 pf1 pf2 pf3 q0 q1 q2 q3 qf0 qf1 qf2 qf3; obtain ⟨p0, p1, p2, p3, pf0, pf1, pf2, pf3⟩ := four_cells P4.out; obtain ⟨q0, q1, q2, q3, qf0, qf1, qf2, qf3⟩ := four_cells Q4.out; have P5 : Hid (MC w2.heap.size x2 ((((w7.setCell ⟨w4.heap.size, 0, none⟩ (.int .u8 y2.k)).setCell ⟨w4.heap.size, 1, none⟩ (.int .u64 y2.n)).setCell ⟨w4.heap.size, 2, none⟩ (.int .u8 y2.op)).setCell ⟨w4.heap.size, 3, none⟩ (.int .u64 y2.y))) := Lib.hid (mc_other P4.out (by have := NE.out; omega) _ _ _ _); have Q5 : Hid (CC w4.heap.size y2 ((((w7.setCell ⟨w4.heap.size, 0, none⟩ (.int .u8 y2.k)).setCell ⟨w4.heap.size, 1, none⟩ (.int .u64 y2.n)).setCell ⟨w4.heap.size, 2, none⟩ (.int .u8 y2.op)).setCell ⟨w4.heap.size, 3, none⟩ (.int .u64 y2.y))) := Lib.hid (cc_store Q4.out y2); obtain ⟨r0, r1, r2, r3, _, _, _, _⟩ := four_cells P5.out; obtain ⟨s0, s1, s2, s3, _, _, _, _⟩ := four_cells Q5.out; have N5 : Hid (Bl w ((((w7.setCell ⟨w4.heap.size, 0, none⟩ (.int .u8 y2.k)).setCell ⟨w4.heap.size, 1, none⟩ (.int .u64 y2.n)).setCell ⟨w4.heap.size, 2, none⟩ (.int .u8 y2.op)).setCell ⟨w4.heap.size, 3, none⟩ (.int .u64 y2.y))) := Lib.hid (bl_store N4.out (by have := SZ.out; have := NE.out; omega) _ _ _ _); clear h)
    | (go_at_call 51; have := N2; refine (TK2.out _).mono ?_; rintro e w6 ⟨rfl, h⟩; have P2 := Lib.hid (P1.out.bl h); have Q2 := Lib.hid (Q1.out.bl h); have N25 := Lib.hid (N2.out.trans h); have P3 : Hid (MC w2.heap.size x2 ((((w6.setCell ⟨w2.heap.size, 0, none⟩ (.int .u8 x2.k)).setCell ⟨w2.heap.size, 1, none⟩ (.int .u32 x2.s)).setCell ⟨w2.heap.size, 2, none⟩ (.int .u64 x2.m)).setCell ⟨w2.heap.size, 3, none⟩ (.int .u64 x2.t))) := Lib.hid (mc_store P2.out x2); have Q3 : Hid (CC w4.heap.size y1 ((((w6.setCell ⟨w2.heap.size, 0, none⟩ (.int .u8 x2.k)).setCell ⟨w2.heap.size, 1, none⟩ (.int .u32 x2.s)).setCell ⟨w2.heap.size, 2, none⟩ (.int .u64 x2.m)).setCell ⟨w2.heap.size, 3, none⟩ (.int .u64 x2.t))) := Lib.hid (cc_other Q2.out (by have := NE.out; omega) _ _ _ _); have N3 : Hid (Bl w ((((w6.setCell ⟨w2.heap.size, 0, none⟩ (.int .u8 x2.k)).setCell ⟨w2.heap.size, 1, none⟩ (.int .u32 x2.s)).setCell ⟨w2.heap.size, 2, none⟩ (.int .u64 x2.m)).setCell ⟨w2.heap.size, 3, none⟩ (.int .u64 x2.t))) := Lib.hid (bl_store N25.out (by have := SZ.out; omega) _ _ _ _); clear c0 c1 c2 c3 d0 d1 d2 d3 e0 e1 e2 e3 g0 g1 g2 g3; obtain ⟨p0, p1, p2, p3, pf0, pf1, pf2, pf3⟩ := four_cells P2.out; obtain ⟨q0, q1, q2, q3, qf0, qf1, qf2, qf3⟩ := four_cells Q2.out; clear h)
    | (go_at_call 43; refine (TC1.out _).mono ?_; rintro e w4 ⟨rfl, h⟩; have P1 := Lib.hid ((((mc_new x1 w2).bl B3.out).bl h).alloc (cO73 y1)); have Q1 := Lib.hid (c73_new y1 w4); have XX := Lib.hid ((XB.out.bl h).alloc (cO73 y1)); have CY := Lib.hid ((CB.out.bl h).alloc (cO73 y1)); have N2 := Lib.hid ((N15.out.trans h).alloc (cO73 y1)); have NE : Hid (w2.heap.size < w4.heap.size) := Lib.hid (Nat.lt_of_lt_of_le (alloc_lt w2 (mO x1)) (Nat.le_trans B3.out.size h.size)); clear i0 i1 i2 i3; obtain ⟨c0, c1, c2, c3, _, _, _, _⟩ := four_cells XX.out; obtain ⟨d0, d1, d2, d3, _, _, _, _⟩ := four_cells CY.out; obtain ⟨e0, e1, e2, e3, _, _, _, _⟩ := four_cells P1.out; obtain ⟨g0, g1, g2, g3, _, _, _, _⟩ := four_cells Q1.out; clear h)
    | (go_at_call 40; refine (PC.out _).mono ?_; rintro e w3 ⟨rfl, h⟩; have B3 := Lib.hid h; have XB := Lib.hid (((XA.out.alloc (mO x1))).bl h); have CB := Lib.hid (((CA.out.alloc (mO x1))).bl h); have N15 := Lib.hid ((N1.out.alloc (mO x1)).trans h); clear h)
    | (go_at_call 51; refine (TK1.out _).mono ?_; rintro e w2 ⟨rfl, h⟩; have XA := Lib.hid ((K1.out.bl B1.out).bl h); have CA := Lib.hid ((K2.out.bl B1.out).bl h); have N1 := Lib.hid ((N0.out.trans B1.out).trans h); have SZ : Hid (w.heap.size ≤ w2.heap.size) := Lib.hid ((N0.out.trans B1.out).trans h).size; obtain ⟨i0, i1, i2, i3, _, _, _, _⟩ := four_cells (CA.out.alloc (mO x1)); clear h)
    | (go_at_call 49; refine (PU.out _).mono ?_; rintro e w1 ⟨rfl, h⟩; have B1 := Lib.hid h; clear h))
  go_ret
  exact ⟨rfl, (N5.out).trans B9.out⟩

end Go.Proofs.Ytniblmpihnhglaa
