-- Printed by a copy of the print program over stub bodies; what stood in the stubs' place is hand-made (post.py)
import Derived.Test.YtniblmpihnhglaaRMOrderF
import Derived.Test.YtniblmpihnhglaaRM0
import Derived.Test.YtniblmpihnhglaaRMS
namespace Go.Proofs.Ytniblmpihnhglaa.Q
open Go.RowKit Go.Proofs.YtniblmpihnhglaaW.PrintWords Go.Proofs.YtniblmpihnhglaaW.PrintLast Go.Proofs.YtniblmpihnhglaaW.PrintMore
attribute [local go_sem] max2_int min2_int max_two min_two max_three min_three max_four min_four   -- for this text's walks alone
set_option linter.unusedVariables false
set_option linter.unusedSimpArgs false

abbrev MetaOrder.m0 : Array Bool := #[false, false, false, false, false, false, false, false, false, false, false, false]
abbrev MetaOrder.m1 : Array Bool := #[true, false, false, false, false, false, false, false, false, false, false, false]
abbrev MetaOrder.m2 : Array Bool := #[true, false, true, false, false, false, false, false, false, false, false, false]
abbrev MetaOrder.m3 : Array Bool := #[true, true, true, false, false, false, false, false, false, false, false, false]
abbrev MetaOrder.m4 : Array Bool := #[true, true, true, true, false, false, false, false, false, false, false, false]
abbrev MetaOrder.m5 : Array Bool := #[true, true, true, true, true, false, false, false, false, false, false, false]
abbrev MetaOrder.m6 : Array Bool := #[true, true, true, true, true, true, false, false, false, false, false, false]
abbrev MetaOrder.m7 : Array Bool := #[true, true, true, true, true, true, true, false, false, false, false, false]
abbrev MetaOrder.m8 : Array Bool := #[true, true, true, true, true, true, true, false, true, false, false, false]
abbrev MetaOrder.m9 : Array Bool := #[true, true, true, true, true, true, true, true, true, false, false, false]
abbrev MetaOrder.m10 : Array Bool := #[true, true, true, true, true, true, true, true, true, true, false, false]
abbrev MetaOrder.m11 : Array Bool := #[true, true, true, true, true, true, true, true, true, true, true, false]
abbrev MetaOrder.m12 : Array Bool := #[true, true, true, true, true, true, true, true, true, true, true, true]
abbrev MetaOrder.m13 : Array Bool := #[true, true, false, false, false, false, false, false, false, false, false, false]
abbrev MetaOrder.m14 : Array Bool := #[true, true, false, true, false, false, false, false, false, false, false, false]
abbrev MetaOrder.m15 : Array Bool := #[true, true, false, true, true, false, false, false, false, false, false, false]
abbrev MetaOrder.m16 : Array Bool := #[true, true, false, true, true, false, true, false, false, false, false, false]
abbrev MetaOrder.m17 : Array Bool := #[true, true, true, true, true, true, true, true, false, true, false, false]
abbrev MetaOrder.m18 : Array Bool := #[true, true, true, true, true, true, true, false, true, true, false, false]
abbrev MetaOrder.m19 : Array Bool := #[true, true, true, true, true, true, true, true, false, false, false, false]
abbrev MetaOrder.m20 : Array Bool := #[true, true, true, true, true, true, true, false, false, true, false, false]
abbrev MetaOrder.m21 : Array Bool := #[true, true, true, true, true, false, true, false, true, true, false, false]
abbrev MetaOrder.m22 : Array Bool := #[true, true, true, true, true, false, true, false, true, false, false, false]
abbrev MetaOrder.m23 : Array Bool := #[true, true, true, true, true, false, true, false, false, true, false, false]
abbrev MetaOrder.m24 : Array Bool := #[true, true, false, true, true, false, true, false, true, true, false, false]
abbrev MetaOrder.m25 : Array Bool := #[true, true, true, true, true, false, true, false, false, false, false, false]
abbrev MetaOrder.m26 : Array Bool := #[true, true, false, true, true, false, true, false, true, false, false, false]
abbrev MetaOrder.m27 : Array Bool := #[true, true, false, true, true, false, true, false, false, true, false, false]
abbrev MetaOrder.m28 : Array Bool := #[false, false, false, false, false, false, false, false, false, false, false, false, false, false, false, false, false, false, false, false]
abbrev MetaOrder.m29 : Array Bool := #[true, false, false, false, false, false, false, false, false, false, false, false, false, false, false, false, false, false, false, false]
abbrev MetaOrder.m30 : Array Bool := #[true, false, true, false, false, false, false, false, false, false, false, false, false, false, false, false, false, false, false, false]
abbrev MetaOrder.m31 : Array Bool := #[true, true, true, false, false, false, false, false, false, false, false, false, false, false, false, false, false, false, false, false]
abbrev MetaOrder.m32 : Array Bool := #[true, true, true, true, false, false, false, false, false, false, false, false, false, false, false, false, false, false, false, false]
abbrev MetaOrder.m33 : Array Bool := #[true, true, true, true, true, false, false, false, false, false, false, false, false, false, false, false, false, false, false, false]
abbrev MetaOrder.m34 : Array Bool := #[true, true, true, true, true, true, false, false, false, false, false, false, false, false, false, false, false, false, false, false]
abbrev MetaOrder.m35 : Array Bool := #[true, true, true, true, true, true, true, false, false, false, false, false, false, false, false, false, false, false, false, false]
abbrev MetaOrder.m36 : Array Bool := #[true, true, true, true, true, true, true, true, false, false, false, false, false, false, false, false, false, false, false, false]
abbrev MetaOrder.m37 : Array Bool := #[true, true, true, true, true, true, true, true, true, false, false, false, false, false, false, false, false, false, false, false]
abbrev MetaOrder.m38 : Array Bool := #[true, true, true, true, true, true, true, true, true, true, false, false, false, false, false, false, false, false, false, false]
abbrev MetaOrder.m39 : Array Bool := #[true, true, true, true, true, true, true, true, true, true, true, false, false, false, false, false, false, false, false, false]
abbrev MetaOrder.m40 : Array Bool := #[true, true, true, true, true, true, true, true, true, true, true, true, false, false, false, false, false, false, false, false]
abbrev MetaOrder.m41 : Array Bool := #[true, true, true, true, true, true, true, true, true, true, true, true, true, false, false, false, false, false, false, false]
abbrev MetaOrder.m42 : Array Bool := #[true, true, true, true, true, true, true, true, true, true, true, true, true, true, false, false, false, false, false, false]
abbrev MetaOrder.m43 : Array Bool := #[true, true, true, true, true, true, true, true, true, true, true, true, true, true, true, false, false, false, false, false]
abbrev MetaOrder.m44 : Array Bool := #[true, true, true, true, true, true, true, true, true, true, true, true, true, true, true, true, false, false, false, false]
abbrev MetaOrder.m45 : Array Bool := #[true, true, true, true, true, true, true, true, true, true, true, true, true, true, true, true, true, false, false, false]
abbrev MetaOrder.m46 : Array Bool := #[true, true, true, true, true, true, true, true, true, true, true, true, true, true, true, true, true, true, false, false]
abbrev MetaOrder.m47 : Array Bool := #[true, true, true, true, true, true, true, true, true, true, true, true, true, true, true, true, true, true, true, false]
abbrev MetaOrder.m48 : Array Bool := #[true, true, true, true, true, true, true, true, true, true, true, true, true, true, true, true, true, true, true, true]
abbrev MetaOrder.m49 : Array Bool := #[false, false, false, false, false, false, false, false, false, false]
abbrev MetaOrder.m50 : Array Bool := #[true, false, false, false, false, false, false, false, false, false]
abbrev MetaOrder.m51 : Array Bool := #[true, true, false, false, false, false, false, false, false, false]
abbrev MetaOrder.m52 : Array Bool := #[true, true, true, false, false, false, false, false, false, false]
abbrev MetaOrder.m53 : Array Bool := #[true, true, true, true, false, false, false, false, false, false]
abbrev MetaOrder.m54 : Array Bool := #[true, true, true, true, true, false, false, false, false, false]
abbrev MetaOrder.m55 : Array Bool := #[true, true, true, true, true, true, false, false, false, false]
abbrev MetaOrder.m56 : Array Bool := #[true, true, true, true, true, true, true, false, false, false]
abbrev MetaOrder.m57 : Array Bool := #[true, true, true, true, true, true, true, true, false, false]
abbrev MetaOrder.m58 : Array Bool := #[true, true, true, true, true, true, true, true, true, false]
abbrev MetaOrder.m59 : Array Bool := #[true, true, true, true, true, true, true, true, true, true]
abbrev MetaOrder.m60 : Array Bool := #[true, true, true, true, true, true, false, true, false, false]
abbrev C16 (g1 g2 g3 g4 : Nat) (p0 p1 p2 p3 p4 p5 p6 p7 p8 p9 p10 p11 p12 p13 p14 p15 : Int) (w : World) : Prop := w.cell? ⟨g1, 0, none⟩ = some (.int .u8 p0) ∧ w.cell? ⟨g1, 1, none⟩ = some (.int .u32 p1) ∧ w.cell? ⟨g1, 2, none⟩ = some (.int .u64 p2) ∧ w.cell? ⟨g1, 3, none⟩ = some (.int .u64 p3) ∧ w.cell? ⟨g2, 0, none⟩ = some (.int .u8 p4) ∧ w.cell? ⟨g2, 1, none⟩ = some (.int .u64 p5) ∧ w.cell? ⟨g2, 2, none⟩ = some (.int .u8 p6) ∧ w.cell? ⟨g2, 3, none⟩ = some (.int .u64 p7) ∧ w.cell? ⟨g3, 0, none⟩ = some (.int .u8 p8) ∧ w.cell? ⟨g3, 1, none⟩ = some (.int .u32 p9) ∧ w.cell? ⟨g3, 2, none⟩ = some (.int .u64 p10) ∧ w.cell? ⟨g3, 3, none⟩ = some (.int .u64 p11) ∧ w.cell? ⟨g4, 0, none⟩ = some (.int .u8 p12) ∧ w.cell? ⟨g4, 1, none⟩ = some (.int .u64 p13) ∧ w.cell? ⟨g4, 2, none⟩ = some (.int .u8 p14) ∧ w.cell? ⟨g4, 3, none⟩ = some (.int .u64 p15)
theorem n_at {g : Nat} {o : Obj} {w0 w : World} (h0 : Aside0 (w0.heap[g]? = some o)) (h : w.heap[g]? = some o := by ((with_reducible repeat (first | refine blk_drewN ?_ _ | refine blk_drew ?_ | refine blk_alloc ?_ _)); exact Aside0.out (by assumption))) : w.heap[g]? = some o := h
theorem n_hb {n : Nat} {w w0 w1 : World} (h0 : Aside0 (Below n w w0)) (h : Below n w w1 := by (repeat (first | (with_reducible first | exact Aside0.out (by assumption) | apply below_alloc | apply pw_below_drewN | apply below_drew1 | refine below_set ?_ (Aside0.out (by assumption))) | exact Aside0.out (by assumption)))) : Below n w w1 := h
theorem c4 {g t : Nat} {w : World} {a b c d : Value} {P : Prop} (h : Aside0 (w.heap[g]? = some (.cells #[a, b, c, d] t (0, 0)))) (p : P) : w.cell? ⟨g, 0, none⟩ = some a ∧ w.cell? ⟨g, 1, none⟩ = some b ∧ w.cell? ⟨g, 2, none⟩ = some c ∧ w.cell? ⟨g, 3, none⟩ = some d ∧ P := ⟨(blk_cell h.out 0).trans rfl, (blk_cell h.out 1).trans rfl, (blk_cell h.out 2).trans rfl, (blk_cell h.out 3).trans rfl, p⟩
theorem c4e {g t : Nat} {w : World} {a b c d : Value} (h : Aside0 (w.heap[g]? = some (.cells #[a, b, c, d] t (0, 0)))) : w.cell? ⟨g, 0, none⟩ = some a ∧ w.cell? ⟨g, 1, none⟩ = some b ∧ w.cell? ⟨g, 2, none⟩ = some c ∧ w.cell? ⟨g, 3, none⟩ = some d := ⟨(blk_cell h.out 0).trans rfl, (blk_cell h.out 1).trans rfl, (blk_cell h.out 2).trans rfl, (blk_cell h.out 3).trans rfl⟩
theorem n_blk {g : Nat} {o : Obj} {w0 w w' : World} (h0 : Aside0 (w0.heap[g]? = some o)) (hb : Below w.heap.size w w') (h : w.heap[g]? = some o := by ((with_reducible repeat (first | refine blk_drewN ?_ _ | refine blk_drew ?_ | refine blk_alloc ?_ _)); exact Aside0.out (by assumption))) : Aside0 (w'.heap[g]? = some o) := Aside0.mk (blk_below h hb)
theorem n_lt {g : Nat} {o : Obj} {w0 w : World} (h0 : Aside0 (w0.heap[g]? = some o)) (h : w.heap[g]? = some o := by ((with_reducible repeat (first | refine blk_drewN ?_ _ | refine blk_drew ?_ | refine blk_alloc ?_ _)); exact Aside0.out (by assumption))) : g < w.heap.size := blk_lt h
set_option maxHeartbeats 8000000 in
set_option maxRecDepth 100000 in
theorem rillbedlaw07_MetaOrder.calls (k : Nat) (a0_0 : Int) (a0_1 : Int) (a0_2 : Int) (a0_3 : Int) (a1_0 : Int) (a1_1 : Int) (a1_2 : Int) (a1_3 : Int) (a2_0 : Int) (a2_1 : Int) (a2_2 : Int) (a2_3 : Int)  (w : World) (h : rillbedlaw07_MetaOrder.f k a0_0 a0_1 a0_2 a0_3 a1_0 a1_1 a1_2 a1_3 a2_0 a2_1 a2_2 a2_3 = some true) :
  Calls Try.prog 10 #[.agg #[.int .u8 a0_0, .int .u32 a0_1, .int .u64 a0_2, .int .u64 a0_3], .agg #[.int .u8 a1_0, .int .u64 a1_1, .int .u8 a1_2, .int .u64 a1_3], .agg #[.int .u8 a2_0, .int .u64 a2_1, .int .u8 a2_2, .int .u64 a2_3]] w fun e w' => e = .returned (.bool true) ∧ Below w.heap.size w w' := by
 have hu85 := Try.underlying85
 have hu73 := Try.underlying73
 have HB := Aside0.mk (Below.refl w.heap.size w)
 have H : ((meta_Apply.f a0_0 a0_1 a0_2 a0_3 a1_0 a1_1 a1_2 a1_3).bind fun bt108 => ((meta_Check.f bt108.1 bt108.2.1 bt108.2.2.1 bt108.2.2.2).bind fun t113 => ((meta_Check.f a0_0 a0_1 a0_2 a0_3).bind fun t114 => (if t113 = t114 then (rillbedlaw07_MetaOrder.j0 k (bt108.1 != a0_0) a0_0 a0_1 a0_2 a0_3 a1_0 a1_1 a1_2 a1_3 a2_0 a2_1 a2_2 a2_3 bt108.1 bt108.2.1 bt108.2.2.1 bt108.2.2.2) else (rillbedlaw07_MetaOrder.j0 k true a0_0 a0_1 a0_2 a0_3 a1_0 a1_1 a1_2 a1_3 a2_0 a2_1 a2_2 a2_3 bt108.1 bt108.2.1 bt108.2.2.1 bt108.2.2.2))))) = some true := h
 clear h
 replace H := Option.bind_eq_some_iff.mp H
 obtain ⟨⟨t108, t109, t110, t111⟩, A40, H⟩ := H
 replace H : ((meta_Check.f t108 t109 t110 t111).bind fun t113 => ((meta_Check.f a0_0 a0_1 a0_2 a0_3).bind fun t114 => (if t113 = t114 then (rillbedlaw07_MetaOrder.j0 k (t108 != a0_0) a0_0 a0_1 a0_2 a0_3 a1_0 a1_1 a1_2 a1_3 a2_0 a2_1 a2_2 a2_3 t108 t109 t110 t111) else (rillbedlaw07_MetaOrder.j0 k true a0_0 a0_1 a0_2 a0_3 a1_0 a1_1 a1_2 a1_3 a2_0 a2_1 a2_2 a2_3 t108 t109 t110 t111)))) = some true := H
 have A4 := Aside0.mk A40
 clear A40
 have HC5 := Aside0.mk H
 clear H
 go_enter Try.func10, Try.ntmps10
 go_upto_region 2 with (first | ((with_reducible refine gate_dst (N := 3) rfl ?_); refine box_event ?hg (N := 3) ?hd (cs := #[.int .u8 a0_0, .int .u32 a0_1, .int .u64 a0_2, .int .u64 a0_3]) (t := 85) ?hr ?_; (case hd => rfl); (case hg => rfl); (case hr => first | (go_simp; done) | (go_simp; rfl)); intro gb105 hg w6 hbox hb; have n0_ := Aside0.mk (below_step (n_hb HB) hb); have n1_ := Aside0.mk (hbox); have n2_ := Aside0.mk ((by rw [hg]; exact (below_size (n_hb HB)) : w.heap.size ≤ gb105)); have n3_ := Aside0.mk ((by rw [hg]; exact (below_size (n_hb HB)) : w.heap.size ≤ gb105)); clear HB; have HB := n0_; have BK105 := n1_; have GW105 := n2_; have GE105 := n3_; clear n0_ n1_ n2_ n3_; clear hb hbox hg) | ((with_reducible refine gate_dst (N := 4) rfl ?_); refine box_event ?hg (N := 4) ?hd (cs := #[.int .u8 a1_0, .int .u64 a1_1, .int .u8 a1_2, .int .u64 a1_3]) (t := 73) ?hr ?_; (case hd => rfl); (case hg => rfl); (case hr => first | (go_simp; done) | (go_simp; rfl)); intro gb106 hg w7 hbox hb; have n0_ := n_blk BK105 hb; have n1_ := Aside0.mk (below_step (n_hb HB) hb); have n2_ := Aside0.mk (hbox); have n3_ := Aside0.mk ((by rw [hg]; exact (below_size (n_hb HB)) : w.heap.size ≤ gb106)); have n4_ := Aside0.mk ((by rw [hg]; exact (below_size (n_hb HB)) : w.heap.size ≤ gb106)); have n5_ := Aside0.mk ((by rw [hg]; exact Nat.ne_of_lt (n_lt BK105) : gb105 ≠ gb106)); have n6_ := Aside0.mk ((by rw [hg]; exact Nat.ne_of_gt (n_lt BK105) : gb106 ≠ gb105)); clear BK105; clear HB; have BK105 := n0_; have HB := n1_; have BK106 := n2_; have GW106 := n3_; have GE106 := n4_; have NB105_106 := n5_; have NB106_105 := n6_; clear n0_ n1_ n2_ n3_ n4_ n5_ n6_; clear hb hbox hg) | ((with_reducible refine gate_dst (N := 5) rfl ?_); refine box_event ?hg (N := 5) ?hd (cs := #[.int .u8 a2_0, .int .u64 a2_1, .int .u8 a2_2, .int .u64 a2_3]) (t := 73) ?hr ?_; (case hd => rfl); (case hg => rfl); (case hr => first | (go_simp; done) | (go_simp; rfl)); intro gb107 hg w8 hbox hb; have n0_ := n_blk BK105 hb; have n1_ := n_blk BK106 hb; have n2_ := Aside0.mk (below_step (n_hb HB) hb); have n3_ := Aside0.mk (hbox); have n4_ := Aside0.mk ((by rw [hg]; exact (below_size (n_hb HB)) : w.heap.size ≤ gb107)); have n5_ := Aside0.mk ((by rw [hg]; exact (below_size (n_hb HB)) : w.heap.size ≤ gb107)); have n6_ := Aside0.mk ((by rw [hg]; exact Nat.ne_of_lt (n_lt BK105) : gb105 ≠ gb107)); have n7_ := Aside0.mk ((by rw [hg]; exact Nat.ne_of_gt (n_lt BK105) : gb107 ≠ gb105)); have n8_ := Aside0.mk ((by rw [hg]; exact Nat.ne_of_lt (n_lt BK106) : gb106 ≠ gb107)); have n9_ := Aside0.mk ((by rw [hg]; exact Nat.ne_of_gt (n_lt BK106) : gb107 ≠ gb106)); clear BK105; clear BK106; clear HB; have BK105 := n0_; have BK106 := n1_; have HB := n2_; have BK107 := n3_; have GW107 := n4_; have GE107 := n5_; have NB105_107 := n6_; have NB107_105 := n7_; have NB106_107 := n8_; have NB107_106 := n9_; clear n0_ n1_ n2_ n3_ n4_ n5_ n6_ n7_ n8_ n9_; clear hb hbox hg; have hnb9 := NB105_106.out; have hnc9 := NB106_105.out; have hnb10 := NB105_107.out; have hnc10 := NB107_105.out; have hcz11_0 : w8.cell? ⟨gb105, 0, none⟩ = some (.int .u8 a0_0) := (blk_cell BK105.out 0).trans rfl; have hcz11_1 : w8.cell? ⟨gb105, 1, none⟩ = some (.int .u32 a0_1) := (blk_cell BK105.out 1).trans rfl; have hcz11_2 : w8.cell? ⟨gb105, 2, none⟩ = some (.int .u64 a0_2) := (blk_cell BK105.out 2).trans rfl; have hcz11_3 : w8.cell? ⟨gb105, 3, none⟩ = some (.int .u64 a0_3) := (blk_cell BK105.out 3).trans rfl; have hfz11_0 := blk_frozen BK105.out 0; have hfz11_1 := blk_frozen BK105.out 1; have hfz11_2 := blk_frozen BK105.out 2; have hfz11_3 := blk_frozen BK105.out 3; have hnb12 := NB106_107.out; have hnc12 := NB107_106.out; have hcz13_0 : w8.cell? ⟨gb106, 0, none⟩ = some (.int .u8 a1_0) := (blk_cell BK106.out 0).trans rfl; have hcz13_1 : w8.cell? ⟨gb106, 1, none⟩ = some (.int .u64 a1_1) := (blk_cell BK106.out 1).trans rfl; have hcz13_2 : w8.cell? ⟨gb106, 2, none⟩ = some (.int .u8 a1_2) := (blk_cell BK106.out 2).trans rfl; have hcz13_3 : w8.cell? ⟨gb106, 3, none⟩ = some (.int .u64 a1_3) := (blk_cell BK106.out 3).trans rfl; have hfz13_0 := blk_frozen BK106.out 0; have hfz13_1 := blk_frozen BK106.out 1; have hfz13_2 := blk_frozen BK106.out 2; have hfz13_3 := blk_frozen BK106.out 3) | ((with_reducible refine gate_callee (f := 45) rfl ?_); refine goesL_ (some 12) rfl rfl Try.func45 (by kernel_rfl) rfl #[.agg #[.int .u8 a0_0, .int .u32 a0_1, .int .u64 a0_2, .int .u64 a0_3], .agg #[.int .u8 a1_0, .int .u64 a1_1, .int .u8 a1_2, .int .u64 a1_3]] rfl (by (try simp only [List.map_toArray, List.map_cons, List.map_nil]); first | done | rfl | (simp only [List.length_drop, List.length_take]; rfl)) ?_; (with_reducible refine (meta_Apply.calls a0_0 a0_1 a0_2 a0_3 a1_0 a1_1 a1_2 a1_3 t108 t109 t110 t111 _ A4.out).mono ?_); rintro e w14 ⟨rfl, hb⟩; refine ⟨_, rfl, ?_⟩; have n0_ := n_blk BK105 hb; have n1_ := n_blk BK106 hb; have n2_ := n_blk BK107 hb; have n3_ := Aside0.mk (below_step (n_hb HB) hb); clear BK105; clear BK106; clear BK107; clear HB; have BK105 := n0_; have BK106 := n1_; have BK107 := n2_; have HB := n3_; clear n0_ n1_ n2_ n3_; (try clear hb); (try clear hb2); (try clear hk); (try clear hi)) | ((with_reducible refine gate_dst (N := 7) rfl ?_); refine box_event ?hg (N := 7) ?hd (cs := #[.int .u8 0, .int .u32 0, .int .u64 0, .int .u64 0]) (t := 85) ?hr ?_; (case hd => rfl); (case hg => rfl); (case hr => first | (go_simp; done) | (go_simp; rfl)); intro gb112 hg w15 hbox hb; have n0_ := n_blk BK105 hb; have n1_ := n_blk BK106 hb; have n2_ := n_blk BK107 hb; have n3_ := Aside0.mk (below_step (n_hb HB) hb); have n4_ := Aside0.mk (hbox); have n5_ := Aside0.mk ((by rw [hg]; exact (below_size (n_hb HB)) : w.heap.size ≤ gb112)); have n6_ := Aside0.mk ((by rw [hg]; exact (below_size (n_hb HB)) : w.heap.size ≤ gb112)); have n7_ := Aside0.mk ((by rw [hg]; exact Nat.ne_of_lt (n_lt BK105) : gb105 ≠ gb112)); have n8_ := Aside0.mk ((by rw [hg]; exact Nat.ne_of_gt (n_lt BK105) : gb112 ≠ gb105)); have n9_ := Aside0.mk ((by rw [hg]; exact Nat.ne_of_lt (n_lt BK106) : gb106 ≠ gb112)); have n10_ := Aside0.mk ((by rw [hg]; exact Nat.ne_of_gt (n_lt BK106) : gb112 ≠ gb106)); have n11_ := Aside0.mk ((by rw [hg]; exact Nat.ne_of_lt (n_lt BK107) : gb107 ≠ gb112)); have n12_ := Aside0.mk ((by rw [hg]; exact Nat.ne_of_gt (n_lt BK107) : gb112 ≠ gb107)); clear BK105; clear BK106; clear BK107; clear HB; have BK105 := n0_; have BK106 := n1_; have BK107 := n2_; have HB := n3_; have BK112 := n4_; have GW112 := n5_; have GE112 := n6_; have NB105_112 := n7_; have NB112_105 := n8_; have NB106_112 := n9_; have NB112_106 := n10_; have NB107_112 := n11_; have NB112_107 := n12_; clear n0_ n1_ n2_ n3_ n4_ n5_ n6_ n7_ n8_ n9_ n10_ n11_ n12_; clear hb hbox hg; have hnb16 := NB112_105.out; have hnc16 := NB105_112.out; have hnb17 := NB112_106.out; have hnc17 := NB106_112.out; have hnb18 := NB112_107.out; have hnc18 := NB107_112.out; have hcz19_0 : w15.cell? ⟨gb112, 0, none⟩ = some (.int .u8 0) := (blk_cell BK112.out 0).trans rfl; have hcz19_1 : w15.cell? ⟨gb112, 1, none⟩ = some (.int .u32 0) := (blk_cell BK112.out 1).trans rfl; have hcz19_2 : w15.cell? ⟨gb112, 2, none⟩ = some (.int .u64 0) := (blk_cell BK112.out 2).trans rfl; have hcz19_3 : w15.cell? ⟨gb112, 3, none⟩ = some (.int .u64 0) := (blk_cell BK112.out 3).trans rfl; have hfz19_0 := blk_frozen BK112.out 0; have hfz19_1 := blk_frozen BK112.out 1; have hfz19_2 := blk_frozen BK112.out 2; have hfz19_3 := blk_frozen BK112.out 3))
 (try simp only [Act.put, List.setIfInBounds_toArray, List.set_cons_zero, List.set_cons_succ])
 go_cut [24] (fun v24 wc => ∃ (kq : Nat) (x24_4 : Bool), v24 = .bool x24_4 ∧ Aside0 (rillbedlaw07_MetaOrder.j0 kq x24_4 a0_0 a0_1 a0_2 a0_3 a1_0 a1_1 a1_2 a1_3 a2_0 a2_1 a2_2 a2_3 t108 t109 t110 t111 = some true) ∧ Aside0 (kq ≤ k) ∧ Aside0 (wc.heap[gb105]? = some (.cells #[.int .u8 a0_0, .int .u32 a0_1, .int .u64 a0_2, .int .u64 a0_3] 85 (0, 0))) ∧ Aside0 (wc.heap[gb106]? = some (.cells #[.int .u8 a1_0, .int .u64 a1_1, .int .u8 a1_2, .int .u64 a1_3] 73 (0, 0))) ∧ Aside0 (wc.heap[gb107]? = some (.cells #[.int .u8 a2_0, .int .u64 a2_1, .int .u8 a2_2, .int .u64 a2_3] 73 (0, 0))) ∧ Aside0 (wc.heap[gb112]? = some (.cells #[.int .u8 t108, .int .u32 t109, .int .u64 t110, .int .u64 t111] 85 (0, 0))) ∧ Aside0 (Below w.heap.size w wc))
 case first =>
  have H := HC5.out
  clear HC5
  replace H := Option.bind_eq_some_iff.mp H
  obtain ⟨t113, A200, H⟩ := H
  replace H : ((meta_Check.f a0_0 a0_1 a0_2 a0_3).bind fun t114 => (if t113 = t114 then (rillbedlaw07_MetaOrder.j0 k (t108 != a0_0) a0_0 a0_1 a0_2 a0_3 a1_0 a1_1 a1_2 a1_3 a2_0 a2_1 a2_2 a2_3 t108 t109 t110 t111) else (rillbedlaw07_MetaOrder.j0 k true a0_0 a0_1 a0_2 a0_3 a1_0 a1_1 a1_2 a1_3 a2_0 a2_1 a2_2 a2_3 t108 t109 t110 t111))) = some true := H
  have A20 := Aside0.mk A200
  clear A200
  replace H := Option.bind_eq_some_iff.mp H
  obtain ⟨t114, A210, H⟩ := H
  replace H : (if t113 = t114 then (rillbedlaw07_MetaOrder.j0 k (t108 != a0_0) a0_0 a0_1 a0_2 a0_3 a1_0 a1_1 a1_2 a1_3 a2_0 a2_1 a2_2 a2_3 t108 t109 t110 t111) else (rillbedlaw07_MetaOrder.j0 k true a0_0 a0_1 a0_2 a0_3 a1_0 a1_1 a1_2 a1_3 a2_0 a2_1 a2_2 a2_3 t108 t109 t110 t111)) = some true := H
  have A21 := Aside0.mk A210
  clear A210
  by_cases c22 : t113 = t114
  ·rw [if_pos c22] at H
   have c22b0 : (t113 == t114) = true := beq_iff_eq.mpr c22
   have c22b1 : (t113 != t114) = false := bne_eq_false_iff_eq.mpr c22
   clear c22
   (first | rw [c22b0] | (simp only [i64_w, i32_w]; rw [c22b0]) | skip)
   have H' := Aside0.mk H
   clear H
   try go_wp2
   have n0_ : Aside0 (((((w15.setCell ⟨gb112, 0, none⟩ (.int .u8 t108)).setCell ⟨gb112, 1, none⟩ (.int .u32 t109)).setCell ⟨gb112, 2, none⟩ (.int .u64 t110)).setCell ⟨gb112, 3, none⟩ (.int .u64 t111)).heap[gb105]? = some (.cells #[.int .u8 a0_0, .int .u32 a0_1, .int .u64 a0_2, .int .u64 a0_3] 85 (0, 0))) := ⟨by (with_reducible repeat (first | refine blk_drewN ?_ _ | refine blk_drew ?_ | refine blk_alloc ?_ _)); refine blk_far ?_ NB105_112.out _; (with_reducible repeat (first | refine blk_drewN ?_ _ | refine blk_drew ?_ | refine blk_alloc ?_ _)); refine blk_far ?_ NB105_112.out _; (with_reducible repeat (first | refine blk_drewN ?_ _ | refine blk_drew ?_ | refine blk_alloc ?_ _)); refine blk_far ?_ NB105_112.out _; (with_reducible repeat (first | refine blk_drewN ?_ _ | refine blk_drew ?_ | refine blk_alloc ?_ _)); refine blk_far ?_ NB105_112.out _; (with_reducible repeat (first | refine blk_drewN ?_ _ | refine blk_drew ?_ | refine blk_alloc ?_ _)); exact BK105.out⟩
   have n1_ : Aside0 (((((w15.setCell ⟨gb112, 0, none⟩ (.int .u8 t108)).setCell ⟨gb112, 1, none⟩ (.int .u32 t109)).setCell ⟨gb112, 2, none⟩ (.int .u64 t110)).setCell ⟨gb112, 3, none⟩ (.int .u64 t111)).heap[gb106]? = some (.cells #[.int .u8 a1_0, .int .u64 a1_1, .int .u8 a1_2, .int .u64 a1_3] 73 (0, 0))) := ⟨by (with_reducible repeat (first | refine blk_drewN ?_ _ | refine blk_drew ?_ | refine blk_alloc ?_ _)); refine blk_far ?_ NB106_112.out _; (with_reducible repeat (first | refine blk_drewN ?_ _ | refine blk_drew ?_ | refine blk_alloc ?_ _)); refine blk_far ?_ NB106_112.out _; (with_reducible repeat (first | refine blk_drewN ?_ _ | refine blk_drew ?_ | refine blk_alloc ?_ _)); refine blk_far ?_ NB106_112.out _; (with_reducible repeat (first | refine blk_drewN ?_ _ | refine blk_drew ?_ | refine blk_alloc ?_ _)); refine blk_far ?_ NB106_112.out _; (with_reducible repeat (first | refine blk_drewN ?_ _ | refine blk_drew ?_ | refine blk_alloc ?_ _)); exact BK106.out⟩
   have n2_ : Aside0 (((((w15.setCell ⟨gb112, 0, none⟩ (.int .u8 t108)).setCell ⟨gb112, 1, none⟩ (.int .u32 t109)).setCell ⟨gb112, 2, none⟩ (.int .u64 t110)).setCell ⟨gb112, 3, none⟩ (.int .u64 t111)).heap[gb107]? = some (.cells #[.int .u8 a2_0, .int .u64 a2_1, .int .u8 a2_2, .int .u64 a2_3] 73 (0, 0))) := ⟨by (with_reducible repeat (first | refine blk_drewN ?_ _ | refine blk_drew ?_ | refine blk_alloc ?_ _)); refine blk_far ?_ NB107_112.out _; (with_reducible repeat (first | refine blk_drewN ?_ _ | refine blk_drew ?_ | refine blk_alloc ?_ _)); refine blk_far ?_ NB107_112.out _; (with_reducible repeat (first | refine blk_drewN ?_ _ | refine blk_drew ?_ | refine blk_alloc ?_ _)); refine blk_far ?_ NB107_112.out _; (with_reducible repeat (first | refine blk_drewN ?_ _ | refine blk_drew ?_ | refine blk_alloc ?_ _)); refine blk_far ?_ NB107_112.out _; (with_reducible repeat (first | refine blk_drewN ?_ _ | refine blk_drew ?_ | refine blk_alloc ?_ _)); exact BK107.out⟩
   have n3_ : Aside0 (((((w15.setCell ⟨gb112, 0, none⟩ (.int .u8 t108)).setCell ⟨gb112, 1, none⟩ (.int .u32 t109)).setCell ⟨gb112, 2, none⟩ (.int .u64 t110)).setCell ⟨gb112, 3, none⟩ (.int .u64 t111)).heap[gb112]? = some (.cells #[.int .u8 t108, .int .u32 t109, .int .u64 t110, .int .u64 t111] 85 (0, 0))) := ⟨by (with_reducible repeat (first | refine blk_drewN ?_ _ | refine blk_drew ?_ | refine blk_alloc ?_ _)); refine blk_put (cs := #[.int .u8 t108, .int .u32 t109, .int .u64 t110, .int .u64 0]) ?_ 3 _ rfl; (with_reducible repeat (first | refine blk_drewN ?_ _ | refine blk_drew ?_ | refine blk_alloc ?_ _)); refine blk_put (cs := #[.int .u8 t108, .int .u32 t109, .int .u64 0, .int .u64 0]) ?_ 2 _ rfl; (with_reducible repeat (first | refine blk_drewN ?_ _ | refine blk_drew ?_ | refine blk_alloc ?_ _)); refine blk_put (cs := #[.int .u8 t108, .int .u32 0, .int .u64 0, .int .u64 0]) ?_ 1 _ rfl; (with_reducible repeat (first | refine blk_drewN ?_ _ | refine blk_drew ?_ | refine blk_alloc ?_ _)); refine blk_put (cs := #[.int .u8 0, .int .u32 0, .int .u64 0, .int .u64 0]) ?_ 0 _ rfl; (with_reducible repeat (first | refine blk_drewN ?_ _ | refine blk_drew ?_ | refine blk_alloc ?_ _)); exact BK112.out⟩
   have n4_ : Aside0 (Below w.heap.size w ((((w15.setCell ⟨gb112, 0, none⟩ (.int .u8 t108)).setCell ⟨gb112, 1, none⟩ (.int .u32 t109)).setCell ⟨gb112, 2, none⟩ (.int .u64 t110)).setCell ⟨gb112, 3, none⟩ (.int .u64 t111))) := ⟨by repeat (first | (with_reducible first | exact HB.out | apply below_alloc | apply pw_below_drewN | apply below_drew1 | refine below_set ?_ GE105.out | refine below_set ?_ GE106.out | refine below_set ?_ GE107.out | refine below_set ?_ GE112.out) | exact HB.out)⟩
   (try clear BK105); (try clear BK106); (try clear BK107); (try clear BK112); (try clear HB)
   generalize ((((w15.setCell ⟨gb112, 0, none⟩ (.int .u8 t108)).setCell ⟨gb112, 1, none⟩ (.int .u32 t109)).setCell ⟨gb112, 2, none⟩ (.int .u64 t110)).setCell ⟨gb112, 3, none⟩ (.int .u64 t111)) = w23 at n0_ n1_ n2_ n3_ n4_ ⊢
   have BK105 := n0_; have BK106 := n1_; have BK107 := n2_; have BK112 := n3_; have HB := n4_
   clear n0_ n1_ n2_ n3_ n4_
   have n0_ := Aside0.mk (blk_drew BK105.out)
   have n1_ := Aside0.mk (blk_drew BK106.out)
   have n2_ := Aside0.mk (blk_drew BK107.out)
   have n3_ := Aside0.mk (blk_drew BK112.out)
   have n4_ := Aside0.mk (below_drew1 HB.out)
   clear BK105 BK106 BK107 BK112 HB
   have BK105 := n0_; have BK106 := n1_; have BK107 := n2_; have BK112 := n3_; have HB := n4_
   clear n0_ n1_ n2_ n3_ n4_
   refine start_ (n := 12) (S := fun w' => w'.cell? ⟨gb112, 0, none⟩ = some (.int .u8 t108) ∧ w'.cell? ⟨gb112, 1, none⟩ = some (.int .u32 t109) ∧ w'.cell? ⟨gb112, 2, none⟩ = some (.int .u64 t110) ∧ w'.cell? ⟨gb112, 3, none⟩ = some (.int .u64 t111) ∧ w'.cell? ⟨gb105, 0, none⟩ = some (.int .u8 a0_0) ∧ w'.cell? ⟨gb105, 1, none⟩ = some (.int .u32 a0_1) ∧ w'.cell? ⟨gb105, 2, none⟩ = some (.int .u64 a0_2) ∧ w'.cell? ⟨gb105, 3, none⟩ = some (.int .u64 a0_3)) (ds := []) MetaOrder.m0 (by kernel_rfl) rfl rfl (c4 BK112 (c4e BK105)) (fun hHeld => ?_); refine with_tabW rillbedlaw07_MetaOrder.tab2 rillbedlaw07_MetaOrder.bits2 (fun HT_ HW_ => ?_)
   generalize w23.drew = w24 at BK105 BK106 BK107 BK112 HB hHeld ⊢
   refine take_ (i := 0) (N := some 13) (v := ?_) (a' := ?_) MetaOrder.m1 rfl rfl (take_ofW HT_.out HW_.out (by kernel_rfl)) (fun _ _ _ h => h) (Or.inl ⟨by rfl, ?_⟩) hHeld ?_ ?_
   rotate_left
   ·rintro w' ⟨s0, s1, s2, s3, s4, s5, s6, s7⟩
    go_simp
    with_reducible rfl
   rotate_left
   ·simp only [Act.put, List.setIfInBounds_toArray, List.set_cons_zero, List.set_cons_succ, i64_w, i32_w]
    rfl
   refine take_ (i := 2) (N := some 15) (v := ?_) (a' := ?_) MetaOrder.m2 rfl rfl (take_ofW HT_.out HW_.out (by kernel_rfl)) (fun _ _ _ h => h) (Or.inl ⟨by rfl, ?_⟩) hHeld ?_ ?_
   rotate_left
   ·rintro w' ⟨s0, s1, s2, s3, s4, s5, s6, s7⟩
    go_simp
    with_reducible rfl
   rotate_left
   ·simp only [Act.put, List.setIfInBounds_toArray, List.set_cons_zero, List.set_cons_succ, i64_w, i32_w]
    rfl
   refine one_ (i := 1) (N := some 14) MetaOrder.m3 rfl rfl (one_of HT_.out (by kernel_rfl)) (by decide) (fun K hK => ?_)
   refine goes_ Try.func47 (by kernel_rfl) rfl #[.agg #[.int .u8 t108, .int .u32 t109, .int .u64 t110, .int .u64 t111]] (by rfl) rfl rfl (by (try simp only [List.map_toArray, List.map_cons, List.map_nil]); first | done | rfl | (simp only [List.length_drop, List.length_take]; rfl)) ?_
   with_reducible refine (meta_Check.calls t108 t109 t110 t111 t113 _ A20.out).mono ?_
   rintro e w25 ⟨rfl, hb⟩
   refine ⟨_, rfl, ?_⟩
   have n0_ := n_blk BK105 hb
   have n1_ := n_blk BK106 hb
   have n2_ := n_blk BK107 hb
   have n3_ := n_blk BK112 hb
   have n4_ := Aside0.mk (below_step (n_hb HB) hb)
   clear BK105 BK106 BK107 BK112 HB
   have BK105 := n0_; have BK106 := n1_; have BK107 := n2_; have BK112 := n3_; have HB := n4_
   clear n0_ n1_ n2_ n3_ n4_
   (try clear hb); (try clear hb2); (try clear hk); (try clear hi)
   refine hK.out _ _ (c4 BK112 (c4e BK105)) (fun hHeld => ?_)
   clear hK K
   refine norm_ (a' := ?_) ?_ ?_
   rotate_left
   ·show Act.put _ (some 14) _ = _
    simp only [Act.put, List.setIfInBounds_toArray, List.set_cons_zero, List.set_cons_succ, i64_w, i32_w]
    rfl
   refine one_ (i := 3) (N := some 16) MetaOrder.m4 rfl rfl (one_of HT_.out (by kernel_rfl)) (by decide) (fun K hK => ?_)
   refine goes_ Try.func47 (by kernel_rfl) rfl #[.agg #[.int .u8 a0_0, .int .u32 a0_1, .int .u64 a0_2, .int .u64 a0_3]] (by rfl) rfl rfl (by (try simp only [List.map_toArray, List.map_cons, List.map_nil]); first | done | rfl | (simp only [List.length_drop, List.length_take]; rfl)) ?_
   with_reducible refine (meta_Check.calls a0_0 a0_1 a0_2 a0_3 t114 _ A21.out).mono ?_
   rintro e w26 ⟨rfl, hb⟩
   refine ⟨_, rfl, ?_⟩
   have n0_ := n_blk BK105 hb
   have n1_ := n_blk BK106 hb
   have n2_ := n_blk BK107 hb
   have n3_ := n_blk BK112 hb
   have n4_ := Aside0.mk (below_step (n_hb HB) hb)
   clear BK105 BK106 BK107 BK112 HB
   have BK105 := n0_; have BK106 := n1_; have BK107 := n2_; have BK112 := n3_; have HB := n4_
   clear n0_ n1_ n2_ n3_ n4_
   (try clear hb); (try clear hb2); (try clear hk); (try clear hi)
   refine hK.out _ _ (c4 BK112 (c4e BK105)) (fun hHeld => ?_)
   clear hK K
   refine norm_ (a' := ?_) ?_ ?_
   rotate_left
   ·show Act.put _ (some 16) _ = _
    simp only [Act.put, List.setIfInBounds_toArray, List.set_cons_zero, List.set_cons_succ, i64_w, i32_w]
    rfl
   refine pure_ (i := 4) (N := some 17) (v := ?_) (a' := ?_) MetaOrder.m5 rfl rfl (any_of HT_.out (by kernel_rfl)) (fun _ _ _ h => h) (Or.inl ⟨by rfl, ?_⟩) ?_ ?_
   rotate_left
   ·intro w'
    go_simp
    with_reducible rfl
   rotate_left
   ·simp only [Act.put, List.setIfInBounds_toArray, List.set_cons_zero, List.set_cons_succ, i64_w, i32_w]
    rfl
   refine pure_ (i := 5) (N := some 18) (v := ?_) (a' := ?_) MetaOrder.m6 rfl rfl (any_of HT_.out (by kernel_rfl)) (fun _ _ _ h => h) (Or.inl ⟨by rfl, ?_⟩) ?_ ?_
   rotate_left
   ·intro w'
    go_simp
    with_reducible rfl
   rotate_left
   ·simp only [Act.put, List.setIfInBounds_toArray, List.set_cons_zero, List.set_cons_succ, i64_w, i32_w]
    rfl
   refine pure_ (i := 6) (N := some 19) (v := ?_) (a' := ?_) MetaOrder.m7 rfl rfl (any_of HT_.out (by kernel_rfl)) (fun _ _ _ h => h) (Or.inl ⟨by rfl, ?_⟩) ?_ ?_
   rotate_left
   ·intro w'
    go_simp
    with_reducible rfl
   rotate_left
   ·simp only [Act.put, List.setIfInBounds_toArray, List.set_cons_zero, List.set_cons_succ, i64_w, i32_w]
    rfl
   refine pure_ (i := 8) (N := some 21) (v := ?_) (a' := ?_) MetaOrder.m8 rfl rfl (any_of HT_.out (by kernel_rfl)) (fun _ _ _ h => h) (Or.inl ⟨by rfl, ?_⟩) ?_ ?_
   rotate_left
   ·intro w'
    go_simp
    with_reducible rfl
   rotate_left
   ·simp only [Act.put, List.setIfInBounds_toArray, List.set_cons_zero, List.set_cons_succ, i64_w, i32_w]
    rfl
   refine take_ (i := 7) (N := some 20) (v := ?_) (a' := ?_) MetaOrder.m9 rfl rfl (take_ofW HT_.out HW_.out (by kernel_rfl)) (fun _ _ _ h => h) (Or.inl ⟨by rfl, ?_⟩) hHeld ?_ ?_
   rotate_left
   ·rintro w' ⟨s0, s1, s2, s3, s4, s5, s6, s7⟩
    go_simp
    with_reducible rfl
   rotate_left
   ·simp only [Act.put, List.setIfInBounds_toArray, List.set_cons_zero, List.set_cons_succ, i64_w, i32_w]
    rfl
   refine take_ (i := 9) (N := some 22) (v := ?_) (a' := ?_) MetaOrder.m10 rfl rfl (take_ofW HT_.out HW_.out (by kernel_rfl)) (fun _ _ _ h => h) (Or.inl ⟨by rfl, ?_⟩) hHeld ?_ ?_
   rotate_left
   ·rintro w' ⟨s0, s1, s2, s3, s4, s5, s6, s7⟩
    go_simp
    with_reducible rfl
   rotate_left
   ·simp only [Act.put, List.setIfInBounds_toArray, List.set_cons_zero, List.set_cons_succ, i64_w, i32_w]
    rfl
   refine pure_ (i := 10) (N := some 23) (v := ?_) (a' := ?_) MetaOrder.m11 rfl rfl (any_of HT_.out (by kernel_rfl)) (fun _ _ _ h => h) (Or.inl ⟨by rfl, ?_⟩) ?_ ?_
   rotate_left
   ·intro w'
    go_simp
    with_reducible rfl
   rotate_left
   ·simp only [Act.put, List.setIfInBounds_toArray, List.set_cons_zero, List.set_cons_succ, i64_w, i32_w]
    rfl
   refine pure_ (i := 11) (N := some 24) (v := ?_) (a' := ?_) MetaOrder.m12 rfl rfl (any_of HT_.out (by kernel_rfl)) (fun _ _ _ h => h) (Or.inl ⟨by rfl, ?_⟩) ?_ ?_
   rotate_left
   ·intro w'
    go_simp
    with_reducible rfl
   rotate_left
   ·simp only [Act.put, List.setIfInBounds_toArray, List.set_cons_zero, List.set_cons_succ, i64_w, i32_w]
    rfl
   refine done_ (done_of HT_.out (by kernel_rfl)) ?_
   try go_wp2
   go_meet
   case rel => exact ⟨_, ((t108 != a0_0)), (by first | rfl | (simp; done) | (simp [*]; done)), H', ⟨by first | omega | exact Nat.le_refl _⟩, ⟨by (with_reducible repeat (first | refine blk_drewN ?_ _ | refine blk_drew ?_ | refine blk_alloc ?_ _)); exact BK105.out⟩, ⟨by (with_reducible repeat (first | refine blk_drewN ?_ _ | refine blk_drew ?_ | refine blk_alloc ?_ _)); exact BK106.out⟩, ⟨by (with_reducible repeat (first | refine blk_drewN ?_ _ | refine blk_drew ?_ | refine blk_alloc ?_ _)); exact BK107.out⟩, ⟨by (with_reducible repeat (first | refine blk_drewN ?_ _ | refine blk_drew ?_ | refine blk_alloc ?_ _)); exact BK112.out⟩, ⟨by repeat (first | (with_reducible first | exact HB.out | apply below_alloc | apply pw_below_drewN | apply below_drew1 | refine below_set ?_ GE105.out | refine below_set ?_ GE106.out | refine below_set ?_ GE107.out | refine below_set ?_ GE112.out) | exact HB.out)⟩⟩
  ·rw [if_neg c22] at H
   have c22b0 : (t113 == t114) = false := beq_eq_false_iff_ne.mpr c22
   have c22b1 : (t113 != t114) = true := bne_iff_ne.mpr c22
   (first | rw [c22b0] | (simp only [i64_w, i32_w]; rw [c22b0]) | skip)
   exact absurd H (by cases k <;> simp [rillbedlaw07_MetaOrder.j0])
 case rest =>
  clear HC5
  try clear c22
  try clear c22b0
  try clear c22b1
  try clear hcz11_0
  try clear hcz11_1
  try clear hcz11_2
  try clear hcz11_3
  try clear hcz13_0
  try clear hcz13_1
  try clear hcz13_2
  try clear hcz13_3
  try clear hcz19_0
  try clear hcz19_1
  try clear hcz19_2
  try clear hcz19_3
  try clear hfz11_0
  try clear hfz11_1
  try clear hfz11_2
  try clear hfz11_3
  try clear hfz13_0
  try clear hfz13_1
  try clear hfz13_2
  try clear hfz13_3
  try clear hfz19_0
  try clear hfz19_1
  try clear hfz19_2
  try clear hfz19_3
  obtain ⟨kq, x24_4, rfl, HA, HJ4, BK105, BK106, BK107, BK112, HB⟩ := hcut
  cases kq with
  | zero => exact absurd HA.out (by simp [rillbedlaw07_MetaOrder.j0])
  | succ kj4 =>
   have H := HA.out
   clear HA
   simp only [rillbedlaw07_MetaOrder.j0] at H
   by_cases c31 : x24_4 = true
   ·subst c31
    have H1 : (some false) = some true := by rw [if_pos rfl] at H; exact H
    clear H
    have H := H1
    clear H1
    exact absurd (Option.some.inj H) (by decide)
   ·replace c31 := Bool.eq_false_iff.mpr c31
    subst c31
    have H1 : ((meta_Apply.f t108 t109 t110 t111 a2_0 a2_1 a2_2 a2_3).bind fun bt115 => ((meta_Apply.f a0_0 a0_1 a0_2 a0_3 a2_0 a2_1 a2_2 a2_3).bind fun bt119 => ((meta_Apply.f bt119.1 bt119.2.1 bt119.2.2.1 bt119.2.2.2 a1_0 a1_1 a1_2 a1_3).bind fun bt123 => ((rillbedlaw07_part.f a1_0 a1_1 a1_2 a1_3).bind fun t129 => ((rillbedlaw07_part.f a2_0 a2_1 a2_2 a2_3).bind fun t130 => (if t129 = t130 then (if a1_0 = 1 then (if a2_0 = 1 then (rillbedlaw07_MetaOrder.j1 kj4 (!(bt115.1 == bt123.1) || (!(bt115.2.1 == bt123.2.1) || (!(bt115.2.2.1 == bt123.2.2.1) || (!(bt115.2.2.2 == bt123.2.2.2))))) a0_0 a0_1 a0_2 a0_3 a1_0 a1_1 a1_2 a1_3 t108 t109 t110 t111) else (rillbedlaw07_MetaOrder.j1 kj4 false a0_0 a0_1 a0_2 a0_3 a1_0 a1_1 a1_2 a1_3 t108 t109 t110 t111)) else (rillbedlaw07_MetaOrder.j1 kj4 false a0_0 a0_1 a0_2 a0_3 a1_0 a1_1 a1_2 a1_3 t108 t109 t110 t111)) else (rillbedlaw07_MetaOrder.j1 kj4 (!(bt115.1 == bt123.1) || (!(bt115.2.1 == bt123.2.1) || (!(bt115.2.2.1 == bt123.2.2.1) || (!(bt115.2.2.2 == bt123.2.2.2))))) a0_0 a0_1 a0_2 a0_3 a1_0 a1_1 a1_2 a1_3 t108 t109 t110 t111))))))) = some true := by rw [if_neg (show ¬ (false = true) by decide)] at H; exact H
    clear H
    have H := H1
    clear H1
    replace H := Option.bind_eq_some_iff.mp H
    obtain ⟨⟨t115, t116, t117, t118⟩, A320, H⟩ := H
    replace H : ((meta_Apply.f a0_0 a0_1 a0_2 a0_3 a2_0 a2_1 a2_2 a2_3).bind fun bt119 => ((meta_Apply.f bt119.1 bt119.2.1 bt119.2.2.1 bt119.2.2.2 a1_0 a1_1 a1_2 a1_3).bind fun bt123 => ((rillbedlaw07_part.f a1_0 a1_1 a1_2 a1_3).bind fun t129 => ((rillbedlaw07_part.f a2_0 a2_1 a2_2 a2_3).bind fun t130 => (if t129 = t130 then (if a1_0 = 1 then (if a2_0 = 1 then (rillbedlaw07_MetaOrder.j1 kj4 (!(t115 == bt123.1) || (!(t116 == bt123.2.1) || (!(t117 == bt123.2.2.1) || (!(t118 == bt123.2.2.2))))) a0_0 a0_1 a0_2 a0_3 a1_0 a1_1 a1_2 a1_3 t108 t109 t110 t111) else (rillbedlaw07_MetaOrder.j1 kj4 false a0_0 a0_1 a0_2 a0_3 a1_0 a1_1 a1_2 a1_3 t108 t109 t110 t111)) else (rillbedlaw07_MetaOrder.j1 kj4 false a0_0 a0_1 a0_2 a0_3 a1_0 a1_1 a1_2 a1_3 t108 t109 t110 t111)) else (rillbedlaw07_MetaOrder.j1 kj4 (!(t115 == bt123.1) || (!(t116 == bt123.2.1) || (!(t117 == bt123.2.2.1) || (!(t118 == bt123.2.2.2))))) a0_0 a0_1 a0_2 a0_3 a1_0 a1_1 a1_2 a1_3 t108 t109 t110 t111)))))) = some true := H
    have A32 := Aside0.mk A320
    clear A320
    replace H := Option.bind_eq_some_iff.mp H
    obtain ⟨⟨t119, t120, t121, t122⟩, A330, H⟩ := H
    replace H : ((meta_Apply.f t119 t120 t121 t122 a1_0 a1_1 a1_2 a1_3).bind fun bt123 => ((rillbedlaw07_part.f a1_0 a1_1 a1_2 a1_3).bind fun t129 => ((rillbedlaw07_part.f a2_0 a2_1 a2_2 a2_3).bind fun t130 => (if t129 = t130 then (if a1_0 = 1 then (if a2_0 = 1 then (rillbedlaw07_MetaOrder.j1 kj4 (!(t115 == bt123.1) || (!(t116 == bt123.2.1) || (!(t117 == bt123.2.2.1) || (!(t118 == bt123.2.2.2))))) a0_0 a0_1 a0_2 a0_3 a1_0 a1_1 a1_2 a1_3 t108 t109 t110 t111) else (rillbedlaw07_MetaOrder.j1 kj4 false a0_0 a0_1 a0_2 a0_3 a1_0 a1_1 a1_2 a1_3 t108 t109 t110 t111)) else (rillbedlaw07_MetaOrder.j1 kj4 false a0_0 a0_1 a0_2 a0_3 a1_0 a1_1 a1_2 a1_3 t108 t109 t110 t111)) else (rillbedlaw07_MetaOrder.j1 kj4 (!(t115 == bt123.1) || (!(t116 == bt123.2.1) || (!(t117 == bt123.2.2.1) || (!(t118 == bt123.2.2.2))))) a0_0 a0_1 a0_2 a0_3 a1_0 a1_1 a1_2 a1_3 t108 t109 t110 t111))))) = some true := H
    have A33 := Aside0.mk A330
    clear A330
    replace H := Option.bind_eq_some_iff.mp H
    obtain ⟨⟨t123, t124, t125, t126⟩, A340, H⟩ := H
    replace H : ((rillbedlaw07_part.f a1_0 a1_1 a1_2 a1_3).bind fun t129 => ((rillbedlaw07_part.f a2_0 a2_1 a2_2 a2_3).bind fun t130 => (if t129 = t130 then (if a1_0 = 1 then (if a2_0 = 1 then (rillbedlaw07_MetaOrder.j1 kj4 (!(t115 == t123) || (!(t116 == t124) || (!(t117 == t125) || (!(t118 == t126))))) a0_0 a0_1 a0_2 a0_3 a1_0 a1_1 a1_2 a1_3 t108 t109 t110 t111) else (rillbedlaw07_MetaOrder.j1 kj4 false a0_0 a0_1 a0_2 a0_3 a1_0 a1_1 a1_2 a1_3 t108 t109 t110 t111)) else (rillbedlaw07_MetaOrder.j1 kj4 false a0_0 a0_1 a0_2 a0_3 a1_0 a1_1 a1_2 a1_3 t108 t109 t110 t111)) else (rillbedlaw07_MetaOrder.j1 kj4 (!(t115 == t123) || (!(t116 == t124) || (!(t117 == t125) || (!(t118 == t126))))) a0_0 a0_1 a0_2 a0_3 a1_0 a1_1 a1_2 a1_3 t108 t109 t110 t111)))) = some true := H
    have A34 := Aside0.mk A340
    clear A340
    have HC35 := Aside0.mk H
    clear H
    try go_wp2
    have n0_ := Aside0.mk (blk_drew BK105.out)
    have n1_ := Aside0.mk (blk_drew BK106.out)
    have n2_ := Aside0.mk (blk_drew BK107.out)
    have n3_ := Aside0.mk (blk_drew BK112.out)
    have n4_ := Aside0.mk (below_drew1 HB.out)
    clear BK105 BK106 BK107 BK112 HB
    have BK105 := n0_; have BK106 := n1_; have BK107 := n2_; have BK112 := n3_; have HB := n4_
    clear n0_ n1_ n2_ n3_ n4_
    refine start_ (n := 12) (S := fun w' => C16 gb112 gb107 gb105 gb106 t108 t109 t110 t111 a2_0 a2_1 a2_2 a2_3 a0_0 a0_1 a0_2 a0_3 a1_0 a1_1 a1_2 a1_3 w') (ds := []) MetaOrder.m0 (by kernel_rfl) rfl rfl (c4 BK112 (c4 BK107 (c4 BK105 (c4e BK106)))) (fun hHeld => ?_); refine with_tabW rillbedlaw07_MetaOrder.tab4 rillbedlaw07_MetaOrder.bits4 (fun HT_ HW_ => ?_)
    generalize wc.drew = w36 at BK105 BK106 BK107 BK112 HB hHeld ⊢
    refine take_ (i := 0) (N := some 25) (v := ?_) (a' := ?_) MetaOrder.m1 rfl rfl (take_ofW HT_.out HW_.out (by kernel_rfl)) (fun _ _ _ h => h) (Or.inl ⟨by rfl, ?_⟩) hHeld ?_ ?_
    rotate_left
    ·rintro w' ⟨s0, s1, s2, s3, s4, s5, s6, s7, s8, s9, s10, s11, s12, s13, s14, s15⟩
     go_simp
     with_reducible rfl
    rotate_left
    ·simp only [Act.put, List.setIfInBounds_toArray, List.set_cons_zero, List.set_cons_succ, i64_w, i32_w]
     rfl
    refine take_ (i := 1) (N := some 26) (v := ?_) (a' := ?_) MetaOrder.m13 rfl rfl (take_ofW HT_.out HW_.out (by kernel_rfl)) (fun _ _ _ h => h) (Or.inl ⟨by rfl, ?_⟩) hHeld ?_ ?_
    rotate_left
    ·rintro w' ⟨s0, s1, s2, s3, s4, s5, s6, s7, s8, s9, s10, s11, s12, s13, s14, s15⟩
     go_simp
     with_reducible rfl
    rotate_left
    ·simp only [Act.put, List.setIfInBounds_toArray, List.set_cons_zero, List.set_cons_succ, i64_w, i32_w]
     rfl
    refine take_ (i := 3) (N := some 28) (v := ?_) (a' := ?_) MetaOrder.m14 rfl rfl (take_ofW HT_.out HW_.out (by kernel_rfl)) (fun _ _ _ h => h) (Or.inl ⟨by rfl, ?_⟩) hHeld ?_ ?_
    rotate_left
    ·rintro w' ⟨s0, s1, s2, s3, s4, s5, s6, s7, s8, s9, s10, s11, s12, s13, s14, s15⟩
     go_simp
     with_reducible rfl
    rotate_left
    ·simp only [Act.put, List.setIfInBounds_toArray, List.set_cons_zero, List.set_cons_succ, i64_w, i32_w]
     rfl
    refine take_ (i := 4) (N := some 29) (v := ?_) (a' := ?_) MetaOrder.m15 rfl rfl (take_ofW HT_.out HW_.out (by kernel_rfl)) (fun _ _ _ h => h) (Or.inl ⟨by rfl, ?_⟩) hHeld ?_ ?_
    rotate_left
    ·rintro w' ⟨s0, s1, s2, s3, s4, s5, s6, s7, s8, s9, s10, s11, s12, s13, s14, s15⟩
     go_simp
     with_reducible rfl
    rotate_left
    ·simp only [Act.put, List.setIfInBounds_toArray, List.set_cons_zero, List.set_cons_succ, i64_w, i32_w]
     rfl
    refine take_ (i := 6) (N := some 31) (v := ?_) (a' := ?_) MetaOrder.m16 rfl rfl (take_ofW HT_.out HW_.out (by kernel_rfl)) (fun _ _ _ h => h) (Or.inl ⟨by rfl, ?_⟩) hHeld ?_ ?_
    rotate_left
    ·rintro w' ⟨s0, s1, s2, s3, s4, s5, s6, s7, s8, s9, s10, s11, s12, s13, s14, s15⟩
     go_simp
     with_reducible rfl
    rotate_left
    ·simp only [Act.put, List.setIfInBounds_toArray, List.set_cons_zero, List.set_cons_succ, i64_w, i32_w]
     rfl
    refine join_ (σ := Nat × Nat) 2 MetaOrder.m10 (fun s_ => [(27, .agg #[.int .u8 t115, .int .u32 t116, .int .u64 t117, .int .u64 t118]), (30, .agg #[.int .u8 t119, .int .u32 t120, .int .u64 t121, .int .u64 t122]), (32, .agg #[.int .u8 t123, .int .u32 t124, .int .u64 t125, .int .u64 t126]), (8, .pointer (some ⟨s_.1, 0, none⟩)), (9, .pointer (some ⟨s_.2, 0, none⟩))]) (fun s_ w' => (C16 gb112 gb107 gb105 gb106 t108 t109 t110 t111 a2_0 a2_1 a2_2 a2_3 a0_0 a0_1 a0_2 a0_3 a1_0 a1_1 a1_2 a1_3 w') ∧ (w'.heap[gb105]? = some (.cells #[.int .u8 a0_0, .int .u32 a0_1, .int .u64 a0_2, .int .u64 a0_3] 85 (0, 0))) ∧ (w'.heap[gb106]? = some (.cells #[.int .u8 a1_0, .int .u64 a1_1, .int .u8 a1_2, .int .u64 a1_3] 73 (0, 0))) ∧ (w'.heap[gb107]? = some (.cells #[.int .u8 a2_0, .int .u64 a2_1, .int .u8 a2_2, .int .u64 a2_3] 73 (0, 0))) ∧ (w'.heap[gb112]? = some (.cells #[.int .u8 t108, .int .u32 t109, .int .u64 t110, .int .u64 t111] 85 (0, 0))) ∧ (w'.heap[s_.1]? = some (.cells #[.int .u8 0, .int .u32 0, .int .u64 0, .int .u64 0] 85 (0, 0))) ∧ (w'.heap[s_.2]? = some (.cells #[.int .u8 0, .int .u32 0, .int .u64 0, .int .u64 0] 85 (0, 0))) ∧ (w.heap.size ≤ s_.1) ∧ (w.heap.size ≤ s_.1) ∧ (gb105 ≠ s_.1) ∧ (s_.1 ≠ gb105) ∧ (gb106 ≠ s_.1) ∧ (s_.1 ≠ gb106) ∧ (gb107 ≠ s_.1) ∧ (s_.1 ≠ gb107) ∧ (gb112 ≠ s_.1) ∧ (s_.1 ≠ gb112) ∧ (s_.2 ≠ s_.1) ∧ (s_.1 ≠ s_.2) ∧ (w.heap.size ≤ s_.2) ∧ (w.heap.size ≤ s_.2) ∧ (gb105 ≠ s_.2) ∧ (s_.2 ≠ gb105) ∧ (gb106 ≠ s_.2) ∧ (s_.2 ≠ gb106) ∧ (gb107 ≠ s_.2) ∧ (s_.2 ≠ gb107) ∧ (gb112 ≠ s_.2) ∧ (s_.2 ≠ gb112) ∧ (Below w.heap.size w w')) ?_ ?_
    rotate_left
    ·intro hJ2_5_7_8_9
     refine join_ (σ := Nat) 3 MetaOrder.m9 (fun s_ => [(27, .agg #[.int .u8 t115, .int .u32 t116, .int .u64 t117, .int .u64 t118]), (30, .agg #[.int .u8 t119, .int .u32 t120, .int .u64 t121, .int .u64 t122]), (32, .agg #[.int .u8 t123, .int .u32 t124, .int .u64 t125, .int .u64 t126]), (8, .pointer (some ⟨s_, 0, none⟩))]) (fun s_ w' => (C16 gb112 gb107 gb105 gb106 t108 t109 t110 t111 a2_0 a2_1 a2_2 a2_3 a0_0 a0_1 a0_2 a0_3 a1_0 a1_1 a1_2 a1_3 w') ∧ (w'.heap[gb105]? = some (.cells #[.int .u8 a0_0, .int .u32 a0_1, .int .u64 a0_2, .int .u64 a0_3] 85 (0, 0))) ∧ (w'.heap[gb106]? = some (.cells #[.int .u8 a1_0, .int .u64 a1_1, .int .u8 a1_2, .int .u64 a1_3] 73 (0, 0))) ∧ (w'.heap[gb107]? = some (.cells #[.int .u8 a2_0, .int .u64 a2_1, .int .u8 a2_2, .int .u64 a2_3] 73 (0, 0))) ∧ (w'.heap[gb112]? = some (.cells #[.int .u8 t108, .int .u32 t109, .int .u64 t110, .int .u64 t111] 85 (0, 0))) ∧ (w'.heap[s_]? = some (.cells #[.int .u8 0, .int .u32 0, .int .u64 0, .int .u64 0] 85 (0, 0))) ∧ (w.heap.size ≤ s_) ∧ (w.heap.size ≤ s_) ∧ (gb105 ≠ s_) ∧ (s_ ≠ gb105) ∧ (gb106 ≠ s_) ∧ (s_ ≠ gb106) ∧ (gb107 ≠ s_) ∧ (s_ ≠ gb107) ∧ (gb112 ≠ s_) ∧ (s_ ≠ gb112) ∧ (Below w.heap.size w w')) ?_ ?_
     rotate_left
     ·intro hJ2_5_7_8
      refine join_ (σ := Nat) 3 MetaOrder.m17 (fun s_ => [(27, .agg #[.int .u8 t115, .int .u32 t116, .int .u64 t117, .int .u64 t118]), (30, .agg #[.int .u8 t119, .int .u32 t120, .int .u64 t121, .int .u64 t122]), (32, .agg #[.int .u8 t123, .int .u32 t124, .int .u64 t125, .int .u64 t126]), (9, .pointer (some ⟨s_, 0, none⟩))]) (fun s_ w' => (C16 gb112 gb107 gb105 gb106 t108 t109 t110 t111 a2_0 a2_1 a2_2 a2_3 a0_0 a0_1 a0_2 a0_3 a1_0 a1_1 a1_2 a1_3 w') ∧ (w'.heap[gb105]? = some (.cells #[.int .u8 a0_0, .int .u32 a0_1, .int .u64 a0_2, .int .u64 a0_3] 85 (0, 0))) ∧ (w'.heap[gb106]? = some (.cells #[.int .u8 a1_0, .int .u64 a1_1, .int .u8 a1_2, .int .u64 a1_3] 73 (0, 0))) ∧ (w'.heap[gb107]? = some (.cells #[.int .u8 a2_0, .int .u64 a2_1, .int .u8 a2_2, .int .u64 a2_3] 73 (0, 0))) ∧ (w'.heap[gb112]? = some (.cells #[.int .u8 t108, .int .u32 t109, .int .u64 t110, .int .u64 t111] 85 (0, 0))) ∧ (w'.heap[s_]? = some (.cells #[.int .u8 0, .int .u32 0, .int .u64 0, .int .u64 0] 85 (0, 0))) ∧ (w.heap.size ≤ s_) ∧ (w.heap.size ≤ s_) ∧ (gb105 ≠ s_) ∧ (s_ ≠ gb105) ∧ (gb106 ≠ s_) ∧ (s_ ≠ gb106) ∧ (gb107 ≠ s_) ∧ (s_ ≠ gb107) ∧ (gb112 ≠ s_) ∧ (s_ ≠ gb112) ∧ (Below w.heap.size w w')) ?_ ?_
      rotate_left
      ·intro hJ2_5_7_9
       refine join_ (σ := Nat × Nat) 3 MetaOrder.m18 (fun s_ => [(27, .agg #[.int .u8 t115, .int .u32 t116, .int .u64 t117, .int .u64 t118]), (30, .agg #[.int .u8 t119, .int .u32 t120, .int .u64 t121, .int .u64 t122]), (8, .pointer (some ⟨s_.1, 0, none⟩)), (9, .pointer (some ⟨s_.2, 0, none⟩))]) (fun s_ w' => (C16 gb112 gb107 gb105 gb106 t108 t109 t110 t111 a2_0 a2_1 a2_2 a2_3 a0_0 a0_1 a0_2 a0_3 a1_0 a1_1 a1_2 a1_3 w') ∧ (w'.heap[gb105]? = some (.cells #[.int .u8 a0_0, .int .u32 a0_1, .int .u64 a0_2, .int .u64 a0_3] 85 (0, 0))) ∧ (w'.heap[gb106]? = some (.cells #[.int .u8 a1_0, .int .u64 a1_1, .int .u8 a1_2, .int .u64 a1_3] 73 (0, 0))) ∧ (w'.heap[gb107]? = some (.cells #[.int .u8 a2_0, .int .u64 a2_1, .int .u8 a2_2, .int .u64 a2_3] 73 (0, 0))) ∧ (w'.heap[gb112]? = some (.cells #[.int .u8 t108, .int .u32 t109, .int .u64 t110, .int .u64 t111] 85 (0, 0))) ∧ (w'.heap[s_.1]? = some (.cells #[.int .u8 0, .int .u32 0, .int .u64 0, .int .u64 0] 85 (0, 0))) ∧ (w'.heap[s_.2]? = some (.cells #[.int .u8 0, .int .u32 0, .int .u64 0, .int .u64 0] 85 (0, 0))) ∧ (w.heap.size ≤ s_.1) ∧ (w.heap.size ≤ s_.1) ∧ (gb105 ≠ s_.1) ∧ (s_.1 ≠ gb105) ∧ (gb106 ≠ s_.1) ∧ (s_.1 ≠ gb106) ∧ (gb107 ≠ s_.1) ∧ (s_.1 ≠ gb107) ∧ (gb112 ≠ s_.1) ∧ (s_.1 ≠ gb112) ∧ (s_.2 ≠ s_.1) ∧ (s_.1 ≠ s_.2) ∧ (w.heap.size ≤ s_.2) ∧ (w.heap.size ≤ s_.2) ∧ (gb105 ≠ s_.2) ∧ (s_.2 ≠ gb105) ∧ (gb106 ≠ s_.2) ∧ (s_.2 ≠ gb106) ∧ (gb107 ≠ s_.2) ∧ (s_.2 ≠ gb107) ∧ (gb112 ≠ s_.2) ∧ (s_.2 ≠ gb112) ∧ (Below w.heap.size w w')) ?_ ?_
       rotate_left
       ·intro hJ2_5_8_9
        refine join_ (σ := Unit) 4 MetaOrder.m19 (fun s_ => [(27, .agg #[.int .u8 t115, .int .u32 t116, .int .u64 t117, .int .u64 t118]), (30, .agg #[.int .u8 t119, .int .u32 t120, .int .u64 t121, .int .u64 t122]), (32, .agg #[.int .u8 t123, .int .u32 t124, .int .u64 t125, .int .u64 t126])]) (fun s_ w' => (C16 gb112 gb107 gb105 gb106 t108 t109 t110 t111 a2_0 a2_1 a2_2 a2_3 a0_0 a0_1 a0_2 a0_3 a1_0 a1_1 a1_2 a1_3 w') ∧ (w'.heap[gb105]? = some (.cells #[.int .u8 a0_0, .int .u32 a0_1, .int .u64 a0_2, .int .u64 a0_3] 85 (0, 0))) ∧ (w'.heap[gb106]? = some (.cells #[.int .u8 a1_0, .int .u64 a1_1, .int .u8 a1_2, .int .u64 a1_3] 73 (0, 0))) ∧ (w'.heap[gb107]? = some (.cells #[.int .u8 a2_0, .int .u64 a2_1, .int .u8 a2_2, .int .u64 a2_3] 73 (0, 0))) ∧ (w'.heap[gb112]? = some (.cells #[.int .u8 t108, .int .u32 t109, .int .u64 t110, .int .u64 t111] 85 (0, 0))) ∧ (Below w.heap.size w w')) ?_ ?_
        rotate_left
        ·intro hJ2_5_7
         refine join_ (σ := Nat) 4 MetaOrder.m8 (fun s_ => [(27, .agg #[.int .u8 t115, .int .u32 t116, .int .u64 t117, .int .u64 t118]), (30, .agg #[.int .u8 t119, .int .u32 t120, .int .u64 t121, .int .u64 t122]), (8, .pointer (some ⟨s_, 0, none⟩))]) (fun s_ w' => (C16 gb112 gb107 gb105 gb106 t108 t109 t110 t111 a2_0 a2_1 a2_2 a2_3 a0_0 a0_1 a0_2 a0_3 a1_0 a1_1 a1_2 a1_3 w') ∧ (w'.heap[gb105]? = some (.cells #[.int .u8 a0_0, .int .u32 a0_1, .int .u64 a0_2, .int .u64 a0_3] 85 (0, 0))) ∧ (w'.heap[gb106]? = some (.cells #[.int .u8 a1_0, .int .u64 a1_1, .int .u8 a1_2, .int .u64 a1_3] 73 (0, 0))) ∧ (w'.heap[gb107]? = some (.cells #[.int .u8 a2_0, .int .u64 a2_1, .int .u8 a2_2, .int .u64 a2_3] 73 (0, 0))) ∧ (w'.heap[gb112]? = some (.cells #[.int .u8 t108, .int .u32 t109, .int .u64 t110, .int .u64 t111] 85 (0, 0))) ∧ (w'.heap[s_]? = some (.cells #[.int .u8 0, .int .u32 0, .int .u64 0, .int .u64 0] 85 (0, 0))) ∧ (w.heap.size ≤ s_) ∧ (w.heap.size ≤ s_) ∧ (gb105 ≠ s_) ∧ (s_ ≠ gb105) ∧ (gb106 ≠ s_) ∧ (s_ ≠ gb106) ∧ (gb107 ≠ s_) ∧ (s_ ≠ gb107) ∧ (gb112 ≠ s_) ∧ (s_ ≠ gb112) ∧ (Below w.heap.size w w')) ?_ ?_
         rotate_left
         ·intro hJ2_5_8
          refine join_ (σ := Nat) 4 MetaOrder.m20 (fun s_ => [(27, .agg #[.int .u8 t115, .int .u32 t116, .int .u64 t117, .int .u64 t118]), (30, .agg #[.int .u8 t119, .int .u32 t120, .int .u64 t121, .int .u64 t122]), (9, .pointer (some ⟨s_, 0, none⟩))]) (fun s_ w' => (C16 gb112 gb107 gb105 gb106 t108 t109 t110 t111 a2_0 a2_1 a2_2 a2_3 a0_0 a0_1 a0_2 a0_3 a1_0 a1_1 a1_2 a1_3 w') ∧ (w'.heap[gb105]? = some (.cells #[.int .u8 a0_0, .int .u32 a0_1, .int .u64 a0_2, .int .u64 a0_3] 85 (0, 0))) ∧ (w'.heap[gb106]? = some (.cells #[.int .u8 a1_0, .int .u64 a1_1, .int .u8 a1_2, .int .u64 a1_3] 73 (0, 0))) ∧ (w'.heap[gb107]? = some (.cells #[.int .u8 a2_0, .int .u64 a2_1, .int .u8 a2_2, .int .u64 a2_3] 73 (0, 0))) ∧ (w'.heap[gb112]? = some (.cells #[.int .u8 t108, .int .u32 t109, .int .u64 t110, .int .u64 t111] 85 (0, 0))) ∧ (w'.heap[s_]? = some (.cells #[.int .u8 0, .int .u32 0, .int .u64 0, .int .u64 0] 85 (0, 0))) ∧ (w.heap.size ≤ s_) ∧ (w.heap.size ≤ s_) ∧ (gb105 ≠ s_) ∧ (s_ ≠ gb105) ∧ (gb106 ≠ s_) ∧ (s_ ≠ gb106) ∧ (gb107 ≠ s_) ∧ (s_ ≠ gb107) ∧ (gb112 ≠ s_) ∧ (s_ ≠ gb112) ∧ (Below w.heap.size w w')) ?_ ?_
          rotate_left
          ·intro hJ2_5_9
           refine join_ (σ := Nat × Nat) 4 MetaOrder.m21 (fun s_ => [(27, .agg #[.int .u8 t115, .int .u32 t116, .int .u64 t117, .int .u64 t118]), (8, .pointer (some ⟨s_.1, 0, none⟩)), (9, .pointer (some ⟨s_.2, 0, none⟩))]) (fun s_ w' => (C16 gb112 gb107 gb105 gb106 t108 t109 t110 t111 a2_0 a2_1 a2_2 a2_3 a0_0 a0_1 a0_2 a0_3 a1_0 a1_1 a1_2 a1_3 w') ∧ (w'.heap[gb105]? = some (.cells #[.int .u8 a0_0, .int .u32 a0_1, .int .u64 a0_2, .int .u64 a0_3] 85 (0, 0))) ∧ (w'.heap[gb106]? = some (.cells #[.int .u8 a1_0, .int .u64 a1_1, .int .u8 a1_2, .int .u64 a1_3] 73 (0, 0))) ∧ (w'.heap[gb107]? = some (.cells #[.int .u8 a2_0, .int .u64 a2_1, .int .u8 a2_2, .int .u64 a2_3] 73 (0, 0))) ∧ (w'.heap[gb112]? = some (.cells #[.int .u8 t108, .int .u32 t109, .int .u64 t110, .int .u64 t111] 85 (0, 0))) ∧ (w'.heap[s_.1]? = some (.cells #[.int .u8 0, .int .u32 0, .int .u64 0, .int .u64 0] 85 (0, 0))) ∧ (w'.heap[s_.2]? = some (.cells #[.int .u8 0, .int .u32 0, .int .u64 0, .int .u64 0] 85 (0, 0))) ∧ (w.heap.size ≤ s_.1) ∧ (w.heap.size ≤ s_.1) ∧ (gb105 ≠ s_.1) ∧ (s_.1 ≠ gb105) ∧ (gb106 ≠ s_.1) ∧ (s_.1 ≠ gb106) ∧ (gb107 ≠ s_.1) ∧ (s_.1 ≠ gb107) ∧ (gb112 ≠ s_.1) ∧ (s_.1 ≠ gb112) ∧ (s_.2 ≠ s_.1) ∧ (s_.1 ≠ s_.2) ∧ (w.heap.size ≤ s_.2) ∧ (w.heap.size ≤ s_.2) ∧ (gb105 ≠ s_.2) ∧ (s_.2 ≠ gb105) ∧ (gb106 ≠ s_.2) ∧ (s_.2 ≠ gb106) ∧ (gb107 ≠ s_.2) ∧ (s_.2 ≠ gb107) ∧ (gb112 ≠ s_.2) ∧ (s_.2 ≠ gb112) ∧ (Below w.heap.size w w')) ?_ ?_
           rotate_left
           ·intro hJ2_8_9
            refine join_ (σ := Unit) 5 MetaOrder.m7 (fun s_ => [(27, .agg #[.int .u8 t115, .int .u32 t116, .int .u64 t117, .int .u64 t118]), (30, .agg #[.int .u8 t119, .int .u32 t120, .int .u64 t121, .int .u64 t122])]) (fun s_ w' => (C16 gb112 gb107 gb105 gb106 t108 t109 t110 t111 a2_0 a2_1 a2_2 a2_3 a0_0 a0_1 a0_2 a0_3 a1_0 a1_1 a1_2 a1_3 w') ∧ (w'.heap[gb105]? = some (.cells #[.int .u8 a0_0, .int .u32 a0_1, .int .u64 a0_2, .int .u64 a0_3] 85 (0, 0))) ∧ (w'.heap[gb106]? = some (.cells #[.int .u8 a1_0, .int .u64 a1_1, .int .u8 a1_2, .int .u64 a1_3] 73 (0, 0))) ∧ (w'.heap[gb107]? = some (.cells #[.int .u8 a2_0, .int .u64 a2_1, .int .u8 a2_2, .int .u64 a2_3] 73 (0, 0))) ∧ (w'.heap[gb112]? = some (.cells #[.int .u8 t108, .int .u32 t109, .int .u64 t110, .int .u64 t111] 85 (0, 0))) ∧ (Below w.heap.size w w')) ?_ ?_
            rotate_left
            ·intro hJ2_5
             refine join_ (σ := Nat) 5 MetaOrder.m22 (fun s_ => [(27, .agg #[.int .u8 t115, .int .u32 t116, .int .u64 t117, .int .u64 t118]), (8, .pointer (some ⟨s_, 0, none⟩))]) (fun s_ w' => (C16 gb112 gb107 gb105 gb106 t108 t109 t110 t111 a2_0 a2_1 a2_2 a2_3 a0_0 a0_1 a0_2 a0_3 a1_0 a1_1 a1_2 a1_3 w') ∧ (w'.heap[gb105]? = some (.cells #[.int .u8 a0_0, .int .u32 a0_1, .int .u64 a0_2, .int .u64 a0_3] 85 (0, 0))) ∧ (w'.heap[gb106]? = some (.cells #[.int .u8 a1_0, .int .u64 a1_1, .int .u8 a1_2, .int .u64 a1_3] 73 (0, 0))) ∧ (w'.heap[gb107]? = some (.cells #[.int .u8 a2_0, .int .u64 a2_1, .int .u8 a2_2, .int .u64 a2_3] 73 (0, 0))) ∧ (w'.heap[gb112]? = some (.cells #[.int .u8 t108, .int .u32 t109, .int .u64 t110, .int .u64 t111] 85 (0, 0))) ∧ (w'.heap[s_]? = some (.cells #[.int .u8 0, .int .u32 0, .int .u64 0, .int .u64 0] 85 (0, 0))) ∧ (w.heap.size ≤ s_) ∧ (w.heap.size ≤ s_) ∧ (gb105 ≠ s_) ∧ (s_ ≠ gb105) ∧ (gb106 ≠ s_) ∧ (s_ ≠ gb106) ∧ (gb107 ≠ s_) ∧ (s_ ≠ gb107) ∧ (gb112 ≠ s_) ∧ (s_ ≠ gb112) ∧ (Below w.heap.size w w')) ?_ ?_
             rotate_left
             ·intro hJ2_8
              refine join_ (σ := Nat) 5 MetaOrder.m23 (fun s_ => [(27, .agg #[.int .u8 t115, .int .u32 t116, .int .u64 t117, .int .u64 t118]), (9, .pointer (some ⟨s_, 0, none⟩))]) (fun s_ w' => (C16 gb112 gb107 gb105 gb106 t108 t109 t110 t111 a2_0 a2_1 a2_2 a2_3 a0_0 a0_1 a0_2 a0_3 a1_0 a1_1 a1_2 a1_3 w') ∧ (w'.heap[gb105]? = some (.cells #[.int .u8 a0_0, .int .u32 a0_1, .int .u64 a0_2, .int .u64 a0_3] 85 (0, 0))) ∧ (w'.heap[gb106]? = some (.cells #[.int .u8 a1_0, .int .u64 a1_1, .int .u8 a1_2, .int .u64 a1_3] 73 (0, 0))) ∧ (w'.heap[gb107]? = some (.cells #[.int .u8 a2_0, .int .u64 a2_1, .int .u8 a2_2, .int .u64 a2_3] 73 (0, 0))) ∧ (w'.heap[gb112]? = some (.cells #[.int .u8 t108, .int .u32 t109, .int .u64 t110, .int .u64 t111] 85 (0, 0))) ∧ (w'.heap[s_]? = some (.cells #[.int .u8 0, .int .u32 0, .int .u64 0, .int .u64 0] 85 (0, 0))) ∧ (w.heap.size ≤ s_) ∧ (w.heap.size ≤ s_) ∧ (gb105 ≠ s_) ∧ (s_ ≠ gb105) ∧ (gb106 ≠ s_) ∧ (s_ ≠ gb106) ∧ (gb107 ≠ s_) ∧ (s_ ≠ gb107) ∧ (gb112 ≠ s_) ∧ (s_ ≠ gb112) ∧ (Below w.heap.size w w')) ?_ ?_
              rotate_left
              ·intro hJ2_9
               refine join_ (σ := Nat × Nat) 5 MetaOrder.m24 (fun s_ => [(8, .pointer (some ⟨s_.1, 0, none⟩)), (9, .pointer (some ⟨s_.2, 0, none⟩))]) (fun s_ w' => (C16 gb112 gb107 gb105 gb106 t108 t109 t110 t111 a2_0 a2_1 a2_2 a2_3 a0_0 a0_1 a0_2 a0_3 a1_0 a1_1 a1_2 a1_3 w') ∧ (w'.heap[gb105]? = some (.cells #[.int .u8 a0_0, .int .u32 a0_1, .int .u64 a0_2, .int .u64 a0_3] 85 (0, 0))) ∧ (w'.heap[gb106]? = some (.cells #[.int .u8 a1_0, .int .u64 a1_1, .int .u8 a1_2, .int .u64 a1_3] 73 (0, 0))) ∧ (w'.heap[gb107]? = some (.cells #[.int .u8 a2_0, .int .u64 a2_1, .int .u8 a2_2, .int .u64 a2_3] 73 (0, 0))) ∧ (w'.heap[gb112]? = some (.cells #[.int .u8 t108, .int .u32 t109, .int .u64 t110, .int .u64 t111] 85 (0, 0))) ∧ (w'.heap[s_.1]? = some (.cells #[.int .u8 0, .int .u32 0, .int .u64 0, .int .u64 0] 85 (0, 0))) ∧ (w'.heap[s_.2]? = some (.cells #[.int .u8 0, .int .u32 0, .int .u64 0, .int .u64 0] 85 (0, 0))) ∧ (w.heap.size ≤ s_.1) ∧ (w.heap.size ≤ s_.1) ∧ (gb105 ≠ s_.1) ∧ (s_.1 ≠ gb105) ∧ (gb106 ≠ s_.1) ∧ (s_.1 ≠ gb106) ∧ (gb107 ≠ s_.1) ∧ (s_.1 ≠ gb107) ∧ (gb112 ≠ s_.1) ∧ (s_.1 ≠ gb112) ∧ (s_.2 ≠ s_.1) ∧ (s_.1 ≠ s_.2) ∧ (w.heap.size ≤ s_.2) ∧ (w.heap.size ≤ s_.2) ∧ (gb105 ≠ s_.2) ∧ (s_.2 ≠ gb105) ∧ (gb106 ≠ s_.2) ∧ (s_.2 ≠ gb106) ∧ (gb107 ≠ s_.2) ∧ (s_.2 ≠ gb107) ∧ (gb112 ≠ s_.2) ∧ (s_.2 ≠ gb112) ∧ (Below w.heap.size w w')) ?_ ?_
               rotate_left
               ·intro hJ8_9
                refine join_ (σ := Unit) 6 MetaOrder.m25 (fun s_ => [(27, .agg #[.int .u8 t115, .int .u32 t116, .int .u64 t117, .int .u64 t118])]) (fun s_ w' => (C16 gb112 gb107 gb105 gb106 t108 t109 t110 t111 a2_0 a2_1 a2_2 a2_3 a0_0 a0_1 a0_2 a0_3 a1_0 a1_1 a1_2 a1_3 w') ∧ (w'.heap[gb105]? = some (.cells #[.int .u8 a0_0, .int .u32 a0_1, .int .u64 a0_2, .int .u64 a0_3] 85 (0, 0))) ∧ (w'.heap[gb106]? = some (.cells #[.int .u8 a1_0, .int .u64 a1_1, .int .u8 a1_2, .int .u64 a1_3] 73 (0, 0))) ∧ (w'.heap[gb107]? = some (.cells #[.int .u8 a2_0, .int .u64 a2_1, .int .u8 a2_2, .int .u64 a2_3] 73 (0, 0))) ∧ (w'.heap[gb112]? = some (.cells #[.int .u8 t108, .int .u32 t109, .int .u64 t110, .int .u64 t111] 85 (0, 0))) ∧ (Below w.heap.size w w')) ?_ ?_
                rotate_left
                ·intro hJ2
                 refine join_ (σ := Nat) 6 MetaOrder.m26 (fun s_ => [(8, .pointer (some ⟨s_, 0, none⟩))]) (fun s_ w' => (C16 gb112 gb107 gb105 gb106 t108 t109 t110 t111 a2_0 a2_1 a2_2 a2_3 a0_0 a0_1 a0_2 a0_3 a1_0 a1_1 a1_2 a1_3 w') ∧ (w'.heap[gb105]? = some (.cells #[.int .u8 a0_0, .int .u32 a0_1, .int .u64 a0_2, .int .u64 a0_3] 85 (0, 0))) ∧ (w'.heap[gb106]? = some (.cells #[.int .u8 a1_0, .int .u64 a1_1, .int .u8 a1_2, .int .u64 a1_3] 73 (0, 0))) ∧ (w'.heap[gb107]? = some (.cells #[.int .u8 a2_0, .int .u64 a2_1, .int .u8 a2_2, .int .u64 a2_3] 73 (0, 0))) ∧ (w'.heap[gb112]? = some (.cells #[.int .u8 t108, .int .u32 t109, .int .u64 t110, .int .u64 t111] 85 (0, 0))) ∧ (w'.heap[s_]? = some (.cells #[.int .u8 0, .int .u32 0, .int .u64 0, .int .u64 0] 85 (0, 0))) ∧ (w.heap.size ≤ s_) ∧ (w.heap.size ≤ s_) ∧ (gb105 ≠ s_) ∧ (s_ ≠ gb105) ∧ (gb106 ≠ s_) ∧ (s_ ≠ gb106) ∧ (gb107 ≠ s_) ∧ (s_ ≠ gb107) ∧ (gb112 ≠ s_) ∧ (s_ ≠ gb112) ∧ (Below w.heap.size w w')) ?_ ?_
                 rotate_left
                 ·intro hJ8
                  refine join_ (σ := Nat) 6 MetaOrder.m27 (fun s_ => [(9, .pointer (some ⟨s_, 0, none⟩))]) (fun s_ w' => (C16 gb112 gb107 gb105 gb106 t108 t109 t110 t111 a2_0 a2_1 a2_2 a2_3 a0_0 a0_1 a0_2 a0_3 a1_0 a1_1 a1_2 a1_3 w') ∧ (w'.heap[gb105]? = some (.cells #[.int .u8 a0_0, .int .u32 a0_1, .int .u64 a0_2, .int .u64 a0_3] 85 (0, 0))) ∧ (w'.heap[gb106]? = some (.cells #[.int .u8 a1_0, .int .u64 a1_1, .int .u8 a1_2, .int .u64 a1_3] 73 (0, 0))) ∧ (w'.heap[gb107]? = some (.cells #[.int .u8 a2_0, .int .u64 a2_1, .int .u8 a2_2, .int .u64 a2_3] 73 (0, 0))) ∧ (w'.heap[gb112]? = some (.cells #[.int .u8 t108, .int .u32 t109, .int .u64 t110, .int .u64 t111] 85 (0, 0))) ∧ (w'.heap[s_]? = some (.cells #[.int .u8 0, .int .u32 0, .int .u64 0, .int .u64 0] 85 (0, 0))) ∧ (w.heap.size ≤ s_) ∧ (w.heap.size ≤ s_) ∧ (gb105 ≠ s_) ∧ (s_ ≠ gb105) ∧ (gb106 ≠ s_) ∧ (s_ ≠ gb106) ∧ (gb107 ≠ s_) ∧ (s_ ≠ gb107) ∧ (gb112 ≠ s_) ∧ (s_ ≠ gb112) ∧ (Below w.heap.size w w')) ?_ ?_
                  rotate_left
                  ·intro hJ9
                   refine three_ (i := 2) (j := 8) (k := 9) (Ni := some 27) (Nj := some 8) (Nk := some 9) MetaOrder.m25 MetaOrder.m26 MetaOrder.m27 rfl rfl rfl rfl rfl rfl (three_of HT_.out (by kernel_rfl)) (by decide) (by decide) (by decide) (fun K hK => ?_) (fun K hK => ?_) (fun K hK => ?_)
                   ·skip
                    refine goes_ Try.func45 (by kernel_rfl) rfl #[.agg #[.int .u8 t108, .int .u32 t109, .int .u64 t110, .int .u64 t111], .agg #[.int .u8 a2_0, .int .u64 a2_1, .int .u8 a2_2, .int .u64 a2_3]] (by rfl) rfl rfl (by (try simp only [List.map_toArray, List.map_cons, List.map_nil]); first | done | rfl | (simp only [List.length_drop, List.length_take]; rfl)) ?_
                    with_reducible refine (meta_Apply.calls t108 t109 t110 t111 a2_0 a2_1 a2_2 a2_3 t115 t116 t117 t118 _ A32.out).mono ?_
                    rintro e w37 ⟨rfl, hb⟩
                    refine ⟨_, rfl, ?_⟩
                    have n0_ := n_blk BK105 hb
                    have n1_ := n_blk BK106 hb
                    have n2_ := n_blk BK107 hb
                    have n3_ := n_blk BK112 hb
                    have n4_ := Aside0.mk (below_step (n_hb HB) hb)
                    clear BK105 BK106 BK107 BK112 HB
                    have BK105 := n0_; have BK106 := n1_; have BK107 := n2_; have BK112 := n3_; have HB := n4_
                    clear n0_ n1_ n2_ n3_ n4_
                    (try clear hb); (try clear hb2); (try clear hk); (try clear hi)
                    refine hK.out _ _ (c4 BK112 (c4 BK107 (c4 BK105 (c4e BK106)))) (fun hHeld => ?_)
                    clear hK K
                    refine norm_ (a' := ?_) ?_ ?_
                    rotate_left
                    ·show Act.put _ (some 27) _ = _
                     simp only [Act.put, List.setIfInBounds_toArray, List.set_cons_zero, List.set_cons_succ, i64_w, i32_w]
                     rfl
                    exact norm_ (by first | (simp only [putAll, Act.put, List.setIfInBounds_toArray, List.set_cons_zero, List.set_cons_succ]; done) | (simp only [putAll, Act.put, List.setIfInBounds_toArray, List.set_cons_zero, List.set_cons_succ]; rfl)) (hJ2 () _ ⟨hHeld, (n_at BK105), (n_at BK106), (n_at BK107), (n_at BK112), (n_hb HB)⟩)
                   ·skip
                    refine box_step ?hg (N := 8) ?hd (cs := #[.int .u8 0, .int .u32 0, .int .u64 0, .int .u64 0]) (t := 85) ?hr ?_; (case hd => rfl); (case hg => rfl); (case hr => first | (go_simp; done) | (go_simp; rfl))
                    intro gb127 hg w37 hbox hb
                    have n0_ := n_blk BK105 hb
                    have n1_ := n_blk BK106 hb
                    have n2_ := n_blk BK107 hb
                    have n3_ := n_blk BK112 hb
                    have n4_ := Aside0.mk (below_step (n_hb HB) hb)
                    have n5_ := Aside0.mk (hbox)
                    have n6_ := Aside0.mk ((by rw [hg]; exact (below_size (n_hb HB)) : w.heap.size ≤ gb127))
                    have n7_ := Aside0.mk ((by rw [hg]; exact (below_size (n_hb HB)) : w.heap.size ≤ gb127))
                    have n8_ := Aside0.mk ((by rw [hg]; exact Nat.ne_of_lt (n_lt BK105) : gb105 ≠ gb127))
                    have n9_ := Aside0.mk ((by rw [hg]; exact Nat.ne_of_gt (n_lt BK105) : gb127 ≠ gb105))
                    have n10_ := Aside0.mk ((by rw [hg]; exact Nat.ne_of_lt (n_lt BK106) : gb106 ≠ gb127))
                    have n11_ := Aside0.mk ((by rw [hg]; exact Nat.ne_of_gt (n_lt BK106) : gb127 ≠ gb106))
                    have n12_ := Aside0.mk ((by rw [hg]; exact Nat.ne_of_lt (n_lt BK107) : gb107 ≠ gb127))
                    have n13_ := Aside0.mk ((by rw [hg]; exact Nat.ne_of_gt (n_lt BK107) : gb127 ≠ gb107))
                    have n14_ := Aside0.mk ((by rw [hg]; exact Nat.ne_of_lt (n_lt BK112) : gb112 ≠ gb127))
                    have n15_ := Aside0.mk ((by rw [hg]; exact Nat.ne_of_gt (n_lt BK112) : gb127 ≠ gb112))
                    clear BK105 BK106 BK107 BK112 HB
                    have BK105 := n0_; have BK106 := n1_; have BK107 := n2_; have BK112 := n3_; have HB := n4_; have BK127 := n5_; have GW127 := n6_; have GE127 := n7_; have NB105_127 := n8_; have NB127_105 := n9_; have NB106_127 := n10_; have NB127_106 := n11_; have NB107_127 := n12_; have NB127_107 := n13_; have NB112_127 := n14_; have NB127_112 := n15_
                    clear n0_ n1_ n2_ n3_ n4_ n5_ n6_ n7_ n8_ n9_ n10_ n11_ n12_ n13_ n14_ n15_ hb hbox hg
                    refine hK.out _ _ (c4 BK112 (c4 BK107 (c4 BK105 (c4e BK106)))) (fun hHeld => ?_)
                    clear hK K
                    refine norm_ (a' := ?_) ?_ ?_
                    rotate_left
                    ·show Act.put _ (some 8) _ = _
                     simp only [Act.put, List.setIfInBounds_toArray, List.set_cons_zero, List.set_cons_succ, i64_w, i32_w]
                     rfl
                    exact norm_ (by first | (simp only [putAll, Act.put, List.setIfInBounds_toArray, List.set_cons_zero, List.set_cons_succ]; done) | (simp only [putAll, Act.put, List.setIfInBounds_toArray, List.set_cons_zero, List.set_cons_succ]; rfl)) (hJ8 (gb127) _ ⟨hHeld, (n_at BK105), (n_at BK106), (n_at BK107), (n_at BK112), (n_at BK127), GW127.out, GE127.out, NB105_127.out, NB127_105.out, NB106_127.out, NB127_106.out, NB107_127.out, NB127_107.out, NB112_127.out, NB127_112.out, (n_hb HB)⟩)
                   ·skip
                    refine box_step ?hg (N := 9) ?hd (cs := #[.int .u8 0, .int .u32 0, .int .u64 0, .int .u64 0]) (t := 85) ?hr ?_; (case hd => rfl); (case hg => rfl); (case hr => first | (go_simp; done) | (go_simp; rfl))
                    intro gb128 hg w37 hbox hb
                    have n0_ := n_blk BK105 hb
                    have n1_ := n_blk BK106 hb
                    have n2_ := n_blk BK107 hb
                    have n3_ := n_blk BK112 hb
                    have n4_ := Aside0.mk (below_step (n_hb HB) hb)
                    have n5_ := Aside0.mk (hbox)
                    have n6_ := Aside0.mk ((by rw [hg]; exact (below_size (n_hb HB)) : w.heap.size ≤ gb128))
                    have n7_ := Aside0.mk ((by rw [hg]; exact (below_size (n_hb HB)) : w.heap.size ≤ gb128))
                    have n8_ := Aside0.mk ((by rw [hg]; exact Nat.ne_of_lt (n_lt BK105) : gb105 ≠ gb128))
                    have n9_ := Aside0.mk ((by rw [hg]; exact Nat.ne_of_gt (n_lt BK105) : gb128 ≠ gb105))
                    have n10_ := Aside0.mk ((by rw [hg]; exact Nat.ne_of_lt (n_lt BK106) : gb106 ≠ gb128))
                    have n11_ := Aside0.mk ((by rw [hg]; exact Nat.ne_of_gt (n_lt BK106) : gb128 ≠ gb106))
                    have n12_ := Aside0.mk ((by rw [hg]; exact Nat.ne_of_lt (n_lt BK107) : gb107 ≠ gb128))
                    have n13_ := Aside0.mk ((by rw [hg]; exact Nat.ne_of_gt (n_lt BK107) : gb128 ≠ gb107))
                    have n14_ := Aside0.mk ((by rw [hg]; exact Nat.ne_of_lt (n_lt BK112) : gb112 ≠ gb128))
                    have n15_ := Aside0.mk ((by rw [hg]; exact Nat.ne_of_gt (n_lt BK112) : gb128 ≠ gb112))
                    clear BK105 BK106 BK107 BK112 HB
                    have BK105 := n0_; have BK106 := n1_; have BK107 := n2_; have BK112 := n3_; have HB := n4_; have BK128 := n5_; have GW128 := n6_; have GE128 := n7_; have NB105_128 := n8_; have NB128_105 := n9_; have NB106_128 := n10_; have NB128_106 := n11_; have NB107_128 := n12_; have NB128_107 := n13_; have NB112_128 := n14_; have NB128_112 := n15_
                    clear n0_ n1_ n2_ n3_ n4_ n5_ n6_ n7_ n8_ n9_ n10_ n11_ n12_ n13_ n14_ n15_ hb hbox hg
                    refine hK.out _ _ (c4 BK112 (c4 BK107 (c4 BK105 (c4e BK106)))) (fun hHeld => ?_)
                    clear hK K
                    refine norm_ (a' := ?_) ?_ ?_
                    rotate_left
                    ·show Act.put _ (some 9) _ = _
                     simp only [Act.put, List.setIfInBounds_toArray, List.set_cons_zero, List.set_cons_succ, i64_w, i32_w]
                     rfl
                    exact norm_ (by first | (simp only [putAll, Act.put, List.setIfInBounds_toArray, List.set_cons_zero, List.set_cons_succ]; done) | (simp only [putAll, Act.put, List.setIfInBounds_toArray, List.set_cons_zero, List.set_cons_succ]; rfl)) (hJ9 (gb128) _ ⟨hHeld, (n_at BK105), (n_at BK106), (n_at BK107), (n_at BK112), (n_at BK128), GW128.out, GE128.out, NB105_128.out, NB128_105.out, NB106_128.out, NB128_106.out, NB107_128.out, NB128_107.out, NB112_128.out, NB128_112.out, (n_hb HB)⟩)
                  ·skip
                   rintro gb128 w38 ⟨hS_, h0_, h1_, h2_, h3_, h4_, h5_, h6_, h7_, h8_, h9_, h10_, h11_, h12_, h13_, h14_, h15_⟩
                   have n0_ : Aside0 (w38.heap[gb105]? = some (.cells #[.int .u8 a0_0, .int .u32 a0_1, .int .u64 a0_2, .int .u64 a0_3] 85 (0, 0))) := ⟨h0_⟩
                   have n1_ : Aside0 (w38.heap[gb106]? = some (.cells #[.int .u8 a1_0, .int .u64 a1_1, .int .u8 a1_2, .int .u64 a1_3] 73 (0, 0))) := ⟨h1_⟩
                   have n2_ : Aside0 (w38.heap[gb107]? = some (.cells #[.int .u8 a2_0, .int .u64 a2_1, .int .u8 a2_2, .int .u64 a2_3] 73 (0, 0))) := ⟨h2_⟩
                   have n3_ : Aside0 (w38.heap[gb112]? = some (.cells #[.int .u8 t108, .int .u32 t109, .int .u64 t110, .int .u64 t111] 85 (0, 0))) := ⟨h3_⟩
                   have n4_ : Aside0 (w38.heap[gb128]? = some (.cells #[.int .u8 0, .int .u32 0, .int .u64 0, .int .u64 0] 85 (0, 0))) := ⟨h4_⟩
                   have n5_ : Aside0 (w.heap.size ≤ gb128) := ⟨h5_⟩
                   have n6_ : Aside0 (w.heap.size ≤ gb128) := ⟨h6_⟩
                   have n7_ : Aside0 (gb105 ≠ gb128) := ⟨h7_⟩
                   have n8_ : Aside0 (gb128 ≠ gb105) := ⟨h8_⟩
                   have n9_ : Aside0 (gb106 ≠ gb128) := ⟨h9_⟩
                   have n10_ : Aside0 (gb128 ≠ gb106) := ⟨h10_⟩
                   have n11_ : Aside0 (gb107 ≠ gb128) := ⟨h11_⟩
                   have n12_ : Aside0 (gb128 ≠ gb107) := ⟨h12_⟩
                   have n13_ : Aside0 (gb112 ≠ gb128) := ⟨h13_⟩
                   have n14_ : Aside0 (gb128 ≠ gb112) := ⟨h14_⟩
                   have n15_ : Aside0 (Below w.heap.size w w38) := ⟨h15_⟩
                   clear BK105 BK106 BK107 BK112 HB h0_ h1_ h2_ h3_ h4_ h5_ h6_ h7_ h8_ h9_ h10_ h11_ h12_ h13_ h14_ h15_
                   have BK105 := n0_; have BK106 := n1_; have BK107 := n2_; have BK112 := n3_; have BK128 := n4_; have GW128 := n5_; have GE128 := n6_; have NB105_128 := n7_; have NB128_105 := n8_; have NB106_128 := n9_; have NB128_106 := n10_; have NB107_128 := n11_; have NB128_107 := n12_; have NB112_128 := n13_; have NB128_112 := n14_; have HB := n15_
                   clear n0_ n1_ n2_ n3_ n4_ n5_ n6_ n7_ n8_ n9_ n10_ n11_ n12_ n13_ n14_ n15_
                   have hHeld : C16 gb112 gb107 gb105 gb106 t108 t109 t110 t111 a2_0 a2_1 a2_2 a2_3 a0_0 a0_1 a0_2 a0_3 a1_0 a1_1 a1_2 a1_3 w38 := hS_
                   refine norm_ (a' := ?_) ?_ ?_
                   rotate_left
                   ·simp only [putAll, Act.put, List.setIfInBounds_toArray, List.set_cons_zero, List.set_cons_succ]
                    rfl
                   refine two_ (i := 2) (j := 8) (Ni := some 27) (Nj := some 8) MetaOrder.m23 MetaOrder.m24 rfl rfl rfl rfl (two_of HT_.out (by kernel_rfl)) (by decide) (by decide) (fun K hK => ?_) (fun K hK => ?_)
                   ·skip
                    refine goes_ Try.func45 (by kernel_rfl) rfl #[.agg #[.int .u8 t108, .int .u32 t109, .int .u64 t110, .int .u64 t111], .agg #[.int .u8 a2_0, .int .u64 a2_1, .int .u8 a2_2, .int .u64 a2_3]] (by rfl) rfl rfl (by (try simp only [List.map_toArray, List.map_cons, List.map_nil]); first | done | rfl | (simp only [List.length_drop, List.length_take]; rfl)) ?_
                    with_reducible refine (meta_Apply.calls t108 t109 t110 t111 a2_0 a2_1 a2_2 a2_3 t115 t116 t117 t118 _ A32.out).mono ?_
                    rintro e w39 ⟨rfl, hb⟩
                    refine ⟨_, rfl, ?_⟩
                    have n0_ := n_blk BK105 hb
                    have n1_ := n_blk BK106 hb
                    have n2_ := n_blk BK107 hb
                    have n3_ := n_blk BK112 hb
                    have n4_ := n_blk BK128 hb
                    have n5_ := Aside0.mk (below_step (n_hb HB) hb)
                    clear BK105 BK106 BK107 BK112 BK128 HB
                    have BK105 := n0_; have BK106 := n1_; have BK107 := n2_; have BK112 := n3_; have BK128 := n4_; have HB := n5_
                    clear n0_ n1_ n2_ n3_ n4_ n5_
                    (try clear hb); (try clear hb2); (try clear hk); (try clear hi)
                    refine hK.out _ _ (c4 BK112 (c4 BK107 (c4 BK105 (c4e BK106)))) (fun hHeld => ?_)
                    clear hK K
                    refine norm_ (a' := ?_) ?_ ?_
                    rotate_left
                    ·show Act.put _ (some 27) _ = _
                     simp only [Act.put, List.setIfInBounds_toArray, List.set_cons_zero, List.set_cons_succ, i64_w, i32_w]
                     rfl
                    exact norm_ (by first | (simp only [putAll, Act.put, List.setIfInBounds_toArray, List.set_cons_zero, List.set_cons_succ]; done) | (simp only [putAll, Act.put, List.setIfInBounds_toArray, List.set_cons_zero, List.set_cons_succ]; rfl)) (hJ2_9 (gb128) _ ⟨hHeld, (n_at BK105), (n_at BK106), (n_at BK107), (n_at BK112), (n_at BK128), GW128.out, GE128.out, NB105_128.out, NB128_105.out, NB106_128.out, NB128_106.out, NB107_128.out, NB128_107.out, NB112_128.out, NB128_112.out, (n_hb HB)⟩)
                   ·skip
                    refine box_step ?hg (N := 8) ?hd (cs := #[.int .u8 0, .int .u32 0, .int .u64 0, .int .u64 0]) (t := 85) ?hr ?_; (case hd => rfl); (case hg => rfl); (case hr => first | (go_simp; done) | (go_simp; rfl))
                    intro gb127 hg w39 hbox hb
                    have n0_ := n_blk BK105 hb
                    have n1_ := n_blk BK106 hb
                    have n2_ := n_blk BK107 hb
                    have n3_ := n_blk BK112 hb
                    have n4_ := n_blk BK128 hb
                    have n5_ := Aside0.mk (below_step (n_hb HB) hb)
                    have n6_ := Aside0.mk (hbox)
                    have n7_ := Aside0.mk ((by rw [hg]; exact (below_size (n_hb HB)) : w.heap.size ≤ gb127))
                    have n8_ := Aside0.mk ((by rw [hg]; exact (below_size (n_hb HB)) : w.heap.size ≤ gb127))
                    have n9_ := Aside0.mk ((by rw [hg]; exact Nat.ne_of_lt (n_lt BK105) : gb105 ≠ gb127))
                    have n10_ := Aside0.mk ((by rw [hg]; exact Nat.ne_of_gt (n_lt BK105) : gb127 ≠ gb105))
                    have n11_ := Aside0.mk ((by rw [hg]; exact Nat.ne_of_lt (n_lt BK106) : gb106 ≠ gb127))
                    have n12_ := Aside0.mk ((by rw [hg]; exact Nat.ne_of_gt (n_lt BK106) : gb127 ≠ gb106))
                    have n13_ := Aside0.mk ((by rw [hg]; exact Nat.ne_of_lt (n_lt BK107) : gb107 ≠ gb127))
                    have n14_ := Aside0.mk ((by rw [hg]; exact Nat.ne_of_gt (n_lt BK107) : gb127 ≠ gb107))
                    have n15_ := Aside0.mk ((by rw [hg]; exact Nat.ne_of_lt (n_lt BK112) : gb112 ≠ gb127))
                    have n16_ := Aside0.mk ((by rw [hg]; exact Nat.ne_of_gt (n_lt BK112) : gb127 ≠ gb112))
                    have n17_ := Aside0.mk ((by rw [hg]; exact Nat.ne_of_lt (n_lt BK128) : gb128 ≠ gb127))
                    have n18_ := Aside0.mk ((by rw [hg]; exact Nat.ne_of_gt (n_lt BK128) : gb127 ≠ gb128))
                    clear BK105 BK106 BK107 BK112 BK128 HB
                    have BK105 := n0_; have BK106 := n1_; have BK107 := n2_; have BK112 := n3_; have BK128 := n4_; have HB := n5_; have BK127 := n6_; have GW127 := n7_; have GE127 := n8_; have NB105_127 := n9_; have NB127_105 := n10_; have NB106_127 := n11_; have NB127_106 := n12_; have NB107_127 := n13_; have NB127_107 := n14_; have NB112_127 := n15_; have NB127_112 := n16_; have NB128_127 := n17_; have NB127_128 := n18_
                    clear n0_ n1_ n2_ n3_ n4_ n5_ n6_ n7_ n8_ n9_ n10_ n11_ n12_ n13_ n14_ n15_ n16_ n17_ n18_ hb hbox hg
                    refine hK.out _ _ (c4 BK112 (c4 BK107 (c4 BK105 (c4e BK106)))) (fun hHeld => ?_)
                    clear hK K
                    refine norm_ (a' := ?_) ?_ ?_
                    rotate_left
                    ·show Act.put _ (some 8) _ = _
                     simp only [Act.put, List.setIfInBounds_toArray, List.set_cons_zero, List.set_cons_succ, i64_w, i32_w]
                     rfl
                    exact norm_ (by first | (simp only [putAll, Act.put, List.setIfInBounds_toArray, List.set_cons_zero, List.set_cons_succ]; done) | (simp only [putAll, Act.put, List.setIfInBounds_toArray, List.set_cons_zero, List.set_cons_succ]; rfl)) (hJ8_9 (gb127, gb128) _ ⟨hHeld, (n_at BK105), (n_at BK106), (n_at BK107), (n_at BK112), (n_at BK127), (n_at BK128), GW127.out, GE127.out, NB105_127.out, NB127_105.out, NB106_127.out, NB127_106.out, NB107_127.out, NB127_107.out, NB112_127.out, NB127_112.out, NB128_127.out, NB127_128.out, GW128.out, GE128.out, NB105_128.out, NB128_105.out, NB106_128.out, NB128_106.out, NB107_128.out, NB128_107.out, NB112_128.out, NB128_112.out, (n_hb HB)⟩)
                 ·skip
                  rintro gb127 w38 ⟨hS_, h0_, h1_, h2_, h3_, h4_, h5_, h6_, h7_, h8_, h9_, h10_, h11_, h12_, h13_, h14_, h15_⟩
                  have n0_ : Aside0 (w38.heap[gb105]? = some (.cells #[.int .u8 a0_0, .int .u32 a0_1, .int .u64 a0_2, .int .u64 a0_3] 85 (0, 0))) := ⟨h0_⟩
                  have n1_ : Aside0 (w38.heap[gb106]? = some (.cells #[.int .u8 a1_0, .int .u64 a1_1, .int .u8 a1_2, .int .u64 a1_3] 73 (0, 0))) := ⟨h1_⟩
                  have n2_ : Aside0 (w38.heap[gb107]? = some (.cells #[.int .u8 a2_0, .int .u64 a2_1, .int .u8 a2_2, .int .u64 a2_3] 73 (0, 0))) := ⟨h2_⟩
                  have n3_ : Aside0 (w38.heap[gb112]? = some (.cells #[.int .u8 t108, .int .u32 t109, .int .u64 t110, .int .u64 t111] 85 (0, 0))) := ⟨h3_⟩
                  have n4_ : Aside0 (w38.heap[gb127]? = some (.cells #[.int .u8 0, .int .u32 0, .int .u64 0, .int .u64 0] 85 (0, 0))) := ⟨h4_⟩
                  have n5_ : Aside0 (w.heap.size ≤ gb127) := ⟨h5_⟩
                  have n6_ : Aside0 (w.heap.size ≤ gb127) := ⟨h6_⟩
                  have n7_ : Aside0 (gb105 ≠ gb127) := ⟨h7_⟩
                  have n8_ : Aside0 (gb127 ≠ gb105) := ⟨h8_⟩
                  have n9_ : Aside0 (gb106 ≠ gb127) := ⟨h9_⟩
                  have n10_ : Aside0 (gb127 ≠ gb106) := ⟨h10_⟩
                  have n11_ : Aside0 (gb107 ≠ gb127) := ⟨h11_⟩
                  have n12_ : Aside0 (gb127 ≠ gb107) := ⟨h12_⟩
                  have n13_ : Aside0 (gb112 ≠ gb127) := ⟨h13_⟩
                  have n14_ : Aside0 (gb127 ≠ gb112) := ⟨h14_⟩
                  have n15_ : Aside0 (Below w.heap.size w w38) := ⟨h15_⟩
                  clear BK105 BK106 BK107 BK112 HB h0_ h1_ h2_ h3_ h4_ h5_ h6_ h7_ h8_ h9_ h10_ h11_ h12_ h13_ h14_ h15_
                  have BK105 := n0_; have BK106 := n1_; have BK107 := n2_; have BK112 := n3_; have BK127 := n4_; have GW127 := n5_; have GE127 := n6_; have NB105_127 := n7_; have NB127_105 := n8_; have NB106_127 := n9_; have NB127_106 := n10_; have NB107_127 := n11_; have NB127_107 := n12_; have NB112_127 := n13_; have NB127_112 := n14_; have HB := n15_
                  clear n0_ n1_ n2_ n3_ n4_ n5_ n6_ n7_ n8_ n9_ n10_ n11_ n12_ n13_ n14_ n15_
                  have hHeld : C16 gb112 gb107 gb105 gb106 t108 t109 t110 t111 a2_0 a2_1 a2_2 a2_3 a0_0 a0_1 a0_2 a0_3 a1_0 a1_1 a1_2 a1_3 w38 := hS_
                  refine norm_ (a' := ?_) ?_ ?_
                  rotate_left
                  ·simp only [putAll, Act.put, List.setIfInBounds_toArray, List.set_cons_zero, List.set_cons_succ]
                   rfl
                  refine two_ (i := 2) (j := 9) (Ni := some 27) (Nj := some 9) MetaOrder.m22 MetaOrder.m24 rfl rfl rfl rfl (two_of HT_.out (by kernel_rfl)) (by decide) (by decide) (fun K hK => ?_) (fun K hK => ?_)
                  ·skip
                   refine goes_ Try.func45 (by kernel_rfl) rfl #[.agg #[.int .u8 t108, .int .u32 t109, .int .u64 t110, .int .u64 t111], .agg #[.int .u8 a2_0, .int .u64 a2_1, .int .u8 a2_2, .int .u64 a2_3]] (by rfl) rfl rfl (by (try simp only [List.map_toArray, List.map_cons, List.map_nil]); first | done | rfl | (simp only [List.length_drop, List.length_take]; rfl)) ?_
                   with_reducible refine (meta_Apply.calls t108 t109 t110 t111 a2_0 a2_1 a2_2 a2_3 t115 t116 t117 t118 _ A32.out).mono ?_
                   rintro e w39 ⟨rfl, hb⟩
                   refine ⟨_, rfl, ?_⟩
                   have n0_ := n_blk BK105 hb
                   have n1_ := n_blk BK106 hb
                   have n2_ := n_blk BK107 hb
                   have n3_ := n_blk BK112 hb
                   have n4_ := n_blk BK127 hb
                   have n5_ := Aside0.mk (below_step (n_hb HB) hb)
                   clear BK105 BK106 BK107 BK112 BK127 HB
                   have BK105 := n0_; have BK106 := n1_; have BK107 := n2_; have BK112 := n3_; have BK127 := n4_; have HB := n5_
                   clear n0_ n1_ n2_ n3_ n4_ n5_
                   (try clear hb); (try clear hb2); (try clear hk); (try clear hi)
                   refine hK.out _ _ (c4 BK112 (c4 BK107 (c4 BK105 (c4e BK106)))) (fun hHeld => ?_)
                   clear hK K
                   refine norm_ (a' := ?_) ?_ ?_
                   rotate_left
                   ·show Act.put _ (some 27) _ = _
                    simp only [Act.put, List.setIfInBounds_toArray, List.set_cons_zero, List.set_cons_succ, i64_w, i32_w]
                    rfl
                   exact norm_ (by first | (simp only [putAll, Act.put, List.setIfInBounds_toArray, List.set_cons_zero, List.set_cons_succ]; done) | (simp only [putAll, Act.put, List.setIfInBounds_toArray, List.set_cons_zero, List.set_cons_succ]; rfl)) (hJ2_8 (gb127) _ ⟨hHeld, (n_at BK105), (n_at BK106), (n_at BK107), (n_at BK112), (n_at BK127), GW127.out, GE127.out, NB105_127.out, NB127_105.out, NB106_127.out, NB127_106.out, NB107_127.out, NB127_107.out, NB112_127.out, NB127_112.out, (n_hb HB)⟩)
                  ·skip
                   refine box_step ?hg (N := 9) ?hd (cs := #[.int .u8 0, .int .u32 0, .int .u64 0, .int .u64 0]) (t := 85) ?hr ?_; (case hd => rfl); (case hg => rfl); (case hr => first | (go_simp; done) | (go_simp; rfl))
                   intro gb128 hg w39 hbox hb
                   have n0_ := n_blk BK105 hb
                   have n1_ := n_blk BK106 hb
                   have n2_ := n_blk BK107 hb
                   have n3_ := n_blk BK112 hb
                   have n4_ := n_blk BK127 hb
                   have n5_ := Aside0.mk (below_step (n_hb HB) hb)
                   have n6_ := Aside0.mk (hbox)
                   have n7_ := Aside0.mk ((by rw [hg]; exact (below_size (n_hb HB)) : w.heap.size ≤ gb128))
                   have n8_ := Aside0.mk ((by rw [hg]; exact (below_size (n_hb HB)) : w.heap.size ≤ gb128))
                   have n9_ := Aside0.mk ((by rw [hg]; exact Nat.ne_of_lt (n_lt BK105) : gb105 ≠ gb128))
                   have n10_ := Aside0.mk ((by rw [hg]; exact Nat.ne_of_gt (n_lt BK105) : gb128 ≠ gb105))
                   have n11_ := Aside0.mk ((by rw [hg]; exact Nat.ne_of_lt (n_lt BK106) : gb106 ≠ gb128))
                   have n12_ := Aside0.mk ((by rw [hg]; exact Nat.ne_of_gt (n_lt BK106) : gb128 ≠ gb106))
                   have n13_ := Aside0.mk ((by rw [hg]; exact Nat.ne_of_lt (n_lt BK107) : gb107 ≠ gb128))
                   have n14_ := Aside0.mk ((by rw [hg]; exact Nat.ne_of_gt (n_lt BK107) : gb128 ≠ gb107))
                   have n15_ := Aside0.mk ((by rw [hg]; exact Nat.ne_of_lt (n_lt BK112) : gb112 ≠ gb128))
                   have n16_ := Aside0.mk ((by rw [hg]; exact Nat.ne_of_gt (n_lt BK112) : gb128 ≠ gb112))
                   have n17_ := Aside0.mk ((by rw [hg]; exact Nat.ne_of_lt (n_lt BK127) : gb127 ≠ gb128))
                   have n18_ := Aside0.mk ((by rw [hg]; exact Nat.ne_of_gt (n_lt BK127) : gb128 ≠ gb127))
                   clear BK105 BK106 BK107 BK112 BK127 HB
                   have BK105 := n0_; have BK106 := n1_; have BK107 := n2_; have BK112 := n3_; have BK127 := n4_; have HB := n5_; have BK128 := n6_; have GW128 := n7_; have GE128 := n8_; have NB105_128 := n9_; have NB128_105 := n10_; have NB106_128 := n11_; have NB128_106 := n12_; have NB107_128 := n13_; have NB128_107 := n14_; have NB112_128 := n15_; have NB128_112 := n16_; have NB127_128 := n17_; have NB128_127 := n18_
                   clear n0_ n1_ n2_ n3_ n4_ n5_ n6_ n7_ n8_ n9_ n10_ n11_ n12_ n13_ n14_ n15_ n16_ n17_ n18_ hb hbox hg
                   refine hK.out _ _ (c4 BK112 (c4 BK107 (c4 BK105 (c4e BK106)))) (fun hHeld => ?_)
                   clear hK K
                   refine norm_ (a' := ?_) ?_ ?_
                   rotate_left
                   ·show Act.put _ (some 9) _ = _
                    simp only [Act.put, List.setIfInBounds_toArray, List.set_cons_zero, List.set_cons_succ, i64_w, i32_w]
                    rfl
                   exact norm_ (by first | (simp only [putAll, Act.put, List.setIfInBounds_toArray, List.set_cons_zero, List.set_cons_succ]; done) | (simp only [putAll, Act.put, List.setIfInBounds_toArray, List.set_cons_zero, List.set_cons_succ]; rfl)) (hJ8_9 (gb127, gb128) _ ⟨hHeld, (n_at BK105), (n_at BK106), (n_at BK107), (n_at BK112), (n_at BK127), (n_at BK128), GW127.out, GE127.out, NB105_127.out, NB127_105.out, NB106_127.out, NB127_106.out, NB107_127.out, NB127_107.out, NB112_127.out, NB127_112.out, NB128_127.out, NB127_128.out, GW128.out, GE128.out, NB105_128.out, NB128_105.out, NB106_128.out, NB128_106.out, NB107_128.out, NB128_107.out, NB112_128.out, NB128_112.out, (n_hb HB)⟩)
                ·skip
                 rintro _ w38 ⟨hS_, h0_, h1_, h2_, h3_, h4_⟩
                 have n0_ : Aside0 (w38.heap[gb105]? = some (.cells #[.int .u8 a0_0, .int .u32 a0_1, .int .u64 a0_2, .int .u64 a0_3] 85 (0, 0))) := ⟨h0_⟩
                 have n1_ : Aside0 (w38.heap[gb106]? = some (.cells #[.int .u8 a1_0, .int .u64 a1_1, .int .u8 a1_2, .int .u64 a1_3] 73 (0, 0))) := ⟨h1_⟩
                 have n2_ : Aside0 (w38.heap[gb107]? = some (.cells #[.int .u8 a2_0, .int .u64 a2_1, .int .u8 a2_2, .int .u64 a2_3] 73 (0, 0))) := ⟨h2_⟩
                 have n3_ : Aside0 (w38.heap[gb112]? = some (.cells #[.int .u8 t108, .int .u32 t109, .int .u64 t110, .int .u64 t111] 85 (0, 0))) := ⟨h3_⟩
                 have n4_ : Aside0 (Below w.heap.size w w38) := ⟨h4_⟩
                 clear BK105 BK106 BK107 BK112 HB h0_ h1_ h2_ h3_ h4_
                 have BK105 := n0_; have BK106 := n1_; have BK107 := n2_; have BK112 := n3_; have HB := n4_
                 clear n0_ n1_ n2_ n3_ n4_
                 have hHeld : C16 gb112 gb107 gb105 gb106 t108 t109 t110 t111 a2_0 a2_1 a2_2 a2_3 a0_0 a0_1 a0_2 a0_3 a1_0 a1_1 a1_2 a1_3 w38 := hS_
                 refine norm_ (a' := ?_) ?_ ?_
                 rotate_left
                 ·simp only [putAll, Act.put, List.setIfInBounds_toArray, List.set_cons_zero, List.set_cons_succ]
                  rfl
                 refine three_ (i := 5) (j := 8) (k := 9) (Ni := some 30) (Nj := some 8) (Nk := some 9) MetaOrder.m7 MetaOrder.m22 MetaOrder.m23 rfl rfl rfl rfl rfl rfl (three_of HT_.out (by kernel_rfl)) (by decide) (by decide) (by decide) (fun K hK => ?_) (fun K hK => ?_) (fun K hK => ?_)
                 ·skip
                  refine goes_ Try.func45 (by kernel_rfl) rfl #[.agg #[.int .u8 a0_0, .int .u32 a0_1, .int .u64 a0_2, .int .u64 a0_3], .agg #[.int .u8 a2_0, .int .u64 a2_1, .int .u8 a2_2, .int .u64 a2_3]] (by rfl) rfl rfl (by (try simp only [List.map_toArray, List.map_cons, List.map_nil]); first | done | rfl | (simp only [List.length_drop, List.length_take]; rfl)) ?_
                  with_reducible refine (meta_Apply.calls a0_0 a0_1 a0_2 a0_3 a2_0 a2_1 a2_2 a2_3 t119 t120 t121 t122 _ A33.out).mono ?_
                  rintro e w39 ⟨rfl, hb⟩
                  refine ⟨_, rfl, ?_⟩
                  have n0_ := n_blk BK105 hb
                  have n1_ := n_blk BK106 hb
                  have n2_ := n_blk BK107 hb
                  have n3_ := n_blk BK112 hb
                  have n4_ := Aside0.mk (below_step (n_hb HB) hb)
                  clear BK105 BK106 BK107 BK112 HB
                  have BK105 := n0_; have BK106 := n1_; have BK107 := n2_; have BK112 := n3_; have HB := n4_
                  clear n0_ n1_ n2_ n3_ n4_
                  (try clear hb); (try clear hb2); (try clear hk); (try clear hi)
                  refine hK.out _ _ (c4 BK112 (c4 BK107 (c4 BK105 (c4e BK106)))) (fun hHeld => ?_)
                  clear hK K
                  refine norm_ (a' := ?_) ?_ ?_
                  rotate_left
                  ·show Act.put _ (some 30) _ = _
                   simp only [Act.put, List.setIfInBounds_toArray, List.set_cons_zero, List.set_cons_succ, i64_w, i32_w]
                   rfl
                  exact norm_ (by first | (simp only [putAll, Act.put, List.setIfInBounds_toArray, List.set_cons_zero, List.set_cons_succ]; done) | (simp only [putAll, Act.put, List.setIfInBounds_toArray, List.set_cons_zero, List.set_cons_succ]; rfl)) (hJ2_5 () _ ⟨hHeld, (n_at BK105), (n_at BK106), (n_at BK107), (n_at BK112), (n_hb HB)⟩)
                 ·skip
                  refine box_step ?hg (N := 8) ?hd (cs := #[.int .u8 0, .int .u32 0, .int .u64 0, .int .u64 0]) (t := 85) ?hr ?_; (case hd => rfl); (case hg => rfl); (case hr => first | (go_simp; done) | (go_simp; rfl))
                  intro gb127 hg w39 hbox hb
                  have n0_ := n_blk BK105 hb
                  have n1_ := n_blk BK106 hb
                  have n2_ := n_blk BK107 hb
                  have n3_ := n_blk BK112 hb
                  have n4_ := Aside0.mk (below_step (n_hb HB) hb)
                  have n5_ := Aside0.mk (hbox)
                  have n6_ := Aside0.mk ((by rw [hg]; exact (below_size (n_hb HB)) : w.heap.size ≤ gb127))
                  have n7_ := Aside0.mk ((by rw [hg]; exact (below_size (n_hb HB)) : w.heap.size ≤ gb127))
                  have n8_ := Aside0.mk ((by rw [hg]; exact Nat.ne_of_lt (n_lt BK105) : gb105 ≠ gb127))
                  have n9_ := Aside0.mk ((by rw [hg]; exact Nat.ne_of_gt (n_lt BK105) : gb127 ≠ gb105))
                  have n10_ := Aside0.mk ((by rw [hg]; exact Nat.ne_of_lt (n_lt BK106) : gb106 ≠ gb127))
                  have n11_ := Aside0.mk ((by rw [hg]; exact Nat.ne_of_gt (n_lt BK106) : gb127 ≠ gb106))
                  have n12_ := Aside0.mk ((by rw [hg]; exact Nat.ne_of_lt (n_lt BK107) : gb107 ≠ gb127))
                  have n13_ := Aside0.mk ((by rw [hg]; exact Nat.ne_of_gt (n_lt BK107) : gb127 ≠ gb107))
                  have n14_ := Aside0.mk ((by rw [hg]; exact Nat.ne_of_lt (n_lt BK112) : gb112 ≠ gb127))
                  have n15_ := Aside0.mk ((by rw [hg]; exact Nat.ne_of_gt (n_lt BK112) : gb127 ≠ gb112))
                  clear BK105 BK106 BK107 BK112 HB
                  have BK105 := n0_; have BK106 := n1_; have BK107 := n2_; have BK112 := n3_; have HB := n4_; have BK127 := n5_; have GW127 := n6_; have GE127 := n7_; have NB105_127 := n8_; have NB127_105 := n9_; have NB106_127 := n10_; have NB127_106 := n11_; have NB107_127 := n12_; have NB127_107 := n13_; have NB112_127 := n14_; have NB127_112 := n15_
                  clear n0_ n1_ n2_ n3_ n4_ n5_ n6_ n7_ n8_ n9_ n10_ n11_ n12_ n13_ n14_ n15_ hb hbox hg
                  refine hK.out _ _ (c4 BK112 (c4 BK107 (c4 BK105 (c4e BK106)))) (fun hHeld => ?_)
                  clear hK K
                  refine norm_ (a' := ?_) ?_ ?_
                  rotate_left
                  ·show Act.put _ (some 8) _ = _
                   simp only [Act.put, List.setIfInBounds_toArray, List.set_cons_zero, List.set_cons_succ, i64_w, i32_w]
                   rfl
                  exact norm_ (by first | (simp only [putAll, Act.put, List.setIfInBounds_toArray, List.set_cons_zero, List.set_cons_succ]; done) | (simp only [putAll, Act.put, List.setIfInBounds_toArray, List.set_cons_zero, List.set_cons_succ]; rfl)) (hJ2_8 (gb127) _ ⟨hHeld, (n_at BK105), (n_at BK106), (n_at BK107), (n_at BK112), (n_at BK127), GW127.out, GE127.out, NB105_127.out, NB127_105.out, NB106_127.out, NB127_106.out, NB107_127.out, NB127_107.out, NB112_127.out, NB127_112.out, (n_hb HB)⟩)
                 ·skip
                  refine box_step ?hg (N := 9) ?hd (cs := #[.int .u8 0, .int .u32 0, .int .u64 0, .int .u64 0]) (t := 85) ?hr ?_; (case hd => rfl); (case hg => rfl); (case hr => first | (go_simp; done) | (go_simp; rfl))
                  intro gb128 hg w39 hbox hb
                  have n0_ := n_blk BK105 hb
                  have n1_ := n_blk BK106 hb
                  have n2_ := n_blk BK107 hb
                  have n3_ := n_blk BK112 hb
                  have n4_ := Aside0.mk (below_step (n_hb HB) hb)
                  have n5_ := Aside0.mk (hbox)
                  have n6_ := Aside0.mk ((by rw [hg]; exact (below_size (n_hb HB)) : w.heap.size ≤ gb128))
                  have n7_ := Aside0.mk ((by rw [hg]; exact (below_size (n_hb HB)) : w.heap.size ≤ gb128))
                  have n8_ := Aside0.mk ((by rw [hg]; exact Nat.ne_of_lt (n_lt BK105) : gb105 ≠ gb128))
                  have n9_ := Aside0.mk ((by rw [hg]; exact Nat.ne_of_gt (n_lt BK105) : gb128 ≠ gb105))
                  have n10_ := Aside0.mk ((by rw [hg]; exact Nat.ne_of_lt (n_lt BK106) : gb106 ≠ gb128))
                  have n11_ := Aside0.mk ((by rw [hg]; exact Nat.ne_of_gt (n_lt BK106) : gb128 ≠ gb106))
                  have n12_ := Aside0.mk ((by rw [hg]; exact Nat.ne_of_lt (n_lt BK107) : gb107 ≠ gb128))
                  have n13_ := Aside0.mk ((by rw [hg]; exact Nat.ne_of_gt (n_lt BK107) : gb128 ≠ gb107))
                  have n14_ := Aside0.mk ((by rw [hg]; exact Nat.ne_of_lt (n_lt BK112) : gb112 ≠ gb128))
                  have n15_ := Aside0.mk ((by rw [hg]; exact Nat.ne_of_gt (n_lt BK112) : gb128 ≠ gb112))
                  clear BK105 BK106 BK107 BK112 HB
                  have BK105 := n0_; have BK106 := n1_; have BK107 := n2_; have BK112 := n3_; have HB := n4_; have BK128 := n5_; have GW128 := n6_; have GE128 := n7_; have NB105_128 := n8_; have NB128_105 := n9_; have NB106_128 := n10_; have NB128_106 := n11_; have NB107_128 := n12_; have NB128_107 := n13_; have NB112_128 := n14_; have NB128_112 := n15_
                  clear n0_ n1_ n2_ n3_ n4_ n5_ n6_ n7_ n8_ n9_ n10_ n11_ n12_ n13_ n14_ n15_ hb hbox hg
                  refine hK.out _ _ (c4 BK112 (c4 BK107 (c4 BK105 (c4e BK106)))) (fun hHeld => ?_)
                  clear hK K
                  refine norm_ (a' := ?_) ?_ ?_
                  rotate_left
                  ·show Act.put _ (some 9) _ = _
                   simp only [Act.put, List.setIfInBounds_toArray, List.set_cons_zero, List.set_cons_succ, i64_w, i32_w]
                   rfl
                  exact norm_ (by first | (simp only [putAll, Act.put, List.setIfInBounds_toArray, List.set_cons_zero, List.set_cons_succ]; done) | (simp only [putAll, Act.put, List.setIfInBounds_toArray, List.set_cons_zero, List.set_cons_succ]; rfl)) (hJ2_9 (gb128) _ ⟨hHeld, (n_at BK105), (n_at BK106), (n_at BK107), (n_at BK112), (n_at BK128), GW128.out, GE128.out, NB105_128.out, NB128_105.out, NB106_128.out, NB128_106.out, NB107_128.out, NB128_107.out, NB112_128.out, NB128_112.out, (n_hb HB)⟩)
               ·skip
                rintro ⟨gb127, gb128⟩ w39 ⟨hS_, h0_, h1_, h2_, h3_, h4_, h5_, h6_, h7_, h8_, h9_, h10_, h11_, h12_, h13_, h14_, h15_, h16_, h17_, h18_, h19_, h20_, h21_, h22_, h23_, h24_, h25_, h26_, h27_, h28_⟩
                have n0_ : Aside0 (w39.heap[gb105]? = some (.cells #[.int .u8 a0_0, .int .u32 a0_1, .int .u64 a0_2, .int .u64 a0_3] 85 (0, 0))) := ⟨h0_⟩
                have n1_ : Aside0 (w39.heap[gb106]? = some (.cells #[.int .u8 a1_0, .int .u64 a1_1, .int .u8 a1_2, .int .u64 a1_3] 73 (0, 0))) := ⟨h1_⟩
                have n2_ : Aside0 (w39.heap[gb107]? = some (.cells #[.int .u8 a2_0, .int .u64 a2_1, .int .u8 a2_2, .int .u64 a2_3] 73 (0, 0))) := ⟨h2_⟩
                have n3_ : Aside0 (w39.heap[gb112]? = some (.cells #[.int .u8 t108, .int .u32 t109, .int .u64 t110, .int .u64 t111] 85 (0, 0))) := ⟨h3_⟩
                have n4_ : Aside0 (w39.heap[gb127]? = some (.cells #[.int .u8 0, .int .u32 0, .int .u64 0, .int .u64 0] 85 (0, 0))) := ⟨h4_⟩
                have n5_ : Aside0 (w39.heap[gb128]? = some (.cells #[.int .u8 0, .int .u32 0, .int .u64 0, .int .u64 0] 85 (0, 0))) := ⟨h5_⟩
                have n6_ : Aside0 (w.heap.size ≤ gb127) := ⟨h6_⟩
                have n7_ : Aside0 (w.heap.size ≤ gb127) := ⟨h7_⟩
                have n8_ : Aside0 (gb105 ≠ gb127) := ⟨h8_⟩
                have n9_ : Aside0 (gb127 ≠ gb105) := ⟨h9_⟩
                have n10_ : Aside0 (gb106 ≠ gb127) := ⟨h10_⟩
                have n11_ : Aside0 (gb127 ≠ gb106) := ⟨h11_⟩
                have n12_ : Aside0 (gb107 ≠ gb127) := ⟨h12_⟩
                have n13_ : Aside0 (gb127 ≠ gb107) := ⟨h13_⟩
                have n14_ : Aside0 (gb112 ≠ gb127) := ⟨h14_⟩
                have n15_ : Aside0 (gb127 ≠ gb112) := ⟨h15_⟩
                have n16_ : Aside0 (gb128 ≠ gb127) := ⟨h16_⟩
                have n17_ : Aside0 (gb127 ≠ gb128) := ⟨h17_⟩
                have n18_ : Aside0 (w.heap.size ≤ gb128) := ⟨h18_⟩
                have n19_ : Aside0 (w.heap.size ≤ gb128) := ⟨h19_⟩
                have n20_ : Aside0 (gb105 ≠ gb128) := ⟨h20_⟩
                have n21_ : Aside0 (gb128 ≠ gb105) := ⟨h21_⟩
                have n22_ : Aside0 (gb106 ≠ gb128) := ⟨h22_⟩
                have n23_ : Aside0 (gb128 ≠ gb106) := ⟨h23_⟩
                have n24_ : Aside0 (gb107 ≠ gb128) := ⟨h24_⟩
                have n25_ : Aside0 (gb128 ≠ gb107) := ⟨h25_⟩
                have n26_ : Aside0 (gb112 ≠ gb128) := ⟨h26_⟩
                have n27_ : Aside0 (gb128 ≠ gb112) := ⟨h27_⟩
                have n28_ : Aside0 (Below w.heap.size w w39) := ⟨h28_⟩
                clear BK105 BK106 BK107 BK112 HB h0_ h1_ h2_ h3_ h4_ h5_ h6_ h7_ h8_ h9_ h10_ h11_ h12_ h13_ h14_ h15_ h16_ h17_ h18_ h19_ h20_ h21_ h22_ h23_ h24_ h25_ h26_ h27_ h28_
                have BK105 := n0_; have BK106 := n1_; have BK107 := n2_; have BK112 := n3_; have BK127 := n4_; have BK128 := n5_; have GW127 := n6_; have GE127 := n7_; have NB105_127 := n8_; have NB127_105 := n9_; have NB106_127 := n10_; have NB127_106 := n11_; have NB107_127 := n12_; have NB127_107 := n13_; have NB112_127 := n14_; have NB127_112 := n15_; have NB128_127 := n16_; have NB127_128 := n17_; have GW128 := n18_; have GE128 := n19_; have NB105_128 := n20_; have NB128_105 := n21_; have NB106_128 := n22_; have NB128_106 := n23_; have NB107_128 := n24_; have NB128_107 := n25_; have NB112_128 := n26_; have NB128_112 := n27_; have HB := n28_
                clear n0_ n1_ n2_ n3_ n4_ n5_ n6_ n7_ n8_ n9_ n10_ n11_ n12_ n13_ n14_ n15_ n16_ n17_ n18_ n19_ n20_ n21_ n22_ n23_ n24_ n25_ n26_ n27_ n28_
                have hHeld : C16 gb112 gb107 gb105 gb106 t108 t109 t110 t111 a2_0 a2_1 a2_2 a2_3 a0_0 a0_1 a0_2 a0_3 a1_0 a1_1 a1_2 a1_3 w39 := hS_
                refine norm_ (a' := ?_) ?_ ?_
                rotate_left
                ·simp only [putAll, Act.put, List.setIfInBounds_toArray, List.set_cons_zero, List.set_cons_succ]
                 rfl
                refine one_ (i := 2) (N := some 27) MetaOrder.m21 rfl rfl (one_of HT_.out (by kernel_rfl)) (by decide) (fun K hK => ?_)
                refine goes_ Try.func45 (by kernel_rfl) rfl #[.agg #[.int .u8 t108, .int .u32 t109, .int .u64 t110, .int .u64 t111], .agg #[.int .u8 a2_0, .int .u64 a2_1, .int .u8 a2_2, .int .u64 a2_3]] (by rfl) rfl rfl (by (try simp only [List.map_toArray, List.map_cons, List.map_nil]); first | done | rfl | (simp only [List.length_drop, List.length_take]; rfl)) ?_
                with_reducible refine (meta_Apply.calls t108 t109 t110 t111 a2_0 a2_1 a2_2 a2_3 t115 t116 t117 t118 _ A32.out).mono ?_
                rintro e w40 ⟨rfl, hb⟩
                refine ⟨_, rfl, ?_⟩
                have n0_ := n_blk BK105 hb
                have n1_ := n_blk BK106 hb
                have n2_ := n_blk BK107 hb
                have n3_ := n_blk BK112 hb
                have n4_ := n_blk BK127 hb
                have n5_ := n_blk BK128 hb
                have n6_ := Aside0.mk (below_step (n_hb HB) hb)
                clear BK105 BK106 BK107 BK112 BK127 BK128 HB
                have BK105 := n0_; have BK106 := n1_; have BK107 := n2_; have BK112 := n3_; have BK127 := n4_; have BK128 := n5_; have HB := n6_
                clear n0_ n1_ n2_ n3_ n4_ n5_ n6_
                (try clear hb); (try clear hb2); (try clear hk); (try clear hi)
                refine hK.out _ _ (c4 BK112 (c4 BK107 (c4 BK105 (c4e BK106)))) (fun hHeld => ?_)
                clear hK K
                refine norm_ (a' := ?_) ?_ ?_
                rotate_left
                ·show Act.put _ (some 27) _ = _
                 simp only [Act.put, List.setIfInBounds_toArray, List.set_cons_zero, List.set_cons_succ, i64_w, i32_w]
                 rfl
                exact norm_ (by first | (simp only [putAll, Act.put, List.setIfInBounds_toArray, List.set_cons_zero, List.set_cons_succ]; done) | (simp only [putAll, Act.put, List.setIfInBounds_toArray, List.set_cons_zero, List.set_cons_succ]; rfl)) (hJ2_8_9 (gb127, gb128) _ ⟨hHeld, (n_at BK105), (n_at BK106), (n_at BK107), (n_at BK112), (n_at BK127), (n_at BK128), GW127.out, GE127.out, NB105_127.out, NB127_105.out, NB106_127.out, NB127_106.out, NB107_127.out, NB127_107.out, NB112_127.out, NB127_112.out, NB128_127.out, NB127_128.out, GW128.out, GE128.out, NB105_128.out, NB128_105.out, NB106_128.out, NB128_106.out, NB107_128.out, NB128_107.out, NB112_128.out, NB128_112.out, (n_hb HB)⟩)
              ·skip
               rintro gb128 w39 ⟨hS_, h0_, h1_, h2_, h3_, h4_, h5_, h6_, h7_, h8_, h9_, h10_, h11_, h12_, h13_, h14_, h15_⟩
               have n0_ : Aside0 (w39.heap[gb105]? = some (.cells #[.int .u8 a0_0, .int .u32 a0_1, .int .u64 a0_2, .int .u64 a0_3] 85 (0, 0))) := ⟨h0_⟩
               have n1_ : Aside0 (w39.heap[gb106]? = some (.cells #[.int .u8 a1_0, .int .u64 a1_1, .int .u8 a1_2, .int .u64 a1_3] 73 (0, 0))) := ⟨h1_⟩
               have n2_ : Aside0 (w39.heap[gb107]? = some (.cells #[.int .u8 a2_0, .int .u64 a2_1, .int .u8 a2_2, .int .u64 a2_3] 73 (0, 0))) := ⟨h2_⟩
               have n3_ : Aside0 (w39.heap[gb112]? = some (.cells #[.int .u8 t108, .int .u32 t109, .int .u64 t110, .int .u64 t111] 85 (0, 0))) := ⟨h3_⟩
               have n4_ : Aside0 (w39.heap[gb128]? = some (.cells #[.int .u8 0, .int .u32 0, .int .u64 0, .int .u64 0] 85 (0, 0))) := ⟨h4_⟩
               have n5_ : Aside0 (w.heap.size ≤ gb128) := ⟨h5_⟩
               have n6_ : Aside0 (w.heap.size ≤ gb128) := ⟨h6_⟩
               have n7_ : Aside0 (gb105 ≠ gb128) := ⟨h7_⟩
               have n8_ : Aside0 (gb128 ≠ gb105) := ⟨h8_⟩
               have n9_ : Aside0 (gb106 ≠ gb128) := ⟨h9_⟩
               have n10_ : Aside0 (gb128 ≠ gb106) := ⟨h10_⟩
               have n11_ : Aside0 (gb107 ≠ gb128) := ⟨h11_⟩
               have n12_ : Aside0 (gb128 ≠ gb107) := ⟨h12_⟩
               have n13_ : Aside0 (gb112 ≠ gb128) := ⟨h13_⟩
               have n14_ : Aside0 (gb128 ≠ gb112) := ⟨h14_⟩
               have n15_ : Aside0 (Below w.heap.size w w39) := ⟨h15_⟩
               clear BK105 BK106 BK107 BK112 HB h0_ h1_ h2_ h3_ h4_ h5_ h6_ h7_ h8_ h9_ h10_ h11_ h12_ h13_ h14_ h15_
               have BK105 := n0_; have BK106 := n1_; have BK107 := n2_; have BK112 := n3_; have BK128 := n4_; have GW128 := n5_; have GE128 := n6_; have NB105_128 := n7_; have NB128_105 := n8_; have NB106_128 := n9_; have NB128_106 := n10_; have NB107_128 := n11_; have NB128_107 := n12_; have NB112_128 := n13_; have NB128_112 := n14_; have HB := n15_
               clear n0_ n1_ n2_ n3_ n4_ n5_ n6_ n7_ n8_ n9_ n10_ n11_ n12_ n13_ n14_ n15_
               have hHeld : C16 gb112 gb107 gb105 gb106 t108 t109 t110 t111 a2_0 a2_1 a2_2 a2_3 a0_0 a0_1 a0_2 a0_3 a1_0 a1_1 a1_2 a1_3 w39 := hS_
               refine norm_ (a' := ?_) ?_ ?_
               rotate_left
               ·simp only [putAll, Act.put, List.setIfInBounds_toArray, List.set_cons_zero, List.set_cons_succ]
                rfl
               refine two_ (i := 5) (j := 8) (Ni := some 30) (Nj := some 8) MetaOrder.m20 MetaOrder.m21 rfl rfl rfl rfl (two_of HT_.out (by kernel_rfl)) (by decide) (by decide) (fun K hK => ?_) (fun K hK => ?_)
               ·skip
                refine goes_ Try.func45 (by kernel_rfl) rfl #[.agg #[.int .u8 a0_0, .int .u32 a0_1, .int .u64 a0_2, .int .u64 a0_3], .agg #[.int .u8 a2_0, .int .u64 a2_1, .int .u8 a2_2, .int .u64 a2_3]] (by rfl) rfl rfl (by (try simp only [List.map_toArray, List.map_cons, List.map_nil]); first | done | rfl | (simp only [List.length_drop, List.length_take]; rfl)) ?_
                with_reducible refine (meta_Apply.calls a0_0 a0_1 a0_2 a0_3 a2_0 a2_1 a2_2 a2_3 t119 t120 t121 t122 _ A33.out).mono ?_
                rintro e w40 ⟨rfl, hb⟩
                refine ⟨_, rfl, ?_⟩
                have n0_ := n_blk BK105 hb
                have n1_ := n_blk BK106 hb
                have n2_ := n_blk BK107 hb
                have n3_ := n_blk BK112 hb
                have n4_ := n_blk BK128 hb
                have n5_ := Aside0.mk (below_step (n_hb HB) hb)
                clear BK105 BK106 BK107 BK112 BK128 HB
                have BK105 := n0_; have BK106 := n1_; have BK107 := n2_; have BK112 := n3_; have BK128 := n4_; have HB := n5_
                clear n0_ n1_ n2_ n3_ n4_ n5_
                (try clear hb); (try clear hb2); (try clear hk); (try clear hi)
                refine hK.out _ _ (c4 BK112 (c4 BK107 (c4 BK105 (c4e BK106)))) (fun hHeld => ?_)
                clear hK K
                refine norm_ (a' := ?_) ?_ ?_
                rotate_left
                ·show Act.put _ (some 30) _ = _
                 simp only [Act.put, List.setIfInBounds_toArray, List.set_cons_zero, List.set_cons_succ, i64_w, i32_w]
                 rfl
                exact norm_ (by first | (simp only [putAll, Act.put, List.setIfInBounds_toArray, List.set_cons_zero, List.set_cons_succ]; done) | (simp only [putAll, Act.put, List.setIfInBounds_toArray, List.set_cons_zero, List.set_cons_succ]; rfl)) (hJ2_5_9 (gb128) _ ⟨hHeld, (n_at BK105), (n_at BK106), (n_at BK107), (n_at BK112), (n_at BK128), GW128.out, GE128.out, NB105_128.out, NB128_105.out, NB106_128.out, NB128_106.out, NB107_128.out, NB128_107.out, NB112_128.out, NB128_112.out, (n_hb HB)⟩)
               ·skip
                refine box_step ?hg (N := 8) ?hd (cs := #[.int .u8 0, .int .u32 0, .int .u64 0, .int .u64 0]) (t := 85) ?hr ?_; (case hd => rfl); (case hg => rfl); (case hr => first | (go_simp; done) | (go_simp; rfl))
                intro gb127 hg w40 hbox hb
                have n0_ := n_blk BK105 hb
                have n1_ := n_blk BK106 hb
                have n2_ := n_blk BK107 hb
                have n3_ := n_blk BK112 hb
                have n4_ := n_blk BK128 hb
                have n5_ := Aside0.mk (below_step (n_hb HB) hb)
                have n6_ := Aside0.mk (hbox)
                have n7_ := Aside0.mk ((by rw [hg]; exact (below_size (n_hb HB)) : w.heap.size ≤ gb127))
                have n8_ := Aside0.mk ((by rw [hg]; exact (below_size (n_hb HB)) : w.heap.size ≤ gb127))
                have n9_ := Aside0.mk ((by rw [hg]; exact Nat.ne_of_lt (n_lt BK105) : gb105 ≠ gb127))
                have n10_ := Aside0.mk ((by rw [hg]; exact Nat.ne_of_gt (n_lt BK105) : gb127 ≠ gb105))
                have n11_ := Aside0.mk ((by rw [hg]; exact Nat.ne_of_lt (n_lt BK106) : gb106 ≠ gb127))
                have n12_ := Aside0.mk ((by rw [hg]; exact Nat.ne_of_gt (n_lt BK106) : gb127 ≠ gb106))
                have n13_ := Aside0.mk ((by rw [hg]; exact Nat.ne_of_lt (n_lt BK107) : gb107 ≠ gb127))
                have n14_ := Aside0.mk ((by rw [hg]; exact Nat.ne_of_gt (n_lt BK107) : gb127 ≠ gb107))
                have n15_ := Aside0.mk ((by rw [hg]; exact Nat.ne_of_lt (n_lt BK112) : gb112 ≠ gb127))
                have n16_ := Aside0.mk ((by rw [hg]; exact Nat.ne_of_gt (n_lt BK112) : gb127 ≠ gb112))
                have n17_ := Aside0.mk ((by rw [hg]; exact Nat.ne_of_lt (n_lt BK128) : gb128 ≠ gb127))
                have n18_ := Aside0.mk ((by rw [hg]; exact Nat.ne_of_gt (n_lt BK128) : gb127 ≠ gb128))
                clear BK105 BK106 BK107 BK112 BK128 HB
                have BK105 := n0_; have BK106 := n1_; have BK107 := n2_; have BK112 := n3_; have BK128 := n4_; have HB := n5_; have BK127 := n6_; have GW127 := n7_; have GE127 := n8_; have NB105_127 := n9_; have NB127_105 := n10_; have NB106_127 := n11_; have NB127_106 := n12_; have NB107_127 := n13_; have NB127_107 := n14_; have NB112_127 := n15_; have NB127_112 := n16_; have NB128_127 := n17_; have NB127_128 := n18_
                clear n0_ n1_ n2_ n3_ n4_ n5_ n6_ n7_ n8_ n9_ n10_ n11_ n12_ n13_ n14_ n15_ n16_ n17_ n18_ hb hbox hg
                refine hK.out _ _ (c4 BK112 (c4 BK107 (c4 BK105 (c4e BK106)))) (fun hHeld => ?_)
                clear hK K
                refine norm_ (a' := ?_) ?_ ?_
                rotate_left
                ·show Act.put _ (some 8) _ = _
                 simp only [Act.put, List.setIfInBounds_toArray, List.set_cons_zero, List.set_cons_succ, i64_w, i32_w]
                 rfl
                exact norm_ (by first | (simp only [putAll, Act.put, List.setIfInBounds_toArray, List.set_cons_zero, List.set_cons_succ]; done) | (simp only [putAll, Act.put, List.setIfInBounds_toArray, List.set_cons_zero, List.set_cons_succ]; rfl)) (hJ2_8_9 (gb127, gb128) _ ⟨hHeld, (n_at BK105), (n_at BK106), (n_at BK107), (n_at BK112), (n_at BK127), (n_at BK128), GW127.out, GE127.out, NB105_127.out, NB127_105.out, NB106_127.out, NB127_106.out, NB107_127.out, NB127_107.out, NB112_127.out, NB127_112.out, NB128_127.out, NB127_128.out, GW128.out, GE128.out, NB105_128.out, NB128_105.out, NB106_128.out, NB128_106.out, NB107_128.out, NB128_107.out, NB112_128.out, NB128_112.out, (n_hb HB)⟩)
             ·skip
              rintro gb127 w39 ⟨hS_, h0_, h1_, h2_, h3_, h4_, h5_, h6_, h7_, h8_, h9_, h10_, h11_, h12_, h13_, h14_, h15_⟩
              have n0_ : Aside0 (w39.heap[gb105]? = some (.cells #[.int .u8 a0_0, .int .u32 a0_1, .int .u64 a0_2, .int .u64 a0_3] 85 (0, 0))) := ⟨h0_⟩
              have n1_ : Aside0 (w39.heap[gb106]? = some (.cells #[.int .u8 a1_0, .int .u64 a1_1, .int .u8 a1_2, .int .u64 a1_3] 73 (0, 0))) := ⟨h1_⟩
              have n2_ : Aside0 (w39.heap[gb107]? = some (.cells #[.int .u8 a2_0, .int .u64 a2_1, .int .u8 a2_2, .int .u64 a2_3] 73 (0, 0))) := ⟨h2_⟩
              have n3_ : Aside0 (w39.heap[gb112]? = some (.cells #[.int .u8 t108, .int .u32 t109, .int .u64 t110, .int .u64 t111] 85 (0, 0))) := ⟨h3_⟩
              have n4_ : Aside0 (w39.heap[gb127]? = some (.cells #[.int .u8 0, .int .u32 0, .int .u64 0, .int .u64 0] 85 (0, 0))) := ⟨h4_⟩
              have n5_ : Aside0 (w.heap.size ≤ gb127) := ⟨h5_⟩
              have n6_ : Aside0 (w.heap.size ≤ gb127) := ⟨h6_⟩
              have n7_ : Aside0 (gb105 ≠ gb127) := ⟨h7_⟩
              have n8_ : Aside0 (gb127 ≠ gb105) := ⟨h8_⟩
              have n9_ : Aside0 (gb106 ≠ gb127) := ⟨h9_⟩
              have n10_ : Aside0 (gb127 ≠ gb106) := ⟨h10_⟩
              have n11_ : Aside0 (gb107 ≠ gb127) := ⟨h11_⟩
              have n12_ : Aside0 (gb127 ≠ gb107) := ⟨h12_⟩
              have n13_ : Aside0 (gb112 ≠ gb127) := ⟨h13_⟩
              have n14_ : Aside0 (gb127 ≠ gb112) := ⟨h14_⟩
              have n15_ : Aside0 (Below w.heap.size w w39) := ⟨h15_⟩
              clear BK105 BK106 BK107 BK112 HB h0_ h1_ h2_ h3_ h4_ h5_ h6_ h7_ h8_ h9_ h10_ h11_ h12_ h13_ h14_ h15_
              have BK105 := n0_; have BK106 := n1_; have BK107 := n2_; have BK112 := n3_; have BK127 := n4_; have GW127 := n5_; have GE127 := n6_; have NB105_127 := n7_; have NB127_105 := n8_; have NB106_127 := n9_; have NB127_106 := n10_; have NB107_127 := n11_; have NB127_107 := n12_; have NB112_127 := n13_; have NB127_112 := n14_; have HB := n15_
              clear n0_ n1_ n2_ n3_ n4_ n5_ n6_ n7_ n8_ n9_ n10_ n11_ n12_ n13_ n14_ n15_
              have hHeld : C16 gb112 gb107 gb105 gb106 t108 t109 t110 t111 a2_0 a2_1 a2_2 a2_3 a0_0 a0_1 a0_2 a0_3 a1_0 a1_1 a1_2 a1_3 w39 := hS_
              refine norm_ (a' := ?_) ?_ ?_
              rotate_left
              ·simp only [putAll, Act.put, List.setIfInBounds_toArray, List.set_cons_zero, List.set_cons_succ]
               rfl
              refine two_ (i := 5) (j := 9) (Ni := some 30) (Nj := some 9) MetaOrder.m8 MetaOrder.m21 rfl rfl rfl rfl (two_of HT_.out (by kernel_rfl)) (by decide) (by decide) (fun K hK => ?_) (fun K hK => ?_)
              ·skip
               refine goes_ Try.func45 (by kernel_rfl) rfl #[.agg #[.int .u8 a0_0, .int .u32 a0_1, .int .u64 a0_2, .int .u64 a0_3], .agg #[.int .u8 a2_0, .int .u64 a2_1, .int .u8 a2_2, .int .u64 a2_3]] (by rfl) rfl rfl (by (try simp only [List.map_toArray, List.map_cons, List.map_nil]); first | done | rfl | (simp only [List.length_drop, List.length_take]; rfl)) ?_
               with_reducible refine (meta_Apply.calls a0_0 a0_1 a0_2 a0_3 a2_0 a2_1 a2_2 a2_3 t119 t120 t121 t122 _ A33.out).mono ?_
               rintro e w40 ⟨rfl, hb⟩
               refine ⟨_, rfl, ?_⟩
               have n0_ := n_blk BK105 hb
               have n1_ := n_blk BK106 hb
               have n2_ := n_blk BK107 hb
               have n3_ := n_blk BK112 hb
               have n4_ := n_blk BK127 hb
               have n5_ := Aside0.mk (below_step (n_hb HB) hb)
               clear BK105 BK106 BK107 BK112 BK127 HB
               have BK105 := n0_; have BK106 := n1_; have BK107 := n2_; have BK112 := n3_; have BK127 := n4_; have HB := n5_
               clear n0_ n1_ n2_ n3_ n4_ n5_
               (try clear hb); (try clear hb2); (try clear hk); (try clear hi)
               refine hK.out _ _ (c4 BK112 (c4 BK107 (c4 BK105 (c4e BK106)))) (fun hHeld => ?_)
               clear hK K
               refine norm_ (a' := ?_) ?_ ?_
               rotate_left
               ·show Act.put _ (some 30) _ = _
                simp only [Act.put, List.setIfInBounds_toArray, List.set_cons_zero, List.set_cons_succ, i64_w, i32_w]
                rfl
               exact norm_ (by first | (simp only [putAll, Act.put, List.setIfInBounds_toArray, List.set_cons_zero, List.set_cons_succ]; done) | (simp only [putAll, Act.put, List.setIfInBounds_toArray, List.set_cons_zero, List.set_cons_succ]; rfl)) (hJ2_5_8 (gb127) _ ⟨hHeld, (n_at BK105), (n_at BK106), (n_at BK107), (n_at BK112), (n_at BK127), GW127.out, GE127.out, NB105_127.out, NB127_105.out, NB106_127.out, NB127_106.out, NB107_127.out, NB127_107.out, NB112_127.out, NB127_112.out, (n_hb HB)⟩)
              ·skip
               refine box_step ?hg (N := 9) ?hd (cs := #[.int .u8 0, .int .u32 0, .int .u64 0, .int .u64 0]) (t := 85) ?hr ?_; (case hd => rfl); (case hg => rfl); (case hr => first | (go_simp; done) | (go_simp; rfl))
               intro gb128 hg w40 hbox hb
               have n0_ := n_blk BK105 hb
               have n1_ := n_blk BK106 hb
               have n2_ := n_blk BK107 hb
               have n3_ := n_blk BK112 hb
               have n4_ := n_blk BK127 hb
               have n5_ := Aside0.mk (below_step (n_hb HB) hb)
               have n6_ := Aside0.mk (hbox)
               have n7_ := Aside0.mk ((by rw [hg]; exact (below_size (n_hb HB)) : w.heap.size ≤ gb128))
               have n8_ := Aside0.mk ((by rw [hg]; exact (below_size (n_hb HB)) : w.heap.size ≤ gb128))
               have n9_ := Aside0.mk ((by rw [hg]; exact Nat.ne_of_lt (n_lt BK105) : gb105 ≠ gb128))
               have n10_ := Aside0.mk ((by rw [hg]; exact Nat.ne_of_gt (n_lt BK105) : gb128 ≠ gb105))
               have n11_ := Aside0.mk ((by rw [hg]; exact Nat.ne_of_lt (n_lt BK106) : gb106 ≠ gb128))
               have n12_ := Aside0.mk ((by rw [hg]; exact Nat.ne_of_gt (n_lt BK106) : gb128 ≠ gb106))
               have n13_ := Aside0.mk ((by rw [hg]; exact Nat.ne_of_lt (n_lt BK107) : gb107 ≠ gb128))
               have n14_ := Aside0.mk ((by rw [hg]; exact Nat.ne_of_gt (n_lt BK107) : gb128 ≠ gb107))
               have n15_ := Aside0.mk ((by rw [hg]; exact Nat.ne_of_lt (n_lt BK112) : gb112 ≠ gb128))
               have n16_ := Aside0.mk ((by rw [hg]; exact Nat.ne_of_gt (n_lt BK112) : gb128 ≠ gb112))
               have n17_ := Aside0.mk ((by rw [hg]; exact Nat.ne_of_lt (n_lt BK127) : gb127 ≠ gb128))
               have n18_ := Aside0.mk ((by rw [hg]; exact Nat.ne_of_gt (n_lt BK127) : gb128 ≠ gb127))
               clear BK105 BK106 BK107 BK112 BK127 HB
               have BK105 := n0_; have BK106 := n1_; have BK107 := n2_; have BK112 := n3_; have BK127 := n4_; have HB := n5_; have BK128 := n6_; have GW128 := n7_; have GE128 := n8_; have NB105_128 := n9_; have NB128_105 := n10_; have NB106_128 := n11_; have NB128_106 := n12_; have NB107_128 := n13_; have NB128_107 := n14_; have NB112_128 := n15_; have NB128_112 := n16_; have NB127_128 := n17_; have NB128_127 := n18_
               clear n0_ n1_ n2_ n3_ n4_ n5_ n6_ n7_ n8_ n9_ n10_ n11_ n12_ n13_ n14_ n15_ n16_ n17_ n18_ hb hbox hg
               refine hK.out _ _ (c4 BK112 (c4 BK107 (c4 BK105 (c4e BK106)))) (fun hHeld => ?_)
               clear hK K
               refine norm_ (a' := ?_) ?_ ?_
               rotate_left
               ·show Act.put _ (some 9) _ = _
                simp only [Act.put, List.setIfInBounds_toArray, List.set_cons_zero, List.set_cons_succ, i64_w, i32_w]
                rfl
               exact norm_ (by first | (simp only [putAll, Act.put, List.setIfInBounds_toArray, List.set_cons_zero, List.set_cons_succ]; done) | (simp only [putAll, Act.put, List.setIfInBounds_toArray, List.set_cons_zero, List.set_cons_succ]; rfl)) (hJ2_8_9 (gb127, gb128) _ ⟨hHeld, (n_at BK105), (n_at BK106), (n_at BK107), (n_at BK112), (n_at BK127), (n_at BK128), GW127.out, GE127.out, NB105_127.out, NB127_105.out, NB106_127.out, NB127_106.out, NB107_127.out, NB127_107.out, NB112_127.out, NB127_112.out, NB128_127.out, NB127_128.out, GW128.out, GE128.out, NB105_128.out, NB128_105.out, NB106_128.out, NB128_106.out, NB107_128.out, NB128_107.out, NB112_128.out, NB128_112.out, (n_hb HB)⟩)
            ·skip
             rintro _ w39 ⟨hS_, h0_, h1_, h2_, h3_, h4_⟩
             have n0_ : Aside0 (w39.heap[gb105]? = some (.cells #[.int .u8 a0_0, .int .u32 a0_1, .int .u64 a0_2, .int .u64 a0_3] 85 (0, 0))) := ⟨h0_⟩
             have n1_ : Aside0 (w39.heap[gb106]? = some (.cells #[.int .u8 a1_0, .int .u64 a1_1, .int .u8 a1_2, .int .u64 a1_3] 73 (0, 0))) := ⟨h1_⟩
             have n2_ : Aside0 (w39.heap[gb107]? = some (.cells #[.int .u8 a2_0, .int .u64 a2_1, .int .u8 a2_2, .int .u64 a2_3] 73 (0, 0))) := ⟨h2_⟩
             have n3_ : Aside0 (w39.heap[gb112]? = some (.cells #[.int .u8 t108, .int .u32 t109, .int .u64 t110, .int .u64 t111] 85 (0, 0))) := ⟨h3_⟩
             have n4_ : Aside0 (Below w.heap.size w w39) := ⟨h4_⟩
             clear BK105 BK106 BK107 BK112 HB h0_ h1_ h2_ h3_ h4_
             have BK105 := n0_; have BK106 := n1_; have BK107 := n2_; have BK112 := n3_; have HB := n4_
             clear n0_ n1_ n2_ n3_ n4_
             have hHeld : C16 gb112 gb107 gb105 gb106 t108 t109 t110 t111 a2_0 a2_1 a2_2 a2_3 a0_0 a0_1 a0_2 a0_3 a1_0 a1_1 a1_2 a1_3 w39 := hS_
             refine norm_ (a' := ?_) ?_ ?_
             rotate_left
             ·simp only [putAll, Act.put, List.setIfInBounds_toArray, List.set_cons_zero, List.set_cons_succ]
              rfl
             refine three_ (i := 7) (j := 8) (k := 9) (Ni := some 32) (Nj := some 8) (Nk := some 9) MetaOrder.m19 MetaOrder.m8 MetaOrder.m20 rfl rfl rfl rfl rfl rfl (three_of HT_.out (by kernel_rfl)) (by decide) (by decide) (by decide) (fun K hK => ?_) (fun K hK => ?_) (fun K hK => ?_)
             ·skip
              refine goes_ Try.func45 (by kernel_rfl) rfl #[.agg #[.int .u8 t119, .int .u32 t120, .int .u64 t121, .int .u64 t122], .agg #[.int .u8 a1_0, .int .u64 a1_1, .int .u8 a1_2, .int .u64 a1_3]] (by rfl) rfl rfl (by (try simp only [List.map_toArray, List.map_cons, List.map_nil]); first | done | rfl | (simp only [List.length_drop, List.length_take]; rfl)) ?_
              with_reducible refine (meta_Apply.calls t119 t120 t121 t122 a1_0 a1_1 a1_2 a1_3 t123 t124 t125 t126 _ A34.out).mono ?_
              rintro e w40 ⟨rfl, hb⟩
              refine ⟨_, rfl, ?_⟩
              have n0_ := n_blk BK105 hb
              have n1_ := n_blk BK106 hb
              have n2_ := n_blk BK107 hb
              have n3_ := n_blk BK112 hb
              have n4_ := Aside0.mk (below_step (n_hb HB) hb)
              clear BK105 BK106 BK107 BK112 HB
              have BK105 := n0_; have BK106 := n1_; have BK107 := n2_; have BK112 := n3_; have HB := n4_
              clear n0_ n1_ n2_ n3_ n4_
              (try clear hb); (try clear hb2); (try clear hk); (try clear hi)
              refine hK.out _ _ (c4 BK112 (c4 BK107 (c4 BK105 (c4e BK106)))) (fun hHeld => ?_)
              clear hK K
              refine norm_ (a' := ?_) ?_ ?_
              rotate_left
              ·show Act.put _ (some 32) _ = _
               simp only [Act.put, List.setIfInBounds_toArray, List.set_cons_zero, List.set_cons_succ, i64_w, i32_w]
               rfl
              exact norm_ (by first | (simp only [putAll, Act.put, List.setIfInBounds_toArray, List.set_cons_zero, List.set_cons_succ]; done) | (simp only [putAll, Act.put, List.setIfInBounds_toArray, List.set_cons_zero, List.set_cons_succ]; rfl)) (hJ2_5_7 () _ ⟨hHeld, (n_at BK105), (n_at BK106), (n_at BK107), (n_at BK112), (n_hb HB)⟩)
             ·skip
              refine box_step ?hg (N := 8) ?hd (cs := #[.int .u8 0, .int .u32 0, .int .u64 0, .int .u64 0]) (t := 85) ?hr ?_; (case hd => rfl); (case hg => rfl); (case hr => first | (go_simp; done) | (go_simp; rfl))
              intro gb127 hg w40 hbox hb
              have n0_ := n_blk BK105 hb
              have n1_ := n_blk BK106 hb
              have n2_ := n_blk BK107 hb
              have n3_ := n_blk BK112 hb
              have n4_ := Aside0.mk (below_step (n_hb HB) hb)
              have n5_ := Aside0.mk (hbox)
              have n6_ := Aside0.mk ((by rw [hg]; exact (below_size (n_hb HB)) : w.heap.size ≤ gb127))
              have n7_ := Aside0.mk ((by rw [hg]; exact (below_size (n_hb HB)) : w.heap.size ≤ gb127))
              have n8_ := Aside0.mk ((by rw [hg]; exact Nat.ne_of_lt (n_lt BK105) : gb105 ≠ gb127))
              have n9_ := Aside0.mk ((by rw [hg]; exact Nat.ne_of_gt (n_lt BK105) : gb127 ≠ gb105))
              have n10_ := Aside0.mk ((by rw [hg]; exact Nat.ne_of_lt (n_lt BK106) : gb106 ≠ gb127))
              have n11_ := Aside0.mk ((by rw [hg]; exact Nat.ne_of_gt (n_lt BK106) : gb127 ≠ gb106))
              have n12_ := Aside0.mk ((by rw [hg]; exact Nat.ne_of_lt (n_lt BK107) : gb107 ≠ gb127))
              have n13_ := Aside0.mk ((by rw [hg]; exact Nat.ne_of_gt (n_lt BK107) : gb127 ≠ gb107))
              have n14_ := Aside0.mk ((by rw [hg]; exact Nat.ne_of_lt (n_lt BK112) : gb112 ≠ gb127))
              have n15_ := Aside0.mk ((by rw [hg]; exact Nat.ne_of_gt (n_lt BK112) : gb127 ≠ gb112))
              clear BK105 BK106 BK107 BK112 HB
              have BK105 := n0_; have BK106 := n1_; have BK107 := n2_; have BK112 := n3_; have HB := n4_; have BK127 := n5_; have GW127 := n6_; have GE127 := n7_; have NB105_127 := n8_; have NB127_105 := n9_; have NB106_127 := n10_; have NB127_106 := n11_; have NB107_127 := n12_; have NB127_107 := n13_; have NB112_127 := n14_; have NB127_112 := n15_
              clear n0_ n1_ n2_ n3_ n4_ n5_ n6_ n7_ n8_ n9_ n10_ n11_ n12_ n13_ n14_ n15_ hb hbox hg
              refine hK.out _ _ (c4 BK112 (c4 BK107 (c4 BK105 (c4e BK106)))) (fun hHeld => ?_)
              clear hK K
              refine norm_ (a' := ?_) ?_ ?_
              rotate_left
              ·show Act.put _ (some 8) _ = _
               simp only [Act.put, List.setIfInBounds_toArray, List.set_cons_zero, List.set_cons_succ, i64_w, i32_w]
               rfl
              exact norm_ (by first | (simp only [putAll, Act.put, List.setIfInBounds_toArray, List.set_cons_zero, List.set_cons_succ]; done) | (simp only [putAll, Act.put, List.setIfInBounds_toArray, List.set_cons_zero, List.set_cons_succ]; rfl)) (hJ2_5_8 (gb127) _ ⟨hHeld, (n_at BK105), (n_at BK106), (n_at BK107), (n_at BK112), (n_at BK127), GW127.out, GE127.out, NB105_127.out, NB127_105.out, NB106_127.out, NB127_106.out, NB107_127.out, NB127_107.out, NB112_127.out, NB127_112.out, (n_hb HB)⟩)
             ·skip
              refine box_step ?hg (N := 9) ?hd (cs := #[.int .u8 0, .int .u32 0, .int .u64 0, .int .u64 0]) (t := 85) ?hr ?_; (case hd => rfl); (case hg => rfl); (case hr => first | (go_simp; done) | (go_simp; rfl))
              intro gb128 hg w40 hbox hb
              have n0_ := n_blk BK105 hb
              have n1_ := n_blk BK106 hb
              have n2_ := n_blk BK107 hb
              have n3_ := n_blk BK112 hb
              have n4_ := Aside0.mk (below_step (n_hb HB) hb)
              have n5_ := Aside0.mk (hbox)
              have n6_ := Aside0.mk ((by rw [hg]; exact (below_size (n_hb HB)) : w.heap.size ≤ gb128))
              have n7_ := Aside0.mk ((by rw [hg]; exact (below_size (n_hb HB)) : w.heap.size ≤ gb128))
              have n8_ := Aside0.mk ((by rw [hg]; exact Nat.ne_of_lt (n_lt BK105) : gb105 ≠ gb128))
              have n9_ := Aside0.mk ((by rw [hg]; exact Nat.ne_of_gt (n_lt BK105) : gb128 ≠ gb105))
              have n10_ := Aside0.mk ((by rw [hg]; exact Nat.ne_of_lt (n_lt BK106) : gb106 ≠ gb128))
              have n11_ := Aside0.mk ((by rw [hg]; exact Nat.ne_of_gt (n_lt BK106) : gb128 ≠ gb106))
              have n12_ := Aside0.mk ((by rw [hg]; exact Nat.ne_of_lt (n_lt BK107) : gb107 ≠ gb128))
              have n13_ := Aside0.mk ((by rw [hg]; exact Nat.ne_of_gt (n_lt BK107) : gb128 ≠ gb107))
              have n14_ := Aside0.mk ((by rw [hg]; exact Nat.ne_of_lt (n_lt BK112) : gb112 ≠ gb128))
              have n15_ := Aside0.mk ((by rw [hg]; exact Nat.ne_of_gt (n_lt BK112) : gb128 ≠ gb112))
              clear BK105 BK106 BK107 BK112 HB
              have BK105 := n0_; have BK106 := n1_; have BK107 := n2_; have BK112 := n3_; have HB := n4_; have BK128 := n5_; have GW128 := n6_; have GE128 := n7_; have NB105_128 := n8_; have NB128_105 := n9_; have NB106_128 := n10_; have NB128_106 := n11_; have NB107_128 := n12_; have NB128_107 := n13_; have NB112_128 := n14_; have NB128_112 := n15_
              clear n0_ n1_ n2_ n3_ n4_ n5_ n6_ n7_ n8_ n9_ n10_ n11_ n12_ n13_ n14_ n15_ hb hbox hg
              refine hK.out _ _ (c4 BK112 (c4 BK107 (c4 BK105 (c4e BK106)))) (fun hHeld => ?_)
              clear hK K
              refine norm_ (a' := ?_) ?_ ?_
              rotate_left
              ·show Act.put _ (some 9) _ = _
               simp only [Act.put, List.setIfInBounds_toArray, List.set_cons_zero, List.set_cons_succ, i64_w, i32_w]
               rfl
              exact norm_ (by first | (simp only [putAll, Act.put, List.setIfInBounds_toArray, List.set_cons_zero, List.set_cons_succ]; done) | (simp only [putAll, Act.put, List.setIfInBounds_toArray, List.set_cons_zero, List.set_cons_succ]; rfl)) (hJ2_5_9 (gb128) _ ⟨hHeld, (n_at BK105), (n_at BK106), (n_at BK107), (n_at BK112), (n_at BK128), GW128.out, GE128.out, NB105_128.out, NB128_105.out, NB106_128.out, NB128_106.out, NB107_128.out, NB128_107.out, NB112_128.out, NB128_112.out, (n_hb HB)⟩)
           ·skip
            rintro ⟨gb127, gb128⟩ w40 ⟨hS_, h0_, h1_, h2_, h3_, h4_, h5_, h6_, h7_, h8_, h9_, h10_, h11_, h12_, h13_, h14_, h15_, h16_, h17_, h18_, h19_, h20_, h21_, h22_, h23_, h24_, h25_, h26_, h27_, h28_⟩
            have n0_ : Aside0 (w40.heap[gb105]? = some (.cells #[.int .u8 a0_0, .int .u32 a0_1, .int .u64 a0_2, .int .u64 a0_3] 85 (0, 0))) := ⟨h0_⟩
            have n1_ : Aside0 (w40.heap[gb106]? = some (.cells #[.int .u8 a1_0, .int .u64 a1_1, .int .u8 a1_2, .int .u64 a1_3] 73 (0, 0))) := ⟨h1_⟩
            have n2_ : Aside0 (w40.heap[gb107]? = some (.cells #[.int .u8 a2_0, .int .u64 a2_1, .int .u8 a2_2, .int .u64 a2_3] 73 (0, 0))) := ⟨h2_⟩
            have n3_ : Aside0 (w40.heap[gb112]? = some (.cells #[.int .u8 t108, .int .u32 t109, .int .u64 t110, .int .u64 t111] 85 (0, 0))) := ⟨h3_⟩
            have n4_ : Aside0 (w40.heap[gb127]? = some (.cells #[.int .u8 0, .int .u32 0, .int .u64 0, .int .u64 0] 85 (0, 0))) := ⟨h4_⟩
            have n5_ : Aside0 (w40.heap[gb128]? = some (.cells #[.int .u8 0, .int .u32 0, .int .u64 0, .int .u64 0] 85 (0, 0))) := ⟨h5_⟩
            have n6_ : Aside0 (w.heap.size ≤ gb127) := ⟨h6_⟩
            have n7_ : Aside0 (w.heap.size ≤ gb127) := ⟨h7_⟩
            have n8_ : Aside0 (gb105 ≠ gb127) := ⟨h8_⟩
            have n9_ : Aside0 (gb127 ≠ gb105) := ⟨h9_⟩
            have n10_ : Aside0 (gb106 ≠ gb127) := ⟨h10_⟩
            have n11_ : Aside0 (gb127 ≠ gb106) := ⟨h11_⟩
            have n12_ : Aside0 (gb107 ≠ gb127) := ⟨h12_⟩
            have n13_ : Aside0 (gb127 ≠ gb107) := ⟨h13_⟩
            have n14_ : Aside0 (gb112 ≠ gb127) := ⟨h14_⟩
            have n15_ : Aside0 (gb127 ≠ gb112) := ⟨h15_⟩
            have n16_ : Aside0 (gb128 ≠ gb127) := ⟨h16_⟩
            have n17_ : Aside0 (gb127 ≠ gb128) := ⟨h17_⟩
            have n18_ : Aside0 (w.heap.size ≤ gb128) := ⟨h18_⟩
            have n19_ : Aside0 (w.heap.size ≤ gb128) := ⟨h19_⟩
            have n20_ : Aside0 (gb105 ≠ gb128) := ⟨h20_⟩
            have n21_ : Aside0 (gb128 ≠ gb105) := ⟨h21_⟩
            have n22_ : Aside0 (gb106 ≠ gb128) := ⟨h22_⟩
            have n23_ : Aside0 (gb128 ≠ gb106) := ⟨h23_⟩
            have n24_ : Aside0 (gb107 ≠ gb128) := ⟨h24_⟩
            have n25_ : Aside0 (gb128 ≠ gb107) := ⟨h25_⟩
            have n26_ : Aside0 (gb112 ≠ gb128) := ⟨h26_⟩
            have n27_ : Aside0 (gb128 ≠ gb112) := ⟨h27_⟩
            have n28_ : Aside0 (Below w.heap.size w w40) := ⟨h28_⟩
            clear BK105 BK106 BK107 BK112 HB h0_ h1_ h2_ h3_ h4_ h5_ h6_ h7_ h8_ h9_ h10_ h11_ h12_ h13_ h14_ h15_ h16_ h17_ h18_ h19_ h20_ h21_ h22_ h23_ h24_ h25_ h26_ h27_ h28_
            have BK105 := n0_; have BK106 := n1_; have BK107 := n2_; have BK112 := n3_; have BK127 := n4_; have BK128 := n5_; have GW127 := n6_; have GE127 := n7_; have NB105_127 := n8_; have NB127_105 := n9_; have NB106_127 := n10_; have NB127_106 := n11_; have NB107_127 := n12_; have NB127_107 := n13_; have NB112_127 := n14_; have NB127_112 := n15_; have NB128_127 := n16_; have NB127_128 := n17_; have GW128 := n18_; have GE128 := n19_; have NB105_128 := n20_; have NB128_105 := n21_; have NB106_128 := n22_; have NB128_106 := n23_; have NB107_128 := n24_; have NB128_107 := n25_; have NB112_128 := n26_; have NB128_112 := n27_; have HB := n28_
            clear n0_ n1_ n2_ n3_ n4_ n5_ n6_ n7_ n8_ n9_ n10_ n11_ n12_ n13_ n14_ n15_ n16_ n17_ n18_ n19_ n20_ n21_ n22_ n23_ n24_ n25_ n26_ n27_ n28_
            have hHeld : C16 gb112 gb107 gb105 gb106 t108 t109 t110 t111 a2_0 a2_1 a2_2 a2_3 a0_0 a0_1 a0_2 a0_3 a1_0 a1_1 a1_2 a1_3 w40 := hS_
            refine norm_ (a' := ?_) ?_ ?_
            rotate_left
            ·simp only [putAll, Act.put, List.setIfInBounds_toArray, List.set_cons_zero, List.set_cons_succ]
             rfl
            refine one_ (i := 5) (N := some 30) MetaOrder.m18 rfl rfl (one_of HT_.out (by kernel_rfl)) (by decide) (fun K hK => ?_)
            refine goes_ Try.func45 (by kernel_rfl) rfl #[.agg #[.int .u8 a0_0, .int .u32 a0_1, .int .u64 a0_2, .int .u64 a0_3], .agg #[.int .u8 a2_0, .int .u64 a2_1, .int .u8 a2_2, .int .u64 a2_3]] (by rfl) rfl rfl (by (try simp only [List.map_toArray, List.map_cons, List.map_nil]); first | done | rfl | (simp only [List.length_drop, List.length_take]; rfl)) ?_
            with_reducible refine (meta_Apply.calls a0_0 a0_1 a0_2 a0_3 a2_0 a2_1 a2_2 a2_3 t119 t120 t121 t122 _ A33.out).mono ?_
            rintro e w41 ⟨rfl, hb⟩
            refine ⟨_, rfl, ?_⟩
            have n0_ := n_blk BK105 hb
            have n1_ := n_blk BK106 hb
            have n2_ := n_blk BK107 hb
            have n3_ := n_blk BK112 hb
            have n4_ := n_blk BK127 hb
            have n5_ := n_blk BK128 hb
            have n6_ := Aside0.mk (below_step (n_hb HB) hb)
            clear BK105 BK106 BK107 BK112 BK127 BK128 HB
            have BK105 := n0_; have BK106 := n1_; have BK107 := n2_; have BK112 := n3_; have BK127 := n4_; have BK128 := n5_; have HB := n6_
            clear n0_ n1_ n2_ n3_ n4_ n5_ n6_
            (try clear hb); (try clear hb2); (try clear hk); (try clear hi)
            refine hK.out _ _ (c4 BK112 (c4 BK107 (c4 BK105 (c4e BK106)))) (fun hHeld => ?_)
            clear hK K
            refine norm_ (a' := ?_) ?_ ?_
            rotate_left
            ·show Act.put _ (some 30) _ = _
             simp only [Act.put, List.setIfInBounds_toArray, List.set_cons_zero, List.set_cons_succ, i64_w, i32_w]
             rfl
            exact norm_ (by first | (simp only [putAll, Act.put, List.setIfInBounds_toArray, List.set_cons_zero, List.set_cons_succ]; done) | (simp only [putAll, Act.put, List.setIfInBounds_toArray, List.set_cons_zero, List.set_cons_succ]; rfl)) (hJ2_5_8_9 (gb127, gb128) _ ⟨hHeld, (n_at BK105), (n_at BK106), (n_at BK107), (n_at BK112), (n_at BK127), (n_at BK128), GW127.out, GE127.out, NB105_127.out, NB127_105.out, NB106_127.out, NB127_106.out, NB107_127.out, NB127_107.out, NB112_127.out, NB127_112.out, NB128_127.out, NB127_128.out, GW128.out, GE128.out, NB105_128.out, NB128_105.out, NB106_128.out, NB128_106.out, NB107_128.out, NB128_107.out, NB112_128.out, NB128_112.out, (n_hb HB)⟩)
          ·skip
           rintro gb128 w40 ⟨hS_, h0_, h1_, h2_, h3_, h4_, h5_, h6_, h7_, h8_, h9_, h10_, h11_, h12_, h13_, h14_, h15_⟩
           have n0_ : Aside0 (w40.heap[gb105]? = some (.cells #[.int .u8 a0_0, .int .u32 a0_1, .int .u64 a0_2, .int .u64 a0_3] 85 (0, 0))) := ⟨h0_⟩
           have n1_ : Aside0 (w40.heap[gb106]? = some (.cells #[.int .u8 a1_0, .int .u64 a1_1, .int .u8 a1_2, .int .u64 a1_3] 73 (0, 0))) := ⟨h1_⟩
           have n2_ : Aside0 (w40.heap[gb107]? = some (.cells #[.int .u8 a2_0, .int .u64 a2_1, .int .u8 a2_2, .int .u64 a2_3] 73 (0, 0))) := ⟨h2_⟩
           have n3_ : Aside0 (w40.heap[gb112]? = some (.cells #[.int .u8 t108, .int .u32 t109, .int .u64 t110, .int .u64 t111] 85 (0, 0))) := ⟨h3_⟩
           have n4_ : Aside0 (w40.heap[gb128]? = some (.cells #[.int .u8 0, .int .u32 0, .int .u64 0, .int .u64 0] 85 (0, 0))) := ⟨h4_⟩
           have n5_ : Aside0 (w.heap.size ≤ gb128) := ⟨h5_⟩
           have n6_ : Aside0 (w.heap.size ≤ gb128) := ⟨h6_⟩
           have n7_ : Aside0 (gb105 ≠ gb128) := ⟨h7_⟩
           have n8_ : Aside0 (gb128 ≠ gb105) := ⟨h8_⟩
           have n9_ : Aside0 (gb106 ≠ gb128) := ⟨h9_⟩
           have n10_ : Aside0 (gb128 ≠ gb106) := ⟨h10_⟩
           have n11_ : Aside0 (gb107 ≠ gb128) := ⟨h11_⟩
           have n12_ : Aside0 (gb128 ≠ gb107) := ⟨h12_⟩
           have n13_ : Aside0 (gb112 ≠ gb128) := ⟨h13_⟩
           have n14_ : Aside0 (gb128 ≠ gb112) := ⟨h14_⟩
           have n15_ : Aside0 (Below w.heap.size w w40) := ⟨h15_⟩
           clear BK105 BK106 BK107 BK112 HB h0_ h1_ h2_ h3_ h4_ h5_ h6_ h7_ h8_ h9_ h10_ h11_ h12_ h13_ h14_ h15_
           have BK105 := n0_; have BK106 := n1_; have BK107 := n2_; have BK112 := n3_; have BK128 := n4_; have GW128 := n5_; have GE128 := n6_; have NB105_128 := n7_; have NB128_105 := n8_; have NB106_128 := n9_; have NB128_106 := n10_; have NB107_128 := n11_; have NB128_107 := n12_; have NB112_128 := n13_; have NB128_112 := n14_; have HB := n15_
           clear n0_ n1_ n2_ n3_ n4_ n5_ n6_ n7_ n8_ n9_ n10_ n11_ n12_ n13_ n14_ n15_
           have hHeld : C16 gb112 gb107 gb105 gb106 t108 t109 t110 t111 a2_0 a2_1 a2_2 a2_3 a0_0 a0_1 a0_2 a0_3 a1_0 a1_1 a1_2 a1_3 w40 := hS_
           refine norm_ (a' := ?_) ?_ ?_
           rotate_left
           ·simp only [putAll, Act.put, List.setIfInBounds_toArray, List.set_cons_zero, List.set_cons_succ]
            rfl
           refine two_ (i := 7) (j := 8) (Ni := some 32) (Nj := some 8) MetaOrder.m17 MetaOrder.m18 rfl rfl rfl rfl (two_of HT_.out (by kernel_rfl)) (by decide) (by decide) (fun K hK => ?_) (fun K hK => ?_)
           ·skip
            refine goes_ Try.func45 (by kernel_rfl) rfl #[.agg #[.int .u8 t119, .int .u32 t120, .int .u64 t121, .int .u64 t122], .agg #[.int .u8 a1_0, .int .u64 a1_1, .int .u8 a1_2, .int .u64 a1_3]] (by rfl) rfl rfl (by (try simp only [List.map_toArray, List.map_cons, List.map_nil]); first | done | rfl | (simp only [List.length_drop, List.length_take]; rfl)) ?_
            with_reducible refine (meta_Apply.calls t119 t120 t121 t122 a1_0 a1_1 a1_2 a1_3 t123 t124 t125 t126 _ A34.out).mono ?_
            rintro e w41 ⟨rfl, hb⟩
            refine ⟨_, rfl, ?_⟩
            have n0_ := n_blk BK105 hb
            have n1_ := n_blk BK106 hb
            have n2_ := n_blk BK107 hb
            have n3_ := n_blk BK112 hb
            have n4_ := n_blk BK128 hb
            have n5_ := Aside0.mk (below_step (n_hb HB) hb)
            clear BK105 BK106 BK107 BK112 BK128 HB
            have BK105 := n0_; have BK106 := n1_; have BK107 := n2_; have BK112 := n3_; have BK128 := n4_; have HB := n5_
            clear n0_ n1_ n2_ n3_ n4_ n5_
            (try clear hb); (try clear hb2); (try clear hk); (try clear hi)
            refine hK.out _ _ (c4 BK112 (c4 BK107 (c4 BK105 (c4e BK106)))) (fun hHeld => ?_)
            clear hK K
            refine norm_ (a' := ?_) ?_ ?_
            rotate_left
            ·show Act.put _ (some 32) _ = _
             simp only [Act.put, List.setIfInBounds_toArray, List.set_cons_zero, List.set_cons_succ, i64_w, i32_w]
             rfl
            exact norm_ (by first | (simp only [putAll, Act.put, List.setIfInBounds_toArray, List.set_cons_zero, List.set_cons_succ]; done) | (simp only [putAll, Act.put, List.setIfInBounds_toArray, List.set_cons_zero, List.set_cons_succ]; rfl)) (hJ2_5_7_9 (gb128) _ ⟨hHeld, (n_at BK105), (n_at BK106), (n_at BK107), (n_at BK112), (n_at BK128), GW128.out, GE128.out, NB105_128.out, NB128_105.out, NB106_128.out, NB128_106.out, NB107_128.out, NB128_107.out, NB112_128.out, NB128_112.out, (n_hb HB)⟩)
           ·skip
            refine box_step ?hg (N := 8) ?hd (cs := #[.int .u8 0, .int .u32 0, .int .u64 0, .int .u64 0]) (t := 85) ?hr ?_; (case hd => rfl); (case hg => rfl); (case hr => first | (go_simp; done) | (go_simp; rfl))
            intro gb127 hg w41 hbox hb
            have n0_ := n_blk BK105 hb
            have n1_ := n_blk BK106 hb
            have n2_ := n_blk BK107 hb
            have n3_ := n_blk BK112 hb
            have n4_ := n_blk BK128 hb
            have n5_ := Aside0.mk (below_step (n_hb HB) hb)
            have n6_ := Aside0.mk (hbox)
            have n7_ := Aside0.mk ((by rw [hg]; exact (below_size (n_hb HB)) : w.heap.size ≤ gb127))
            have n8_ := Aside0.mk ((by rw [hg]; exact (below_size (n_hb HB)) : w.heap.size ≤ gb127))
            have n9_ := Aside0.mk ((by rw [hg]; exact Nat.ne_of_lt (n_lt BK105) : gb105 ≠ gb127))
            have n10_ := Aside0.mk ((by rw [hg]; exact Nat.ne_of_gt (n_lt BK105) : gb127 ≠ gb105))
            have n11_ := Aside0.mk ((by rw [hg]; exact Nat.ne_of_lt (n_lt BK106) : gb106 ≠ gb127))
            have n12_ := Aside0.mk ((by rw [hg]; exact Nat.ne_of_gt (n_lt BK106) : gb127 ≠ gb106))
            have n13_ := Aside0.mk ((by rw [hg]; exact Nat.ne_of_lt (n_lt BK107) : gb107 ≠ gb127))
            have n14_ := Aside0.mk ((by rw [hg]; exact Nat.ne_of_gt (n_lt BK107) : gb127 ≠ gb107))
            have n15_ := Aside0.mk ((by rw [hg]; exact Nat.ne_of_lt (n_lt BK112) : gb112 ≠ gb127))
            have n16_ := Aside0.mk ((by rw [hg]; exact Nat.ne_of_gt (n_lt BK112) : gb127 ≠ gb112))
            have n17_ := Aside0.mk ((by rw [hg]; exact Nat.ne_of_lt (n_lt BK128) : gb128 ≠ gb127))
            have n18_ := Aside0.mk ((by rw [hg]; exact Nat.ne_of_gt (n_lt BK128) : gb127 ≠ gb128))
            clear BK105 BK106 BK107 BK112 BK128 HB
            have BK105 := n0_; have BK106 := n1_; have BK107 := n2_; have BK112 := n3_; have BK128 := n4_; have HB := n5_; have BK127 := n6_; have GW127 := n7_; have GE127 := n8_; have NB105_127 := n9_; have NB127_105 := n10_; have NB106_127 := n11_; have NB127_106 := n12_; have NB107_127 := n13_; have NB127_107 := n14_; have NB112_127 := n15_; have NB127_112 := n16_; have NB128_127 := n17_; have NB127_128 := n18_
            clear n0_ n1_ n2_ n3_ n4_ n5_ n6_ n7_ n8_ n9_ n10_ n11_ n12_ n13_ n14_ n15_ n16_ n17_ n18_ hb hbox hg
            refine hK.out _ _ (c4 BK112 (c4 BK107 (c4 BK105 (c4e BK106)))) (fun hHeld => ?_)
            clear hK K
            refine norm_ (a' := ?_) ?_ ?_
            rotate_left
            ·show Act.put _ (some 8) _ = _
             simp only [Act.put, List.setIfInBounds_toArray, List.set_cons_zero, List.set_cons_succ, i64_w, i32_w]
             rfl
            exact norm_ (by first | (simp only [putAll, Act.put, List.setIfInBounds_toArray, List.set_cons_zero, List.set_cons_succ]; done) | (simp only [putAll, Act.put, List.setIfInBounds_toArray, List.set_cons_zero, List.set_cons_succ]; rfl)) (hJ2_5_8_9 (gb127, gb128) _ ⟨hHeld, (n_at BK105), (n_at BK106), (n_at BK107), (n_at BK112), (n_at BK127), (n_at BK128), GW127.out, GE127.out, NB105_127.out, NB127_105.out, NB106_127.out, NB127_106.out, NB107_127.out, NB127_107.out, NB112_127.out, NB127_112.out, NB128_127.out, NB127_128.out, GW128.out, GE128.out, NB105_128.out, NB128_105.out, NB106_128.out, NB128_106.out, NB107_128.out, NB128_107.out, NB112_128.out, NB128_112.out, (n_hb HB)⟩)
         ·skip
          rintro gb127 w40 ⟨hS_, h0_, h1_, h2_, h3_, h4_, h5_, h6_, h7_, h8_, h9_, h10_, h11_, h12_, h13_, h14_, h15_⟩
          have n0_ : Aside0 (w40.heap[gb105]? = some (.cells #[.int .u8 a0_0, .int .u32 a0_1, .int .u64 a0_2, .int .u64 a0_3] 85 (0, 0))) := ⟨h0_⟩
          have n1_ : Aside0 (w40.heap[gb106]? = some (.cells #[.int .u8 a1_0, .int .u64 a1_1, .int .u8 a1_2, .int .u64 a1_3] 73 (0, 0))) := ⟨h1_⟩
          have n2_ : Aside0 (w40.heap[gb107]? = some (.cells #[.int .u8 a2_0, .int .u64 a2_1, .int .u8 a2_2, .int .u64 a2_3] 73 (0, 0))) := ⟨h2_⟩
          have n3_ : Aside0 (w40.heap[gb112]? = some (.cells #[.int .u8 t108, .int .u32 t109, .int .u64 t110, .int .u64 t111] 85 (0, 0))) := ⟨h3_⟩
          have n4_ : Aside0 (w40.heap[gb127]? = some (.cells #[.int .u8 0, .int .u32 0, .int .u64 0, .int .u64 0] 85 (0, 0))) := ⟨h4_⟩
          have n5_ : Aside0 (w.heap.size ≤ gb127) := ⟨h5_⟩
          have n6_ : Aside0 (w.heap.size ≤ gb127) := ⟨h6_⟩
          have n7_ : Aside0 (gb105 ≠ gb127) := ⟨h7_⟩
          have n8_ : Aside0 (gb127 ≠ gb105) := ⟨h8_⟩
          have n9_ : Aside0 (gb106 ≠ gb127) := ⟨h9_⟩
          have n10_ : Aside0 (gb127 ≠ gb106) := ⟨h10_⟩
          have n11_ : Aside0 (gb107 ≠ gb127) := ⟨h11_⟩
          have n12_ : Aside0 (gb127 ≠ gb107) := ⟨h12_⟩
          have n13_ : Aside0 (gb112 ≠ gb127) := ⟨h13_⟩
          have n14_ : Aside0 (gb127 ≠ gb112) := ⟨h14_⟩
          have n15_ : Aside0 (Below w.heap.size w w40) := ⟨h15_⟩
          clear BK105 BK106 BK107 BK112 HB h0_ h1_ h2_ h3_ h4_ h5_ h6_ h7_ h8_ h9_ h10_ h11_ h12_ h13_ h14_ h15_
          have BK105 := n0_; have BK106 := n1_; have BK107 := n2_; have BK112 := n3_; have BK127 := n4_; have GW127 := n5_; have GE127 := n6_; have NB105_127 := n7_; have NB127_105 := n8_; have NB106_127 := n9_; have NB127_106 := n10_; have NB107_127 := n11_; have NB127_107 := n12_; have NB112_127 := n13_; have NB127_112 := n14_; have HB := n15_
          clear n0_ n1_ n2_ n3_ n4_ n5_ n6_ n7_ n8_ n9_ n10_ n11_ n12_ n13_ n14_ n15_
          have hHeld : C16 gb112 gb107 gb105 gb106 t108 t109 t110 t111 a2_0 a2_1 a2_2 a2_3 a0_0 a0_1 a0_2 a0_3 a1_0 a1_1 a1_2 a1_3 w40 := hS_
          refine norm_ (a' := ?_) ?_ ?_
          rotate_left
          ·simp only [putAll, Act.put, List.setIfInBounds_toArray, List.set_cons_zero, List.set_cons_succ]
           rfl
          refine two_ (i := 7) (j := 9) (Ni := some 32) (Nj := some 9) MetaOrder.m9 MetaOrder.m18 rfl rfl rfl rfl (two_of HT_.out (by kernel_rfl)) (by decide) (by decide) (fun K hK => ?_) (fun K hK => ?_)
          ·skip
           refine goes_ Try.func45 (by kernel_rfl) rfl #[.agg #[.int .u8 t119, .int .u32 t120, .int .u64 t121, .int .u64 t122], .agg #[.int .u8 a1_0, .int .u64 a1_1, .int .u8 a1_2, .int .u64 a1_3]] (by rfl) rfl rfl (by (try simp only [List.map_toArray, List.map_cons, List.map_nil]); first | done | rfl | (simp only [List.length_drop, List.length_take]; rfl)) ?_
           with_reducible refine (meta_Apply.calls t119 t120 t121 t122 a1_0 a1_1 a1_2 a1_3 t123 t124 t125 t126 _ A34.out).mono ?_
           rintro e w41 ⟨rfl, hb⟩
           refine ⟨_, rfl, ?_⟩
           have n0_ := n_blk BK105 hb
           have n1_ := n_blk BK106 hb
           have n2_ := n_blk BK107 hb
           have n3_ := n_blk BK112 hb
           have n4_ := n_blk BK127 hb
           have n5_ := Aside0.mk (below_step (n_hb HB) hb)
           clear BK105 BK106 BK107 BK112 BK127 HB
           have BK105 := n0_; have BK106 := n1_; have BK107 := n2_; have BK112 := n3_; have BK127 := n4_; have HB := n5_
           clear n0_ n1_ n2_ n3_ n4_ n5_
           (try clear hb); (try clear hb2); (try clear hk); (try clear hi)
           refine hK.out _ _ (c4 BK112 (c4 BK107 (c4 BK105 (c4e BK106)))) (fun hHeld => ?_)
           clear hK K
           refine norm_ (a' := ?_) ?_ ?_
           rotate_left
           ·show Act.put _ (some 32) _ = _
            simp only [Act.put, List.setIfInBounds_toArray, List.set_cons_zero, List.set_cons_succ, i64_w, i32_w]
            rfl
           exact norm_ (by first | (simp only [putAll, Act.put, List.setIfInBounds_toArray, List.set_cons_zero, List.set_cons_succ]; done) | (simp only [putAll, Act.put, List.setIfInBounds_toArray, List.set_cons_zero, List.set_cons_succ]; rfl)) (hJ2_5_7_8 (gb127) _ ⟨hHeld, (n_at BK105), (n_at BK106), (n_at BK107), (n_at BK112), (n_at BK127), GW127.out, GE127.out, NB105_127.out, NB127_105.out, NB106_127.out, NB127_106.out, NB107_127.out, NB127_107.out, NB112_127.out, NB127_112.out, (n_hb HB)⟩)
          ·skip
           refine box_step ?hg (N := 9) ?hd (cs := #[.int .u8 0, .int .u32 0, .int .u64 0, .int .u64 0]) (t := 85) ?hr ?_; (case hd => rfl); (case hg => rfl); (case hr => first | (go_simp; done) | (go_simp; rfl))
           intro gb128 hg w41 hbox hb
           have n0_ := n_blk BK105 hb
           have n1_ := n_blk BK106 hb
           have n2_ := n_blk BK107 hb
           have n3_ := n_blk BK112 hb
           have n4_ := n_blk BK127 hb
           have n5_ := Aside0.mk (below_step (n_hb HB) hb)
           have n6_ := Aside0.mk (hbox)
           have n7_ := Aside0.mk ((by rw [hg]; exact (below_size (n_hb HB)) : w.heap.size ≤ gb128))
           have n8_ := Aside0.mk ((by rw [hg]; exact (below_size (n_hb HB)) : w.heap.size ≤ gb128))
           have n9_ := Aside0.mk ((by rw [hg]; exact Nat.ne_of_lt (n_lt BK105) : gb105 ≠ gb128))
           have n10_ := Aside0.mk ((by rw [hg]; exact Nat.ne_of_gt (n_lt BK105) : gb128 ≠ gb105))
           have n11_ := Aside0.mk ((by rw [hg]; exact Nat.ne_of_lt (n_lt BK106) : gb106 ≠ gb128))
           have n12_ := Aside0.mk ((by rw [hg]; exact Nat.ne_of_gt (n_lt BK106) : gb128 ≠ gb106))
           have n13_ := Aside0.mk ((by rw [hg]; exact Nat.ne_of_lt (n_lt BK107) : gb107 ≠ gb128))
           have n14_ := Aside0.mk ((by rw [hg]; exact Nat.ne_of_gt (n_lt BK107) : gb128 ≠ gb107))
           have n15_ := Aside0.mk ((by rw [hg]; exact Nat.ne_of_lt (n_lt BK112) : gb112 ≠ gb128))
           have n16_ := Aside0.mk ((by rw [hg]; exact Nat.ne_of_gt (n_lt BK112) : gb128 ≠ gb112))
           have n17_ := Aside0.mk ((by rw [hg]; exact Nat.ne_of_lt (n_lt BK127) : gb127 ≠ gb128))
           have n18_ := Aside0.mk ((by rw [hg]; exact Nat.ne_of_gt (n_lt BK127) : gb128 ≠ gb127))
           clear BK105 BK106 BK107 BK112 BK127 HB
           have BK105 := n0_; have BK106 := n1_; have BK107 := n2_; have BK112 := n3_; have BK127 := n4_; have HB := n5_; have BK128 := n6_; have GW128 := n7_; have GE128 := n8_; have NB105_128 := n9_; have NB128_105 := n10_; have NB106_128 := n11_; have NB128_106 := n12_; have NB107_128 := n13_; have NB128_107 := n14_; have NB112_128 := n15_; have NB128_112 := n16_; have NB127_128 := n17_; have NB128_127 := n18_
           clear n0_ n1_ n2_ n3_ n4_ n5_ n6_ n7_ n8_ n9_ n10_ n11_ n12_ n13_ n14_ n15_ n16_ n17_ n18_ hb hbox hg
           refine hK.out _ _ (c4 BK112 (c4 BK107 (c4 BK105 (c4e BK106)))) (fun hHeld => ?_)
           clear hK K
           refine norm_ (a' := ?_) ?_ ?_
           rotate_left
           ·show Act.put _ (some 9) _ = _
            simp only [Act.put, List.setIfInBounds_toArray, List.set_cons_zero, List.set_cons_succ, i64_w, i32_w]
            rfl
           exact norm_ (by first | (simp only [putAll, Act.put, List.setIfInBounds_toArray, List.set_cons_zero, List.set_cons_succ]; done) | (simp only [putAll, Act.put, List.setIfInBounds_toArray, List.set_cons_zero, List.set_cons_succ]; rfl)) (hJ2_5_8_9 (gb127, gb128) _ ⟨hHeld, (n_at BK105), (n_at BK106), (n_at BK107), (n_at BK112), (n_at BK127), (n_at BK128), GW127.out, GE127.out, NB105_127.out, NB127_105.out, NB106_127.out, NB127_106.out, NB107_127.out, NB127_107.out, NB112_127.out, NB127_112.out, NB128_127.out, NB127_128.out, GW128.out, GE128.out, NB105_128.out, NB128_105.out, NB106_128.out, NB128_106.out, NB107_128.out, NB128_107.out, NB112_128.out, NB128_112.out, (n_hb HB)⟩)
        ·skip
         rintro _ w40 ⟨hS_, h0_, h1_, h2_, h3_, h4_⟩
         have n0_ : Aside0 (w40.heap[gb105]? = some (.cells #[.int .u8 a0_0, .int .u32 a0_1, .int .u64 a0_2, .int .u64 a0_3] 85 (0, 0))) := ⟨h0_⟩
         have n1_ : Aside0 (w40.heap[gb106]? = some (.cells #[.int .u8 a1_0, .int .u64 a1_1, .int .u8 a1_2, .int .u64 a1_3] 73 (0, 0))) := ⟨h1_⟩
         have n2_ : Aside0 (w40.heap[gb107]? = some (.cells #[.int .u8 a2_0, .int .u64 a2_1, .int .u8 a2_2, .int .u64 a2_3] 73 (0, 0))) := ⟨h2_⟩
         have n3_ : Aside0 (w40.heap[gb112]? = some (.cells #[.int .u8 t108, .int .u32 t109, .int .u64 t110, .int .u64 t111] 85 (0, 0))) := ⟨h3_⟩
         have n4_ : Aside0 (Below w.heap.size w w40) := ⟨h4_⟩
         clear BK105 BK106 BK107 BK112 HB h0_ h1_ h2_ h3_ h4_
         have BK105 := n0_; have BK106 := n1_; have BK107 := n2_; have BK112 := n3_; have HB := n4_
         clear n0_ n1_ n2_ n3_ n4_
         have hHeld : C16 gb112 gb107 gb105 gb106 t108 t109 t110 t111 a2_0 a2_1 a2_2 a2_3 a0_0 a0_1 a0_2 a0_3 a1_0 a1_1 a1_2 a1_3 w40 := hS_
         refine norm_ (a' := ?_) ?_ ?_
         rotate_left
         ·simp only [putAll, Act.put, List.setIfInBounds_toArray, List.set_cons_zero, List.set_cons_succ]
          rfl
         refine two_ (i := 8) (j := 9) (Ni := some 8) (Nj := some 9) MetaOrder.m9 MetaOrder.m17 rfl rfl rfl rfl (two_of HT_.out (by kernel_rfl)) (by decide) (by decide) (fun K hK => ?_) (fun K hK => ?_)
         ·skip
          refine box_step ?hg (N := 8) ?hd (cs := #[.int .u8 0, .int .u32 0, .int .u64 0, .int .u64 0]) (t := 85) ?hr ?_; (case hd => rfl); (case hg => rfl); (case hr => first | (go_simp; done) | (go_simp; rfl))
          intro gb127 hg w41 hbox hb
          have n0_ := n_blk BK105 hb
          have n1_ := n_blk BK106 hb
          have n2_ := n_blk BK107 hb
          have n3_ := n_blk BK112 hb
          have n4_ := Aside0.mk (below_step (n_hb HB) hb)
          have n5_ := Aside0.mk (hbox)
          have n6_ := Aside0.mk ((by rw [hg]; exact (below_size (n_hb HB)) : w.heap.size ≤ gb127))
          have n7_ := Aside0.mk ((by rw [hg]; exact (below_size (n_hb HB)) : w.heap.size ≤ gb127))
          have n8_ := Aside0.mk ((by rw [hg]; exact Nat.ne_of_lt (n_lt BK105) : gb105 ≠ gb127))
          have n9_ := Aside0.mk ((by rw [hg]; exact Nat.ne_of_gt (n_lt BK105) : gb127 ≠ gb105))
          have n10_ := Aside0.mk ((by rw [hg]; exact Nat.ne_of_lt (n_lt BK106) : gb106 ≠ gb127))
          have n11_ := Aside0.mk ((by rw [hg]; exact Nat.ne_of_gt (n_lt BK106) : gb127 ≠ gb106))
          have n12_ := Aside0.mk ((by rw [hg]; exact Nat.ne_of_lt (n_lt BK107) : gb107 ≠ gb127))
          have n13_ := Aside0.mk ((by rw [hg]; exact Nat.ne_of_gt (n_lt BK107) : gb127 ≠ gb107))
          have n14_ := Aside0.mk ((by rw [hg]; exact Nat.ne_of_lt (n_lt BK112) : gb112 ≠ gb127))
          have n15_ := Aside0.mk ((by rw [hg]; exact Nat.ne_of_gt (n_lt BK112) : gb127 ≠ gb112))
          clear BK105 BK106 BK107 BK112 HB
          have BK105 := n0_; have BK106 := n1_; have BK107 := n2_; have BK112 := n3_; have HB := n4_; have BK127 := n5_; have GW127 := n6_; have GE127 := n7_; have NB105_127 := n8_; have NB127_105 := n9_; have NB106_127 := n10_; have NB127_106 := n11_; have NB107_127 := n12_; have NB127_107 := n13_; have NB112_127 := n14_; have NB127_112 := n15_
          clear n0_ n1_ n2_ n3_ n4_ n5_ n6_ n7_ n8_ n9_ n10_ n11_ n12_ n13_ n14_ n15_ hb hbox hg
          refine hK.out _ _ (c4 BK112 (c4 BK107 (c4 BK105 (c4e BK106)))) (fun hHeld => ?_)
          clear hK K
          refine norm_ (a' := ?_) ?_ ?_
          rotate_left
          ·show Act.put _ (some 8) _ = _
           simp only [Act.put, List.setIfInBounds_toArray, List.set_cons_zero, List.set_cons_succ, i64_w, i32_w]
           rfl
          exact norm_ (by first | (simp only [putAll, Act.put, List.setIfInBounds_toArray, List.set_cons_zero, List.set_cons_succ]; done) | (simp only [putAll, Act.put, List.setIfInBounds_toArray, List.set_cons_zero, List.set_cons_succ]; rfl)) (hJ2_5_7_8 (gb127) _ ⟨hHeld, (n_at BK105), (n_at BK106), (n_at BK107), (n_at BK112), (n_at BK127), GW127.out, GE127.out, NB105_127.out, NB127_105.out, NB106_127.out, NB127_106.out, NB107_127.out, NB127_107.out, NB112_127.out, NB127_112.out, (n_hb HB)⟩)
         ·skip
          refine box_step ?hg (N := 9) ?hd (cs := #[.int .u8 0, .int .u32 0, .int .u64 0, .int .u64 0]) (t := 85) ?hr ?_; (case hd => rfl); (case hg => rfl); (case hr => first | (go_simp; done) | (go_simp; rfl))
          intro gb128 hg w41 hbox hb
          have n0_ := n_blk BK105 hb
          have n1_ := n_blk BK106 hb
          have n2_ := n_blk BK107 hb
          have n3_ := n_blk BK112 hb
          have n4_ := Aside0.mk (below_step (n_hb HB) hb)
          have n5_ := Aside0.mk (hbox)
          have n6_ := Aside0.mk ((by rw [hg]; exact (below_size (n_hb HB)) : w.heap.size ≤ gb128))
          have n7_ := Aside0.mk ((by rw [hg]; exact (below_size (n_hb HB)) : w.heap.size ≤ gb128))
          have n8_ := Aside0.mk ((by rw [hg]; exact Nat.ne_of_lt (n_lt BK105) : gb105 ≠ gb128))
          have n9_ := Aside0.mk ((by rw [hg]; exact Nat.ne_of_gt (n_lt BK105) : gb128 ≠ gb105))
          have n10_ := Aside0.mk ((by rw [hg]; exact Nat.ne_of_lt (n_lt BK106) : gb106 ≠ gb128))
          have n11_ := Aside0.mk ((by rw [hg]; exact Nat.ne_of_gt (n_lt BK106) : gb128 ≠ gb106))
          have n12_ := Aside0.mk ((by rw [hg]; exact Nat.ne_of_lt (n_lt BK107) : gb107 ≠ gb128))
          have n13_ := Aside0.mk ((by rw [hg]; exact Nat.ne_of_gt (n_lt BK107) : gb128 ≠ gb107))
          have n14_ := Aside0.mk ((by rw [hg]; exact Nat.ne_of_lt (n_lt BK112) : gb112 ≠ gb128))
          have n15_ := Aside0.mk ((by rw [hg]; exact Nat.ne_of_gt (n_lt BK112) : gb128 ≠ gb112))
          clear BK105 BK106 BK107 BK112 HB
          have BK105 := n0_; have BK106 := n1_; have BK107 := n2_; have BK112 := n3_; have HB := n4_; have BK128 := n5_; have GW128 := n6_; have GE128 := n7_; have NB105_128 := n8_; have NB128_105 := n9_; have NB106_128 := n10_; have NB128_106 := n11_; have NB107_128 := n12_; have NB128_107 := n13_; have NB112_128 := n14_; have NB128_112 := n15_
          clear n0_ n1_ n2_ n3_ n4_ n5_ n6_ n7_ n8_ n9_ n10_ n11_ n12_ n13_ n14_ n15_ hb hbox hg
          refine hK.out _ _ (c4 BK112 (c4 BK107 (c4 BK105 (c4e BK106)))) (fun hHeld => ?_)
          clear hK K
          refine norm_ (a' := ?_) ?_ ?_
          rotate_left
          ·show Act.put _ (some 9) _ = _
           simp only [Act.put, List.setIfInBounds_toArray, List.set_cons_zero, List.set_cons_succ, i64_w, i32_w]
           rfl
          exact norm_ (by first | (simp only [putAll, Act.put, List.setIfInBounds_toArray, List.set_cons_zero, List.set_cons_succ]; done) | (simp only [putAll, Act.put, List.setIfInBounds_toArray, List.set_cons_zero, List.set_cons_succ]; rfl)) (hJ2_5_7_9 (gb128) _ ⟨hHeld, (n_at BK105), (n_at BK106), (n_at BK107), (n_at BK112), (n_at BK128), GW128.out, GE128.out, NB105_128.out, NB128_105.out, NB106_128.out, NB128_106.out, NB107_128.out, NB128_107.out, NB112_128.out, NB128_112.out, (n_hb HB)⟩)
       ·skip
        rintro ⟨gb127, gb128⟩ w41 ⟨hS_, h0_, h1_, h2_, h3_, h4_, h5_, h6_, h7_, h8_, h9_, h10_, h11_, h12_, h13_, h14_, h15_, h16_, h17_, h18_, h19_, h20_, h21_, h22_, h23_, h24_, h25_, h26_, h27_, h28_⟩
        have n0_ : Aside0 (w41.heap[gb105]? = some (.cells #[.int .u8 a0_0, .int .u32 a0_1, .int .u64 a0_2, .int .u64 a0_3] 85 (0, 0))) := ⟨h0_⟩
        have n1_ : Aside0 (w41.heap[gb106]? = some (.cells #[.int .u8 a1_0, .int .u64 a1_1, .int .u8 a1_2, .int .u64 a1_3] 73 (0, 0))) := ⟨h1_⟩
        have n2_ : Aside0 (w41.heap[gb107]? = some (.cells #[.int .u8 a2_0, .int .u64 a2_1, .int .u8 a2_2, .int .u64 a2_3] 73 (0, 0))) := ⟨h2_⟩
        have n3_ : Aside0 (w41.heap[gb112]? = some (.cells #[.int .u8 t108, .int .u32 t109, .int .u64 t110, .int .u64 t111] 85 (0, 0))) := ⟨h3_⟩
        have n4_ : Aside0 (w41.heap[gb127]? = some (.cells #[.int .u8 0, .int .u32 0, .int .u64 0, .int .u64 0] 85 (0, 0))) := ⟨h4_⟩
        have n5_ : Aside0 (w41.heap[gb128]? = some (.cells #[.int .u8 0, .int .u32 0, .int .u64 0, .int .u64 0] 85 (0, 0))) := ⟨h5_⟩
        have n6_ : Aside0 (w.heap.size ≤ gb127) := ⟨h6_⟩
        have n7_ : Aside0 (w.heap.size ≤ gb127) := ⟨h7_⟩
        have n8_ : Aside0 (gb105 ≠ gb127) := ⟨h8_⟩
        have n9_ : Aside0 (gb127 ≠ gb105) := ⟨h9_⟩
        have n10_ : Aside0 (gb106 ≠ gb127) := ⟨h10_⟩
        have n11_ : Aside0 (gb127 ≠ gb106) := ⟨h11_⟩
        have n12_ : Aside0 (gb107 ≠ gb127) := ⟨h12_⟩
        have n13_ : Aside0 (gb127 ≠ gb107) := ⟨h13_⟩
        have n14_ : Aside0 (gb112 ≠ gb127) := ⟨h14_⟩
        have n15_ : Aside0 (gb127 ≠ gb112) := ⟨h15_⟩
        have n16_ : Aside0 (gb128 ≠ gb127) := ⟨h16_⟩
        have n17_ : Aside0 (gb127 ≠ gb128) := ⟨h17_⟩
        have n18_ : Aside0 (w.heap.size ≤ gb128) := ⟨h18_⟩
        have n19_ : Aside0 (w.heap.size ≤ gb128) := ⟨h19_⟩
        have n20_ : Aside0 (gb105 ≠ gb128) := ⟨h20_⟩
        have n21_ : Aside0 (gb128 ≠ gb105) := ⟨h21_⟩
        have n22_ : Aside0 (gb106 ≠ gb128) := ⟨h22_⟩
        have n23_ : Aside0 (gb128 ≠ gb106) := ⟨h23_⟩
        have n24_ : Aside0 (gb107 ≠ gb128) := ⟨h24_⟩
        have n25_ : Aside0 (gb128 ≠ gb107) := ⟨h25_⟩
        have n26_ : Aside0 (gb112 ≠ gb128) := ⟨h26_⟩
        have n27_ : Aside0 (gb128 ≠ gb112) := ⟨h27_⟩
        have n28_ : Aside0 (Below w.heap.size w w41) := ⟨h28_⟩
        clear BK105 BK106 BK107 BK112 HB h0_ h1_ h2_ h3_ h4_ h5_ h6_ h7_ h8_ h9_ h10_ h11_ h12_ h13_ h14_ h15_ h16_ h17_ h18_ h19_ h20_ h21_ h22_ h23_ h24_ h25_ h26_ h27_ h28_
        have BK105 := n0_; have BK106 := n1_; have BK107 := n2_; have BK112 := n3_; have BK127 := n4_; have BK128 := n5_; have GW127 := n6_; have GE127 := n7_; have NB105_127 := n8_; have NB127_105 := n9_; have NB106_127 := n10_; have NB127_106 := n11_; have NB107_127 := n12_; have NB127_107 := n13_; have NB112_127 := n14_; have NB127_112 := n15_; have NB128_127 := n16_; have NB127_128 := n17_; have GW128 := n18_; have GE128 := n19_; have NB105_128 := n20_; have NB128_105 := n21_; have NB106_128 := n22_; have NB128_106 := n23_; have NB107_128 := n24_; have NB128_107 := n25_; have NB112_128 := n26_; have NB128_112 := n27_; have HB := n28_
        clear n0_ n1_ n2_ n3_ n4_ n5_ n6_ n7_ n8_ n9_ n10_ n11_ n12_ n13_ n14_ n15_ n16_ n17_ n18_ n19_ n20_ n21_ n22_ n23_ n24_ n25_ n26_ n27_ n28_
        have hHeld : C16 gb112 gb107 gb105 gb106 t108 t109 t110 t111 a2_0 a2_1 a2_2 a2_3 a0_0 a0_1 a0_2 a0_3 a1_0 a1_1 a1_2 a1_3 w41 := hS_
        refine norm_ (a' := ?_) ?_ ?_
        rotate_left
        ·simp only [putAll, Act.put, List.setIfInBounds_toArray, List.set_cons_zero, List.set_cons_succ]
         rfl
        refine one_ (i := 7) (N := some 32) MetaOrder.m10 rfl rfl (one_of HT_.out (by kernel_rfl)) (by decide) (fun K hK => ?_)
        refine goes_ Try.func45 (by kernel_rfl) rfl #[.agg #[.int .u8 t119, .int .u32 t120, .int .u64 t121, .int .u64 t122], .agg #[.int .u8 a1_0, .int .u64 a1_1, .int .u8 a1_2, .int .u64 a1_3]] (by rfl) rfl rfl (by (try simp only [List.map_toArray, List.map_cons, List.map_nil]); first | done | rfl | (simp only [List.length_drop, List.length_take]; rfl)) ?_
        with_reducible refine (meta_Apply.calls t119 t120 t121 t122 a1_0 a1_1 a1_2 a1_3 t123 t124 t125 t126 _ A34.out).mono ?_
        rintro e w42 ⟨rfl, hb⟩
        refine ⟨_, rfl, ?_⟩
        have n0_ := n_blk BK105 hb
        have n1_ := n_blk BK106 hb
        have n2_ := n_blk BK107 hb
        have n3_ := n_blk BK112 hb
        have n4_ := n_blk BK127 hb
        have n5_ := n_blk BK128 hb
        have n6_ := Aside0.mk (below_step (n_hb HB) hb)
        clear BK105 BK106 BK107 BK112 BK127 BK128 HB
        have BK105 := n0_; have BK106 := n1_; have BK107 := n2_; have BK112 := n3_; have BK127 := n4_; have BK128 := n5_; have HB := n6_
        clear n0_ n1_ n2_ n3_ n4_ n5_ n6_
        (try clear hb); (try clear hb2); (try clear hk); (try clear hi)
        refine hK.out _ _ (c4 BK112 (c4 BK107 (c4 BK105 (c4e BK106)))) (fun hHeld => ?_)
        clear hK K
        refine norm_ (a' := ?_) ?_ ?_
        rotate_left
        ·show Act.put _ (some 32) _ = _
         simp only [Act.put, List.setIfInBounds_toArray, List.set_cons_zero, List.set_cons_succ, i64_w, i32_w]
         rfl
        exact norm_ (by first | (simp only [putAll, Act.put, List.setIfInBounds_toArray, List.set_cons_zero, List.set_cons_succ]; done) | (simp only [putAll, Act.put, List.setIfInBounds_toArray, List.set_cons_zero, List.set_cons_succ]; rfl)) (hJ2_5_7_8_9 (gb127, gb128) _ ⟨hHeld, (n_at BK105), (n_at BK106), (n_at BK107), (n_at BK112), (n_at BK127), (n_at BK128), GW127.out, GE127.out, NB105_127.out, NB127_105.out, NB106_127.out, NB127_106.out, NB107_127.out, NB127_107.out, NB112_127.out, NB127_112.out, NB128_127.out, NB127_128.out, GW128.out, GE128.out, NB105_128.out, NB128_105.out, NB106_128.out, NB128_106.out, NB107_128.out, NB128_107.out, NB112_128.out, NB128_112.out, (n_hb HB)⟩)
      ·skip
       rintro gb128 w41 ⟨hS_, h0_, h1_, h2_, h3_, h4_, h5_, h6_, h7_, h8_, h9_, h10_, h11_, h12_, h13_, h14_, h15_⟩
       have n0_ : Aside0 (w41.heap[gb105]? = some (.cells #[.int .u8 a0_0, .int .u32 a0_1, .int .u64 a0_2, .int .u64 a0_3] 85 (0, 0))) := ⟨h0_⟩
       have n1_ : Aside0 (w41.heap[gb106]? = some (.cells #[.int .u8 a1_0, .int .u64 a1_1, .int .u8 a1_2, .int .u64 a1_3] 73 (0, 0))) := ⟨h1_⟩
       have n2_ : Aside0 (w41.heap[gb107]? = some (.cells #[.int .u8 a2_0, .int .u64 a2_1, .int .u8 a2_2, .int .u64 a2_3] 73 (0, 0))) := ⟨h2_⟩
       have n3_ : Aside0 (w41.heap[gb112]? = some (.cells #[.int .u8 t108, .int .u32 t109, .int .u64 t110, .int .u64 t111] 85 (0, 0))) := ⟨h3_⟩
       have n4_ : Aside0 (w41.heap[gb128]? = some (.cells #[.int .u8 0, .int .u32 0, .int .u64 0, .int .u64 0] 85 (0, 0))) := ⟨h4_⟩
       have n5_ : Aside0 (w.heap.size ≤ gb128) := ⟨h5_⟩
       have n6_ : Aside0 (w.heap.size ≤ gb128) := ⟨h6_⟩
       have n7_ : Aside0 (gb105 ≠ gb128) := ⟨h7_⟩
       have n8_ : Aside0 (gb128 ≠ gb105) := ⟨h8_⟩
       have n9_ : Aside0 (gb106 ≠ gb128) := ⟨h9_⟩
       have n10_ : Aside0 (gb128 ≠ gb106) := ⟨h10_⟩
       have n11_ : Aside0 (gb107 ≠ gb128) := ⟨h11_⟩
       have n12_ : Aside0 (gb128 ≠ gb107) := ⟨h12_⟩
       have n13_ : Aside0 (gb112 ≠ gb128) := ⟨h13_⟩
       have n14_ : Aside0 (gb128 ≠ gb112) := ⟨h14_⟩
       have n15_ : Aside0 (Below w.heap.size w w41) := ⟨h15_⟩
       clear BK105 BK106 BK107 BK112 HB h0_ h1_ h2_ h3_ h4_ h5_ h6_ h7_ h8_ h9_ h10_ h11_ h12_ h13_ h14_ h15_
       have BK105 := n0_; have BK106 := n1_; have BK107 := n2_; have BK112 := n3_; have BK128 := n4_; have GW128 := n5_; have GE128 := n6_; have NB105_128 := n7_; have NB128_105 := n8_; have NB106_128 := n9_; have NB128_106 := n10_; have NB107_128 := n11_; have NB128_107 := n12_; have NB112_128 := n13_; have NB128_112 := n14_; have HB := n15_
       clear n0_ n1_ n2_ n3_ n4_ n5_ n6_ n7_ n8_ n9_ n10_ n11_ n12_ n13_ n14_ n15_
       have hHeld : C16 gb112 gb107 gb105 gb106 t108 t109 t110 t111 a2_0 a2_1 a2_2 a2_3 a0_0 a0_1 a0_2 a0_3 a1_0 a1_1 a1_2 a1_3 w41 := hS_
       refine norm_ (a' := ?_) ?_ ?_
       rotate_left
       ·simp only [putAll, Act.put, List.setIfInBounds_toArray, List.set_cons_zero, List.set_cons_succ]
        rfl
       refine one_ (i := 8) (N := some 8) MetaOrder.m10 rfl rfl (one_of HT_.out (by kernel_rfl)) (by decide) (fun K hK => ?_)
       refine box_step ?hg (N := 8) ?hd (cs := #[.int .u8 0, .int .u32 0, .int .u64 0, .int .u64 0]) (t := 85) ?hr ?_; (case hd => rfl); (case hg => rfl); (case hr => first | (go_simp; done) | (go_simp; rfl))
       intro gb127 hg w42 hbox hb
       have n0_ := n_blk BK105 hb
       have n1_ := n_blk BK106 hb
       have n2_ := n_blk BK107 hb
       have n3_ := n_blk BK112 hb
       have n4_ := n_blk BK128 hb
       have n5_ := Aside0.mk (below_step (n_hb HB) hb)
       have n6_ := Aside0.mk (hbox)
       have n7_ := Aside0.mk ((by rw [hg]; exact (below_size (n_hb HB)) : w.heap.size ≤ gb127))
       have n8_ := Aside0.mk ((by rw [hg]; exact (below_size (n_hb HB)) : w.heap.size ≤ gb127))
       have n9_ := Aside0.mk ((by rw [hg]; exact Nat.ne_of_lt (n_lt BK105) : gb105 ≠ gb127))
       have n10_ := Aside0.mk ((by rw [hg]; exact Nat.ne_of_gt (n_lt BK105) : gb127 ≠ gb105))
       have n11_ := Aside0.mk ((by rw [hg]; exact Nat.ne_of_lt (n_lt BK106) : gb106 ≠ gb127))
       have n12_ := Aside0.mk ((by rw [hg]; exact Nat.ne_of_gt (n_lt BK106) : gb127 ≠ gb106))
       have n13_ := Aside0.mk ((by rw [hg]; exact Nat.ne_of_lt (n_lt BK107) : gb107 ≠ gb127))
       have n14_ := Aside0.mk ((by rw [hg]; exact Nat.ne_of_gt (n_lt BK107) : gb127 ≠ gb107))
       have n15_ := Aside0.mk ((by rw [hg]; exact Nat.ne_of_lt (n_lt BK112) : gb112 ≠ gb127))
       have n16_ := Aside0.mk ((by rw [hg]; exact Nat.ne_of_gt (n_lt BK112) : gb127 ≠ gb112))
       have n17_ := Aside0.mk ((by rw [hg]; exact Nat.ne_of_lt (n_lt BK128) : gb128 ≠ gb127))
       have n18_ := Aside0.mk ((by rw [hg]; exact Nat.ne_of_gt (n_lt BK128) : gb127 ≠ gb128))
       clear BK105 BK106 BK107 BK112 BK128 HB
       have BK105 := n0_; have BK106 := n1_; have BK107 := n2_; have BK112 := n3_; have BK128 := n4_; have HB := n5_; have BK127 := n6_; have GW127 := n7_; have GE127 := n8_; have NB105_127 := n9_; have NB127_105 := n10_; have NB106_127 := n11_; have NB127_106 := n12_; have NB107_127 := n13_; have NB127_107 := n14_; have NB112_127 := n15_; have NB127_112 := n16_; have NB128_127 := n17_; have NB127_128 := n18_
       clear n0_ n1_ n2_ n3_ n4_ n5_ n6_ n7_ n8_ n9_ n10_ n11_ n12_ n13_ n14_ n15_ n16_ n17_ n18_ hb hbox hg
       refine hK.out _ _ (c4 BK112 (c4 BK107 (c4 BK105 (c4e BK106)))) (fun hHeld => ?_)
       clear hK K
       refine norm_ (a' := ?_) ?_ ?_
       rotate_left
       ·show Act.put _ (some 8) _ = _
        simp only [Act.put, List.setIfInBounds_toArray, List.set_cons_zero, List.set_cons_succ, i64_w, i32_w]
        rfl
       exact norm_ (by first | (simp only [putAll, Act.put, List.setIfInBounds_toArray, List.set_cons_zero, List.set_cons_succ]; done) | (simp only [putAll, Act.put, List.setIfInBounds_toArray, List.set_cons_zero, List.set_cons_succ]; rfl)) (hJ2_5_7_8_9 (gb127, gb128) _ ⟨hHeld, (n_at BK105), (n_at BK106), (n_at BK107), (n_at BK112), (n_at BK127), (n_at BK128), GW127.out, GE127.out, NB105_127.out, NB127_105.out, NB106_127.out, NB127_106.out, NB107_127.out, NB127_107.out, NB112_127.out, NB127_112.out, NB128_127.out, NB127_128.out, GW128.out, GE128.out, NB105_128.out, NB128_105.out, NB106_128.out, NB128_106.out, NB107_128.out, NB128_107.out, NB112_128.out, NB128_112.out, (n_hb HB)⟩)
     ·skip
      rintro gb127 w41 ⟨hS_, h0_, h1_, h2_, h3_, h4_, h5_, h6_, h7_, h8_, h9_, h10_, h11_, h12_, h13_, h14_, h15_⟩
      have n0_ : Aside0 (w41.heap[gb105]? = some (.cells #[.int .u8 a0_0, .int .u32 a0_1, .int .u64 a0_2, .int .u64 a0_3] 85 (0, 0))) := ⟨h0_⟩
      have n1_ : Aside0 (w41.heap[gb106]? = some (.cells #[.int .u8 a1_0, .int .u64 a1_1, .int .u8 a1_2, .int .u64 a1_3] 73 (0, 0))) := ⟨h1_⟩
      have n2_ : Aside0 (w41.heap[gb107]? = some (.cells #[.int .u8 a2_0, .int .u64 a2_1, .int .u8 a2_2, .int .u64 a2_3] 73 (0, 0))) := ⟨h2_⟩
      have n3_ : Aside0 (w41.heap[gb112]? = some (.cells #[.int .u8 t108, .int .u32 t109, .int .u64 t110, .int .u64 t111] 85 (0, 0))) := ⟨h3_⟩
      have n4_ : Aside0 (w41.heap[gb127]? = some (.cells #[.int .u8 0, .int .u32 0, .int .u64 0, .int .u64 0] 85 (0, 0))) := ⟨h4_⟩
      have n5_ : Aside0 (w.heap.size ≤ gb127) := ⟨h5_⟩
      have n6_ : Aside0 (w.heap.size ≤ gb127) := ⟨h6_⟩
      have n7_ : Aside0 (gb105 ≠ gb127) := ⟨h7_⟩
      have n8_ : Aside0 (gb127 ≠ gb105) := ⟨h8_⟩
      have n9_ : Aside0 (gb106 ≠ gb127) := ⟨h9_⟩
      have n10_ : Aside0 (gb127 ≠ gb106) := ⟨h10_⟩
      have n11_ : Aside0 (gb107 ≠ gb127) := ⟨h11_⟩
      have n12_ : Aside0 (gb127 ≠ gb107) := ⟨h12_⟩
      have n13_ : Aside0 (gb112 ≠ gb127) := ⟨h13_⟩
      have n14_ : Aside0 (gb127 ≠ gb112) := ⟨h14_⟩
      have n15_ : Aside0 (Below w.heap.size w w41) := ⟨h15_⟩
      clear BK105 BK106 BK107 BK112 HB h0_ h1_ h2_ h3_ h4_ h5_ h6_ h7_ h8_ h9_ h10_ h11_ h12_ h13_ h14_ h15_
      have BK105 := n0_; have BK106 := n1_; have BK107 := n2_; have BK112 := n3_; have BK127 := n4_; have GW127 := n5_; have GE127 := n6_; have NB105_127 := n7_; have NB127_105 := n8_; have NB106_127 := n9_; have NB127_106 := n10_; have NB107_127 := n11_; have NB127_107 := n12_; have NB112_127 := n13_; have NB127_112 := n14_; have HB := n15_
      clear n0_ n1_ n2_ n3_ n4_ n5_ n6_ n7_ n8_ n9_ n10_ n11_ n12_ n13_ n14_ n15_
      have hHeld : C16 gb112 gb107 gb105 gb106 t108 t109 t110 t111 a2_0 a2_1 a2_2 a2_3 a0_0 a0_1 a0_2 a0_3 a1_0 a1_1 a1_2 a1_3 w41 := hS_
      refine norm_ (a' := ?_) ?_ ?_
      rotate_left
      ·simp only [putAll, Act.put, List.setIfInBounds_toArray, List.set_cons_zero, List.set_cons_succ]
       rfl
      refine one_ (i := 9) (N := some 9) MetaOrder.m10 rfl rfl (one_of HT_.out (by kernel_rfl)) (by decide) (fun K hK => ?_)
      refine box_step ?hg (N := 9) ?hd (cs := #[.int .u8 0, .int .u32 0, .int .u64 0, .int .u64 0]) (t := 85) ?hr ?_; (case hd => rfl); (case hg => rfl); (case hr => first | (go_simp; done) | (go_simp; rfl))
      intro gb128 hg w42 hbox hb
      have n0_ := n_blk BK105 hb
      have n1_ := n_blk BK106 hb
      have n2_ := n_blk BK107 hb
      have n3_ := n_blk BK112 hb
      have n4_ := n_blk BK127 hb
      have n5_ := Aside0.mk (below_step (n_hb HB) hb)
      have n6_ := Aside0.mk (hbox)
      have n7_ := Aside0.mk ((by rw [hg]; exact (below_size (n_hb HB)) : w.heap.size ≤ gb128))
      have n8_ := Aside0.mk ((by rw [hg]; exact (below_size (n_hb HB)) : w.heap.size ≤ gb128))
      have n9_ := Aside0.mk ((by rw [hg]; exact Nat.ne_of_lt (n_lt BK105) : gb105 ≠ gb128))
      have n10_ := Aside0.mk ((by rw [hg]; exact Nat.ne_of_gt (n_lt BK105) : gb128 ≠ gb105))
      have n11_ := Aside0.mk ((by rw [hg]; exact Nat.ne_of_lt (n_lt BK106) : gb106 ≠ gb128))
      have n12_ := Aside0.mk ((by rw [hg]; exact Nat.ne_of_gt (n_lt BK106) : gb128 ≠ gb106))
      have n13_ := Aside0.mk ((by rw [hg]; exact Nat.ne_of_lt (n_lt BK107) : gb107 ≠ gb128))
      have n14_ := Aside0.mk ((by rw [hg]; exact Nat.ne_of_gt (n_lt BK107) : gb128 ≠ gb107))
      have n15_ := Aside0.mk ((by rw [hg]; exact Nat.ne_of_lt (n_lt BK112) : gb112 ≠ gb128))
      have n16_ := Aside0.mk ((by rw [hg]; exact Nat.ne_of_gt (n_lt BK112) : gb128 ≠ gb112))
      have n17_ := Aside0.mk ((by rw [hg]; exact Nat.ne_of_lt (n_lt BK127) : gb127 ≠ gb128))
      have n18_ := Aside0.mk ((by rw [hg]; exact Nat.ne_of_gt (n_lt BK127) : gb128 ≠ gb127))
      clear BK105 BK106 BK107 BK112 BK127 HB
      have BK105 := n0_; have BK106 := n1_; have BK107 := n2_; have BK112 := n3_; have BK127 := n4_; have HB := n5_; have BK128 := n6_; have GW128 := n7_; have GE128 := n8_; have NB105_128 := n9_; have NB128_105 := n10_; have NB106_128 := n11_; have NB128_106 := n12_; have NB107_128 := n13_; have NB128_107 := n14_; have NB112_128 := n15_; have NB128_112 := n16_; have NB127_128 := n17_; have NB128_127 := n18_
      clear n0_ n1_ n2_ n3_ n4_ n5_ n6_ n7_ n8_ n9_ n10_ n11_ n12_ n13_ n14_ n15_ n16_ n17_ n18_ hb hbox hg
      refine hK.out _ _ (c4 BK112 (c4 BK107 (c4 BK105 (c4e BK106)))) (fun hHeld => ?_)
      clear hK K
      refine norm_ (a' := ?_) ?_ ?_
      rotate_left
      ·show Act.put _ (some 9) _ = _
       simp only [Act.put, List.setIfInBounds_toArray, List.set_cons_zero, List.set_cons_succ, i64_w, i32_w]
       rfl
      exact norm_ (by first | (simp only [putAll, Act.put, List.setIfInBounds_toArray, List.set_cons_zero, List.set_cons_succ]; done) | (simp only [putAll, Act.put, List.setIfInBounds_toArray, List.set_cons_zero, List.set_cons_succ]; rfl)) (hJ2_5_7_8_9 (gb127, gb128) _ ⟨hHeld, (n_at BK105), (n_at BK106), (n_at BK107), (n_at BK112), (n_at BK127), (n_at BK128), GW127.out, GE127.out, NB105_127.out, NB127_105.out, NB106_127.out, NB127_106.out, NB107_127.out, NB127_107.out, NB112_127.out, NB127_112.out, NB128_127.out, NB127_128.out, GW128.out, GE128.out, NB105_128.out, NB128_105.out, NB106_128.out, NB128_106.out, NB107_128.out, NB128_107.out, NB112_128.out, NB128_112.out, (n_hb HB)⟩)
    rintro ⟨gb127, gb128⟩ w42 ⟨hS_, h0_, h1_, h2_, h3_, h4_, h5_, h6_, h7_, h8_, h9_, h10_, h11_, h12_, h13_, h14_, h15_, h16_, h17_, h18_, h19_, h20_, h21_, h22_, h23_, h24_, h25_, h26_, h27_, h28_⟩
    have n0_ : Aside0 (w42.heap[gb105]? = some (.cells #[.int .u8 a0_0, .int .u32 a0_1, .int .u64 a0_2, .int .u64 a0_3] 85 (0, 0))) := ⟨h0_⟩
    have n1_ : Aside0 (w42.heap[gb106]? = some (.cells #[.int .u8 a1_0, .int .u64 a1_1, .int .u8 a1_2, .int .u64 a1_3] 73 (0, 0))) := ⟨h1_⟩
    have n2_ : Aside0 (w42.heap[gb107]? = some (.cells #[.int .u8 a2_0, .int .u64 a2_1, .int .u8 a2_2, .int .u64 a2_3] 73 (0, 0))) := ⟨h2_⟩
    have n3_ : Aside0 (w42.heap[gb112]? = some (.cells #[.int .u8 t108, .int .u32 t109, .int .u64 t110, .int .u64 t111] 85 (0, 0))) := ⟨h3_⟩
    have n4_ : Aside0 (w42.heap[gb127]? = some (.cells #[.int .u8 0, .int .u32 0, .int .u64 0, .int .u64 0] 85 (0, 0))) := ⟨h4_⟩
    have n5_ : Aside0 (w42.heap[gb128]? = some (.cells #[.int .u8 0, .int .u32 0, .int .u64 0, .int .u64 0] 85 (0, 0))) := ⟨h5_⟩
    have n6_ : Aside0 (w.heap.size ≤ gb127) := ⟨h6_⟩
    have n7_ : Aside0 (w.heap.size ≤ gb127) := ⟨h7_⟩
    have n8_ : Aside0 (gb105 ≠ gb127) := ⟨h8_⟩
    have n9_ : Aside0 (gb127 ≠ gb105) := ⟨h9_⟩
    have n10_ : Aside0 (gb106 ≠ gb127) := ⟨h10_⟩
    have n11_ : Aside0 (gb127 ≠ gb106) := ⟨h11_⟩
    have n12_ : Aside0 (gb107 ≠ gb127) := ⟨h12_⟩
    have n13_ : Aside0 (gb127 ≠ gb107) := ⟨h13_⟩
    have n14_ : Aside0 (gb112 ≠ gb127) := ⟨h14_⟩
    have n15_ : Aside0 (gb127 ≠ gb112) := ⟨h15_⟩
    have n16_ : Aside0 (gb128 ≠ gb127) := ⟨h16_⟩
    have n17_ : Aside0 (gb127 ≠ gb128) := ⟨h17_⟩
    have n18_ : Aside0 (w.heap.size ≤ gb128) := ⟨h18_⟩
    have n19_ : Aside0 (w.heap.size ≤ gb128) := ⟨h19_⟩
    have n20_ : Aside0 (gb105 ≠ gb128) := ⟨h20_⟩
    have n21_ : Aside0 (gb128 ≠ gb105) := ⟨h21_⟩
    have n22_ : Aside0 (gb106 ≠ gb128) := ⟨h22_⟩
    have n23_ : Aside0 (gb128 ≠ gb106) := ⟨h23_⟩
    have n24_ : Aside0 (gb107 ≠ gb128) := ⟨h24_⟩
    have n25_ : Aside0 (gb128 ≠ gb107) := ⟨h25_⟩
    have n26_ : Aside0 (gb112 ≠ gb128) := ⟨h26_⟩
    have n27_ : Aside0 (gb128 ≠ gb112) := ⟨h27_⟩
    have n28_ : Aside0 (Below w.heap.size w w42) := ⟨h28_⟩
    clear BK105 BK106 BK107 BK112 HB h0_ h1_ h2_ h3_ h4_ h5_ h6_ h7_ h8_ h9_ h10_ h11_ h12_ h13_ h14_ h15_ h16_ h17_ h18_ h19_ h20_ h21_ h22_ h23_ h24_ h25_ h26_ h27_ h28_
    have BK105 := n0_; have BK106 := n1_; have BK107 := n2_; have BK112 := n3_; have BK127 := n4_; have BK128 := n5_; have GW127 := n6_; have GE127 := n7_; have NB105_127 := n8_; have NB127_105 := n9_; have NB106_127 := n10_; have NB127_106 := n11_; have NB107_127 := n12_; have NB127_107 := n13_; have NB112_127 := n14_; have NB127_112 := n15_; have NB128_127 := n16_; have NB127_128 := n17_; have GW128 := n18_; have GE128 := n19_; have NB105_128 := n20_; have NB128_105 := n21_; have NB106_128 := n22_; have NB128_106 := n23_; have NB107_128 := n24_; have NB128_107 := n25_; have NB112_128 := n26_; have NB128_112 := n27_; have HB := n28_
    clear n0_ n1_ n2_ n3_ n4_ n5_ n6_ n7_ n8_ n9_ n10_ n11_ n12_ n13_ n14_ n15_ n16_ n17_ n18_ n19_ n20_ n21_ n22_ n23_ n24_ n25_ n26_ n27_ n28_
    have hHeld : C16 gb112 gb107 gb105 gb106 t108 t109 t110 t111 a2_0 a2_1 a2_2 a2_3 a0_0 a0_1 a0_2 a0_3 a1_0 a1_1 a1_2 a1_3 w42 := hS_
    refine norm_ (a' := ?_) ?_ ?_
    rotate_left
    ·simp only [putAll, Act.put, List.setIfInBounds_toArray, List.set_cons_zero, List.set_cons_succ]
     rfl
    refine one_ (i := 10) (N := none) MetaOrder.m11 rfl rfl (one_of HT_.out (by kernel_rfl)) (by decide) (fun K hK => ?_)
    have hs43 : w42.cell? ⟨gb127, 0, none⟩ = some (.int .u8 0) := (blk_cell BK127.out 0).trans rfl
    have hfs43 := blk_frozen BK127.out 0
    have hns43_0 := NB105_127.out
    have hns43_1 := NB106_127.out
    have hns43_2 := NB107_127.out
    have hns43_3 := NB112_127.out
    have hns43_5 := NB128_127.out
    have hms43_0 := NB127_105.out
    have hms43_1 := NB127_106.out
    have hms43_2 := NB127_107.out
    have hms43_3 := NB127_112.out
    have hms43_5 := NB127_128.out
    have hs44 : w42.cell? ⟨gb127, 1, none⟩ = some (.int .u32 0) := (blk_cell BK127.out 1).trans rfl
    have hfs44 := blk_frozen BK127.out 1
    have hns44_0 := NB105_127.out
    have hns44_1 := NB106_127.out
    have hns44_2 := NB107_127.out
    have hns44_3 := NB112_127.out
    have hns44_5 := NB128_127.out
    have hms44_0 := NB127_105.out
    have hms44_1 := NB127_106.out
    have hms44_2 := NB127_107.out
    have hms44_3 := NB127_112.out
    have hms44_5 := NB127_128.out
    have hs45 : w42.cell? ⟨gb127, 2, none⟩ = some (.int .u64 0) := (blk_cell BK127.out 2).trans rfl
    have hfs45 := blk_frozen BK127.out 2
    have hns45_0 := NB105_127.out
    have hns45_1 := NB106_127.out
    have hns45_2 := NB107_127.out
    have hns45_3 := NB112_127.out
    have hns45_5 := NB128_127.out
    have hms45_0 := NB127_105.out
    have hms45_1 := NB127_106.out
    have hms45_2 := NB127_107.out
    have hms45_3 := NB127_112.out
    have hms45_5 := NB127_128.out
    have hs46 : w42.cell? ⟨gb127, 3, none⟩ = some (.int .u64 0) := (blk_cell BK127.out 3).trans rfl
    have hfs46 := blk_frozen BK127.out 3
    have hns46_0 := NB105_127.out
    have hns46_1 := NB106_127.out
    have hns46_2 := NB107_127.out
    have hns46_3 := NB112_127.out
    have hns46_5 := NB128_127.out
    have hms46_0 := NB127_105.out
    have hms46_1 := NB127_106.out
    have hms46_2 := NB127_107.out
    have hms46_3 := NB127_112.out
    have hms46_5 := NB127_128.out
    refine skip_ (w1 := ?_) (by rfl) rfl ?_ ?_
    rotate_left
    ·go_simp
     rfl
    refine hK.out _ _ ⟨((cell_far (p := ⟨gb127, _, none⟩) NB112_127.out _).trans (((cell_far (p := ⟨gb127, _, none⟩) NB112_127.out _).trans (((cell_far (p := ⟨gb127, _, none⟩) NB112_127.out _).trans (((cell_far (p := ⟨gb127, _, none⟩) NB112_127.out _).trans (hHeld.1)))))))), ((cell_far (p := ⟨gb127, _, none⟩) NB112_127.out _).trans (((cell_far (p := ⟨gb127, _, none⟩) NB112_127.out _).trans (((cell_far (p := ⟨gb127, _, none⟩) NB112_127.out _).trans (((cell_far (p := ⟨gb127, _, none⟩) NB112_127.out _).trans (hHeld.2.1)))))))), ((cell_far (p := ⟨gb127, _, none⟩) NB112_127.out _).trans (((cell_far (p := ⟨gb127, _, none⟩) NB112_127.out _).trans (((cell_far (p := ⟨gb127, _, none⟩) NB112_127.out _).trans (((cell_far (p := ⟨gb127, _, none⟩) NB112_127.out _).trans (hHeld.2.2.1)))))))), ((cell_far (p := ⟨gb127, _, none⟩) NB112_127.out _).trans (((cell_far (p := ⟨gb127, _, none⟩) NB112_127.out _).trans (((cell_far (p := ⟨gb127, _, none⟩) NB112_127.out _).trans (((cell_far (p := ⟨gb127, _, none⟩) NB112_127.out _).trans (hHeld.2.2.2.1)))))))), ((cell_far (p := ⟨gb127, _, none⟩) NB107_127.out _).trans (((cell_far (p := ⟨gb127, _, none⟩) NB107_127.out _).trans (((cell_far (p := ⟨gb127, _, none⟩) NB107_127.out _).trans (((cell_far (p := ⟨gb127, _, none⟩) NB107_127.out _).trans (hHeld.2.2.2.2.1)))))))), ((cell_far (p := ⟨gb127, _, none⟩) NB107_127.out _).trans (((cell_far (p := ⟨gb127, _, none⟩) NB107_127.out _).trans (((cell_far (p := ⟨gb127, _, none⟩) NB107_127.out _).trans (((cell_far (p := ⟨gb127, _, none⟩) NB107_127.out _).trans (hHeld.2.2.2.2.2.1)))))))), ((cell_far (p := ⟨gb127, _, none⟩) NB107_127.out _).trans (((cell_far (p := ⟨gb127, _, none⟩) NB107_127.out _).trans (((cell_far (p := ⟨gb127, _, none⟩) NB107_127.out _).trans (((cell_far (p := ⟨gb127, _, none⟩) NB107_127.out _).trans (hHeld.2.2.2.2.2.2.1)))))))), ((cell_far (p := ⟨gb127, _, none⟩) NB107_127.out _).trans (((cell_far (p := ⟨gb127, _, none⟩) NB107_127.out _).trans (((cell_far (p := ⟨gb127, _, none⟩) NB107_127.out _).trans (((cell_far (p := ⟨gb127, _, none⟩) NB107_127.out _).trans (hHeld.2.2.2.2.2.2.2.1)))))))), ((cell_far (p := ⟨gb127, _, none⟩) NB105_127.out _).trans (((cell_far (p := ⟨gb127, _, none⟩) NB105_127.out _).trans (((cell_far (p := ⟨gb127, _, none⟩) NB105_127.out _).trans (((cell_far (p := ⟨gb127, _, none⟩) NB105_127.out _).trans (hHeld.2.2.2.2.2.2.2.2.1)))))))), ((cell_far (p := ⟨gb127, _, none⟩) NB105_127.out _).trans (((cell_far (p := ⟨gb127, _, none⟩) NB105_127.out _).trans (((cell_far (p := ⟨gb127, _, none⟩) NB105_127.out _).trans (((cell_far (p := ⟨gb127, _, none⟩) NB105_127.out _).trans (hHeld.2.2.2.2.2.2.2.2.2.1)))))))), ((cell_far (p := ⟨gb127, _, none⟩) NB105_127.out _).trans (((cell_far (p := ⟨gb127, _, none⟩) NB105_127.out _).trans (((cell_far (p := ⟨gb127, _, none⟩) NB105_127.out _).trans (((cell_far (p := ⟨gb127, _, none⟩) NB105_127.out _).trans (hHeld.2.2.2.2.2.2.2.2.2.2.1)))))))), ((cell_far (p := ⟨gb127, _, none⟩) NB105_127.out _).trans (((cell_far (p := ⟨gb127, _, none⟩) NB105_127.out _).trans (((cell_far (p := ⟨gb127, _, none⟩) NB105_127.out _).trans (((cell_far (p := ⟨gb127, _, none⟩) NB105_127.out _).trans (hHeld.2.2.2.2.2.2.2.2.2.2.2.1)))))))), ((cell_far (p := ⟨gb127, _, none⟩) NB106_127.out _).trans (((cell_far (p := ⟨gb127, _, none⟩) NB106_127.out _).trans (((cell_far (p := ⟨gb127, _, none⟩) NB106_127.out _).trans (((cell_far (p := ⟨gb127, _, none⟩) NB106_127.out _).trans (hHeld.2.2.2.2.2.2.2.2.2.2.2.2.1)))))))), ((cell_far (p := ⟨gb127, _, none⟩) NB106_127.out _).trans (((cell_far (p := ⟨gb127, _, none⟩) NB106_127.out _).trans (((cell_far (p := ⟨gb127, _, none⟩) NB106_127.out _).trans (((cell_far (p := ⟨gb127, _, none⟩) NB106_127.out _).trans (hHeld.2.2.2.2.2.2.2.2.2.2.2.2.2.1)))))))), ((cell_far (p := ⟨gb127, _, none⟩) NB106_127.out _).trans (((cell_far (p := ⟨gb127, _, none⟩) NB106_127.out _).trans (((cell_far (p := ⟨gb127, _, none⟩) NB106_127.out _).trans (((cell_far (p := ⟨gb127, _, none⟩) NB106_127.out _).trans (hHeld.2.2.2.2.2.2.2.2.2.2.2.2.2.2.1)))))))), ((cell_far (p := ⟨gb127, _, none⟩) NB106_127.out _).trans (((cell_far (p := ⟨gb127, _, none⟩) NB106_127.out _).trans (((cell_far (p := ⟨gb127, _, none⟩) NB106_127.out _).trans (((cell_far (p := ⟨gb127, _, none⟩) NB106_127.out _).trans (hHeld.2.2.2.2.2.2.2.2.2.2.2.2.2.2.2))))))))⟩ (fun hHeld => ?_)
    clear hK K
    refine one_ (i := 11) (N := none) MetaOrder.m12 rfl rfl (one_of HT_.out (by kernel_rfl)) (by decide) (fun K hK => ?_)
    have hs47 : w42.cell? ⟨gb128, 0, none⟩ = some (.int .u8 0) := (blk_cell BK128.out 0).trans rfl
    have hfs47 := blk_frozen BK128.out 0
    have hns47_0 := NB105_128.out
    have hns47_1 := NB106_128.out
    have hns47_2 := NB107_128.out
    have hns47_3 := NB112_128.out
    have hns47_4 := NB127_128.out
    have hms47_0 := NB128_105.out
    have hms47_1 := NB128_106.out
    have hms47_2 := NB128_107.out
    have hms47_3 := NB128_112.out
    have hms47_4 := NB128_127.out
    have hs48 : w42.cell? ⟨gb128, 1, none⟩ = some (.int .u32 0) := (blk_cell BK128.out 1).trans rfl
    have hfs48 := blk_frozen BK128.out 1
    have hns48_0 := NB105_128.out
    have hns48_1 := NB106_128.out
    have hns48_2 := NB107_128.out
    have hns48_3 := NB112_128.out
    have hns48_4 := NB127_128.out
    have hms48_0 := NB128_105.out
    have hms48_1 := NB128_106.out
    have hms48_2 := NB128_107.out
    have hms48_3 := NB128_112.out
    have hms48_4 := NB128_127.out
    have hs49 : w42.cell? ⟨gb128, 2, none⟩ = some (.int .u64 0) := (blk_cell BK128.out 2).trans rfl
    have hfs49 := blk_frozen BK128.out 2
    have hns49_0 := NB105_128.out
    have hns49_1 := NB106_128.out
    have hns49_2 := NB107_128.out
    have hns49_3 := NB112_128.out
    have hns49_4 := NB127_128.out
    have hms49_0 := NB128_105.out
    have hms49_1 := NB128_106.out
    have hms49_2 := NB128_107.out
    have hms49_3 := NB128_112.out
    have hms49_4 := NB128_127.out
    have hs50 : w42.cell? ⟨gb128, 3, none⟩ = some (.int .u64 0) := (blk_cell BK128.out 3).trans rfl
    have hfs50 := blk_frozen BK128.out 3
    have hns50_0 := NB105_128.out
    have hns50_1 := NB106_128.out
    have hns50_2 := NB107_128.out
    have hns50_3 := NB112_128.out
    have hns50_4 := NB127_128.out
    have hms50_0 := NB128_105.out
    have hms50_1 := NB128_106.out
    have hms50_2 := NB128_107.out
    have hms50_3 := NB128_112.out
    have hms50_4 := NB128_127.out
    refine skip_ (w1 := ?_) (by rfl) rfl ?_ ?_
    rotate_left
    ·go_simp
     rfl
    refine hK.out _ _ ⟨((cell_far (p := ⟨gb128, _, none⟩) NB112_128.out _).trans (((cell_far (p := ⟨gb128, _, none⟩) NB112_128.out _).trans (((cell_far (p := ⟨gb128, _, none⟩) NB112_128.out _).trans (((cell_far (p := ⟨gb128, _, none⟩) NB112_128.out _).trans (hHeld.1)))))))), ((cell_far (p := ⟨gb128, _, none⟩) NB112_128.out _).trans (((cell_far (p := ⟨gb128, _, none⟩) NB112_128.out _).trans (((cell_far (p := ⟨gb128, _, none⟩) NB112_128.out _).trans (((cell_far (p := ⟨gb128, _, none⟩) NB112_128.out _).trans (hHeld.2.1)))))))), ((cell_far (p := ⟨gb128, _, none⟩) NB112_128.out _).trans (((cell_far (p := ⟨gb128, _, none⟩) NB112_128.out _).trans (((cell_far (p := ⟨gb128, _, none⟩) NB112_128.out _).trans (((cell_far (p := ⟨gb128, _, none⟩) NB112_128.out _).trans (hHeld.2.2.1)))))))), ((cell_far (p := ⟨gb128, _, none⟩) NB112_128.out _).trans (((cell_far (p := ⟨gb128, _, none⟩) NB112_128.out _).trans (((cell_far (p := ⟨gb128, _, none⟩) NB112_128.out _).trans (((cell_far (p := ⟨gb128, _, none⟩) NB112_128.out _).trans (hHeld.2.2.2.1)))))))), ((cell_far (p := ⟨gb128, _, none⟩) NB107_128.out _).trans (((cell_far (p := ⟨gb128, _, none⟩) NB107_128.out _).trans (((cell_far (p := ⟨gb128, _, none⟩) NB107_128.out _).trans (((cell_far (p := ⟨gb128, _, none⟩) NB107_128.out _).trans (hHeld.2.2.2.2.1)))))))), ((cell_far (p := ⟨gb128, _, none⟩) NB107_128.out _).trans (((cell_far (p := ⟨gb128, _, none⟩) NB107_128.out _).trans (((cell_far (p := ⟨gb128, _, none⟩) NB107_128.out _).trans (((cell_far (p := ⟨gb128, _, none⟩) NB107_128.out _).trans (hHeld.2.2.2.2.2.1)))))))), ((cell_far (p := ⟨gb128, _, none⟩) NB107_128.out _).trans (((cell_far (p := ⟨gb128, _, none⟩) NB107_128.out _).trans (((cell_far (p := ⟨gb128, _, none⟩) NB107_128.out _).trans (((cell_far (p := ⟨gb128, _, none⟩) NB107_128.out _).trans (hHeld.2.2.2.2.2.2.1)))))))), ((cell_far (p := ⟨gb128, _, none⟩) NB107_128.out _).trans (((cell_far (p := ⟨gb128, _, none⟩) NB107_128.out _).trans (((cell_far (p := ⟨gb128, _, none⟩) NB107_128.out _).trans (((cell_far (p := ⟨gb128, _, none⟩) NB107_128.out _).trans (hHeld.2.2.2.2.2.2.2.1)))))))), ((cell_far (p := ⟨gb128, _, none⟩) NB105_128.out _).trans (((cell_far (p := ⟨gb128, _, none⟩) NB105_128.out _).trans (((cell_far (p := ⟨gb128, _, none⟩) NB105_128.out _).trans (((cell_far (p := ⟨gb128, _, none⟩) NB105_128.out _).trans (hHeld.2.2.2.2.2.2.2.2.1)))))))), ((cell_far (p := ⟨gb128, _, none⟩) NB105_128.out _).trans (((cell_far (p := ⟨gb128, _, none⟩) NB105_128.out _).trans (((cell_far (p := ⟨gb128, _, none⟩) NB105_128.out _).trans (((cell_far (p := ⟨gb128, _, none⟩) NB105_128.out _).trans (hHeld.2.2.2.2.2.2.2.2.2.1)))))))), ((cell_far (p := ⟨gb128, _, none⟩) NB105_128.out _).trans (((cell_far (p := ⟨gb128, _, none⟩) NB105_128.out _).trans (((cell_far (p := ⟨gb128, _, none⟩) NB105_128.out _).trans (((cell_far (p := ⟨gb128, _, none⟩) NB105_128.out _).trans (hHeld.2.2.2.2.2.2.2.2.2.2.1)))))))), ((cell_far (p := ⟨gb128, _, none⟩) NB105_128.out _).trans (((cell_far (p := ⟨gb128, _, none⟩) NB105_128.out _).trans (((cell_far (p := ⟨gb128, _, none⟩) NB105_128.out _).trans (((cell_far (p := ⟨gb128, _, none⟩) NB105_128.out _).trans (hHeld.2.2.2.2.2.2.2.2.2.2.2.1)))))))), ((cell_far (p := ⟨gb128, _, none⟩) NB106_128.out _).trans (((cell_far (p := ⟨gb128, _, none⟩) NB106_128.out _).trans (((cell_far (p := ⟨gb128, _, none⟩) NB106_128.out _).trans (((cell_far (p := ⟨gb128, _, none⟩) NB106_128.out _).trans (hHeld.2.2.2.2.2.2.2.2.2.2.2.2.1)))))))), ((cell_far (p := ⟨gb128, _, none⟩) NB106_128.out _).trans (((cell_far (p := ⟨gb128, _, none⟩) NB106_128.out _).trans (((cell_far (p := ⟨gb128, _, none⟩) NB106_128.out _).trans (((cell_far (p := ⟨gb128, _, none⟩) NB106_128.out _).trans (hHeld.2.2.2.2.2.2.2.2.2.2.2.2.2.1)))))))), ((cell_far (p := ⟨gb128, _, none⟩) NB106_128.out _).trans (((cell_far (p := ⟨gb128, _, none⟩) NB106_128.out _).trans (((cell_far (p := ⟨gb128, _, none⟩) NB106_128.out _).trans (((cell_far (p := ⟨gb128, _, none⟩) NB106_128.out _).trans (hHeld.2.2.2.2.2.2.2.2.2.2.2.2.2.2.1)))))))), ((cell_far (p := ⟨gb128, _, none⟩) NB106_128.out _).trans (((cell_far (p := ⟨gb128, _, none⟩) NB106_128.out _).trans (((cell_far (p := ⟨gb128, _, none⟩) NB106_128.out _).trans (((cell_far (p := ⟨gb128, _, none⟩) NB106_128.out _).trans (hHeld.2.2.2.2.2.2.2.2.2.2.2.2.2.2.2))))))))⟩ (fun hHeld => ?_)
    clear hK K
    refine done_ (done_of HT_.out (by kernel_rfl)) ?_
    go_upto_region 5 with (fail)
    go_cut [52] (fun v52 wc => ∃ (kq : Nat) (x52_34 : Bool), v52 = .bool x52_34 ∧ Aside0 (rillbedlaw07_MetaOrder.j1 kq x52_34 a0_0 a0_1 a0_2 a0_3 a1_0 a1_1 a1_2 a1_3 t108 t109 t110 t111 = some true) ∧ Aside0 (kq ≤ kj4) ∧ Aside0 (wc.heap[gb105]? = some (.cells #[.int .u8 a0_0, .int .u32 a0_1, .int .u64 a0_2, .int .u64 a0_3] 85 (0, 0))) ∧ Aside0 (wc.heap[gb106]? = some (.cells #[.int .u8 a1_0, .int .u64 a1_1, .int .u8 a1_2, .int .u64 a1_3] 73 (0, 0))) ∧ Aside0 (wc.heap[gb107]? = some (.cells #[.int .u8 a2_0, .int .u64 a2_1, .int .u8 a2_2, .int .u64 a2_3] 73 (0, 0))) ∧ Aside0 (wc.heap[gb112]? = some (.cells #[.int .u8 t108, .int .u32 t109, .int .u64 t110, .int .u64 t111] 85 (0, 0))) ∧ Aside0 (wc.heap[gb127]? = some (.cells #[.int .u8 t115, .int .u32 t116, .int .u64 t117, .int .u64 t118] 85 (0, 0))) ∧ Aside0 (wc.heap[gb128]? = some (.cells #[.int .u8 t123, .int .u32 t124, .int .u64 t125, .int .u64 t126] 85 (0, 0))) ∧ Aside0 (Below w.heap.size w wc))
    case first =>
     have H := HC35.out
     clear HC35
     replace H := Option.bind_eq_some_iff.mp H
     obtain ⟨t129, A510, H⟩ := H
     replace H : ((rillbedlaw07_part.f a2_0 a2_1 a2_2 a2_3).bind fun t130 => (if t129 = t130 then (if a1_0 = 1 then (if a2_0 = 1 then (rillbedlaw07_MetaOrder.j1 kj4 (!(t115 == t123) || (!(t116 == t124) || (!(t117 == t125) || (!(t118 == t126))))) a0_0 a0_1 a0_2 a0_3 a1_0 a1_1 a1_2 a1_3 t108 t109 t110 t111) else (rillbedlaw07_MetaOrder.j1 kj4 false a0_0 a0_1 a0_2 a0_3 a1_0 a1_1 a1_2 a1_3 t108 t109 t110 t111)) else (rillbedlaw07_MetaOrder.j1 kj4 false a0_0 a0_1 a0_2 a0_3 a1_0 a1_1 a1_2 a1_3 t108 t109 t110 t111)) else (rillbedlaw07_MetaOrder.j1 kj4 (!(t115 == t123) || (!(t116 == t124) || (!(t117 == t125) || (!(t118 == t126))))) a0_0 a0_1 a0_2 a0_3 a1_0 a1_1 a1_2 a1_3 t108 t109 t110 t111))) = some true := H
     have A51 := Aside0.mk A510
     clear A510
     replace H := Option.bind_eq_some_iff.mp H
     obtain ⟨t130, A520, H⟩ := H
     replace H : (if t129 = t130 then (if a1_0 = 1 then (if a2_0 = 1 then (rillbedlaw07_MetaOrder.j1 kj4 (!(t115 == t123) || (!(t116 == t124) || (!(t117 == t125) || (!(t118 == t126))))) a0_0 a0_1 a0_2 a0_3 a1_0 a1_1 a1_2 a1_3 t108 t109 t110 t111) else (rillbedlaw07_MetaOrder.j1 kj4 false a0_0 a0_1 a0_2 a0_3 a1_0 a1_1 a1_2 a1_3 t108 t109 t110 t111)) else (rillbedlaw07_MetaOrder.j1 kj4 false a0_0 a0_1 a0_2 a0_3 a1_0 a1_1 a1_2 a1_3 t108 t109 t110 t111)) else (rillbedlaw07_MetaOrder.j1 kj4 (!(t115 == t123) || (!(t116 == t124) || (!(t117 == t125) || (!(t118 == t126))))) a0_0 a0_1 a0_2 a0_3 a1_0 a1_1 a1_2 a1_3 t108 t109 t110 t111)) = some true := H
     have A52 := Aside0.mk A520
     clear A520
     have HQX_ := Aside0.mk H
     clear H
     try go_wp2
     have n0_ : Aside0 (((((((((w42.setCell ⟨gb127, 0, none⟩ (.int .u8 t115)).setCell ⟨gb127, 1, none⟩ (.int .u32 t116)).setCell ⟨gb127, 2, none⟩ (.int .u64 t117)).setCell ⟨gb127, 3, none⟩ (.int .u64 t118)).setCell ⟨gb128, 0, none⟩ (.int .u8 t123)).setCell ⟨gb128, 1, none⟩ (.int .u32 t124)).setCell ⟨gb128, 2, none⟩ (.int .u64 t125)).setCell ⟨gb128, 3, none⟩ (.int .u64 t126)).heap[gb105]? = some (.cells #[.int .u8 a0_0, .int .u32 a0_1, .int .u64 a0_2, .int .u64 a0_3] 85 (0, 0))) := ⟨by (with_reducible repeat (first | refine blk_drewN ?_ _ | refine blk_drew ?_ | refine blk_alloc ?_ _)); refine blk_far ?_ NB105_128.out _; (with_reducible repeat (first | refine blk_drewN ?_ _ | refine blk_drew ?_ | refine blk_alloc ?_ _)); refine blk_far ?_ NB105_128.out _; (with_reducible repeat (first | refine blk_drewN ?_ _ | refine blk_drew ?_ | refine blk_alloc ?_ _)); refine blk_far ?_ NB105_128.out _; (with_reducible repeat (first | refine blk_drewN ?_ _ | refine blk_drew ?_ | refine blk_alloc ?_ _)); refine blk_far ?_ NB105_128.out _; (with_reducible repeat (first | refine blk_drewN ?_ _ | refine blk_drew ?_ | refine blk_alloc ?_ _)); refine blk_far ?_ NB105_127.out _; (with_reducible repeat (first | refine blk_drewN ?_ _ | refine blk_drew ?_ | refine blk_alloc ?_ _)); refine blk_far ?_ NB105_127.out _; (with_reducible repeat (first | refine blk_drewN ?_ _ | refine blk_drew ?_ | refine blk_alloc ?_ _)); refine blk_far ?_ NB105_127.out _; (with_reducible repeat (first | refine blk_drewN ?_ _ | refine blk_drew ?_ | refine blk_alloc ?_ _)); refine blk_far ?_ NB105_127.out _; (with_reducible repeat (first | refine blk_drewN ?_ _ | refine blk_drew ?_ | refine blk_alloc ?_ _)); exact BK105.out⟩
     have n1_ : Aside0 (((((((((w42.setCell ⟨gb127, 0, none⟩ (.int .u8 t115)).setCell ⟨gb127, 1, none⟩ (.int .u32 t116)).setCell ⟨gb127, 2, none⟩ (.int .u64 t117)).setCell ⟨gb127, 3, none⟩ (.int .u64 t118)).setCell ⟨gb128, 0, none⟩ (.int .u8 t123)).setCell ⟨gb128, 1, none⟩ (.int .u32 t124)).setCell ⟨gb128, 2, none⟩ (.int .u64 t125)).setCell ⟨gb128, 3, none⟩ (.int .u64 t126)).heap[gb106]? = some (.cells #[.int .u8 a1_0, .int .u64 a1_1, .int .u8 a1_2, .int .u64 a1_3] 73 (0, 0))) := ⟨by (with_reducible repeat (first | refine blk_drewN ?_ _ | refine blk_drew ?_ | refine blk_alloc ?_ _)); refine blk_far ?_ NB106_128.out _; (with_reducible repeat (first | refine blk_drewN ?_ _ | refine blk_drew ?_ | refine blk_alloc ?_ _)); refine blk_far ?_ NB106_128.out _; (with_reducible repeat (first | refine blk_drewN ?_ _ | refine blk_drew ?_ | refine blk_alloc ?_ _)); refine blk_far ?_ NB106_128.out _; (with_reducible repeat (first | refine blk_drewN ?_ _ | refine blk_drew ?_ | refine blk_alloc ?_ _)); refine blk_far ?_ NB106_128.out _; (with_reducible repeat (first | refine blk_drewN ?_ _ | refine blk_drew ?_ | refine blk_alloc ?_ _)); refine blk_far ?_ NB106_127.out _; (with_reducible repeat (first | refine blk_drewN ?_ _ | refine blk_drew ?_ | refine blk_alloc ?_ _)); refine blk_far ?_ NB106_127.out _; (with_reducible repeat (first | refine blk_drewN ?_ _ | refine blk_drew ?_ | refine blk_alloc ?_ _)); refine blk_far ?_ NB106_127.out _; (with_reducible repeat (first | refine blk_drewN ?_ _ | refine blk_drew ?_ | refine blk_alloc ?_ _)); refine blk_far ?_ NB106_127.out _; (with_reducible repeat (first | refine blk_drewN ?_ _ | refine blk_drew ?_ | refine blk_alloc ?_ _)); exact BK106.out⟩
     have n2_ : Aside0 (((((((((w42.setCell ⟨gb127, 0, none⟩ (.int .u8 t115)).setCell ⟨gb127, 1, none⟩ (.int .u32 t116)).setCell ⟨gb127, 2, none⟩ (.int .u64 t117)).setCell ⟨gb127, 3, none⟩ (.int .u64 t118)).setCell ⟨gb128, 0, none⟩ (.int .u8 t123)).setCell ⟨gb128, 1, none⟩ (.int .u32 t124)).setCell ⟨gb128, 2, none⟩ (.int .u64 t125)).setCell ⟨gb128, 3, none⟩ (.int .u64 t126)).heap[gb107]? = some (.cells #[.int .u8 a2_0, .int .u64 a2_1, .int .u8 a2_2, .int .u64 a2_3] 73 (0, 0))) := ⟨by (with_reducible repeat (first | refine blk_drewN ?_ _ | refine blk_drew ?_ | refine blk_alloc ?_ _)); refine blk_far ?_ NB107_128.out _; (with_reducible repeat (first | refine blk_drewN ?_ _ | refine blk_drew ?_ | refine blk_alloc ?_ _)); refine blk_far ?_ NB107_128.out _; (with_reducible repeat (first | refine blk_drewN ?_ _ | refine blk_drew ?_ | refine blk_alloc ?_ _)); refine blk_far ?_ NB107_128.out _; (with_reducible repeat (first | refine blk_drewN ?_ _ | refine blk_drew ?_ | refine blk_alloc ?_ _)); refine blk_far ?_ NB107_128.out _; (with_reducible repeat (first | refine blk_drewN ?_ _ | refine blk_drew ?_ | refine blk_alloc ?_ _)); refine blk_far ?_ NB107_127.out _; (with_reducible repeat (first | refine blk_drewN ?_ _ | refine blk_drew ?_ | refine blk_alloc ?_ _)); refine blk_far ?_ NB107_127.out _; (with_reducible repeat (first | refine blk_drewN ?_ _ | refine blk_drew ?_ | refine blk_alloc ?_ _)); refine blk_far ?_ NB107_127.out _; (with_reducible repeat (first | refine blk_drewN ?_ _ | refine blk_drew ?_ | refine blk_alloc ?_ _)); refine blk_far ?_ NB107_127.out _; (with_reducible repeat (first | refine blk_drewN ?_ _ | refine blk_drew ?_ | refine blk_alloc ?_ _)); exact BK107.out⟩
     have n3_ : Aside0 (((((((((w42.setCell ⟨gb127, 0, none⟩ (.int .u8 t115)).setCell ⟨gb127, 1, none⟩ (.int .u32 t116)).setCell ⟨gb127, 2, none⟩ (.int .u64 t117)).setCell ⟨gb127, 3, none⟩ (.int .u64 t118)).setCell ⟨gb128, 0, none⟩ (.int .u8 t123)).setCell ⟨gb128, 1, none⟩ (.int .u32 t124)).setCell ⟨gb128, 2, none⟩ (.int .u64 t125)).setCell ⟨gb128, 3, none⟩ (.int .u64 t126)).heap[gb112]? = some (.cells #[.int .u8 t108, .int .u32 t109, .int .u64 t110, .int .u64 t111] 85 (0, 0))) := ⟨by (with_reducible repeat (first | refine blk_drewN ?_ _ | refine blk_drew ?_ | refine blk_alloc ?_ _)); refine blk_far ?_ NB112_128.out _; (with_reducible repeat (first | refine blk_drewN ?_ _ | refine blk_drew ?_ | refine blk_alloc ?_ _)); refine blk_far ?_ NB112_128.out _; (with_reducible repeat (first | refine blk_drewN ?_ _ | refine blk_drew ?_ | refine blk_alloc ?_ _)); refine blk_far ?_ NB112_128.out _; (with_reducible repeat (first | refine blk_drewN ?_ _ | refine blk_drew ?_ | refine blk_alloc ?_ _)); refine blk_far ?_ NB112_128.out _; (with_reducible repeat (first | refine blk_drewN ?_ _ | refine blk_drew ?_ | refine blk_alloc ?_ _)); refine blk_far ?_ NB112_127.out _; (with_reducible repeat (first | refine blk_drewN ?_ _ | refine blk_drew ?_ | refine blk_alloc ?_ _)); refine blk_far ?_ NB112_127.out _; (with_reducible repeat (first | refine blk_drewN ?_ _ | refine blk_drew ?_ | refine blk_alloc ?_ _)); refine blk_far ?_ NB112_127.out _; (with_reducible repeat (first | refine blk_drewN ?_ _ | refine blk_drew ?_ | refine blk_alloc ?_ _)); refine blk_far ?_ NB112_127.out _; (with_reducible repeat (first | refine blk_drewN ?_ _ | refine blk_drew ?_ | refine blk_alloc ?_ _)); exact BK112.out⟩
     have n4_ : Aside0 (((((((((w42.setCell ⟨gb127, 0, none⟩ (.int .u8 t115)).setCell ⟨gb127, 1, none⟩ (.int .u32 t116)).setCell ⟨gb127, 2, none⟩ (.int .u64 t117)).setCell ⟨gb127, 3, none⟩ (.int .u64 t118)).setCell ⟨gb128, 0, none⟩ (.int .u8 t123)).setCell ⟨gb128, 1, none⟩ (.int .u32 t124)).setCell ⟨gb128, 2, none⟩ (.int .u64 t125)).setCell ⟨gb128, 3, none⟩ (.int .u64 t126)).heap[gb127]? = some (.cells #[.int .u8 t115, .int .u32 t116, .int .u64 t117, .int .u64 t118] 85 (0, 0))) := ⟨by (with_reducible repeat (first | refine blk_drewN ?_ _ | refine blk_drew ?_ | refine blk_alloc ?_ _)); refine blk_far ?_ NB127_128.out _; (with_reducible repeat (first | refine blk_drewN ?_ _ | refine blk_drew ?_ | refine blk_alloc ?_ _)); refine blk_far ?_ NB127_128.out _; (with_reducible repeat (first | refine blk_drewN ?_ _ | refine blk_drew ?_ | refine blk_alloc ?_ _)); refine blk_far ?_ NB127_128.out _; (with_reducible repeat (first | refine blk_drewN ?_ _ | refine blk_drew ?_ | refine blk_alloc ?_ _)); refine blk_far ?_ NB127_128.out _; (with_reducible repeat (first | refine blk_drewN ?_ _ | refine blk_drew ?_ | refine blk_alloc ?_ _)); refine blk_put (cs := #[.int .u8 t115, .int .u32 t116, .int .u64 t117, .int .u64 0]) ?_ 3 _ rfl; (with_reducible repeat (first | refine blk_drewN ?_ _ | refine blk_drew ?_ | refine blk_alloc ?_ _)); refine blk_put (cs := #[.int .u8 t115, .int .u32 t116, .int .u64 0, .int .u64 0]) ?_ 2 _ rfl; (with_reducible repeat (first | refine blk_drewN ?_ _ | refine blk_drew ?_ | refine blk_alloc ?_ _)); refine blk_put (cs := #[.int .u8 t115, .int .u32 0, .int .u64 0, .int .u64 0]) ?_ 1 _ rfl; (with_reducible repeat (first | refine blk_drewN ?_ _ | refine blk_drew ?_ | refine blk_alloc ?_ _)); refine blk_put (cs := #[.int .u8 0, .int .u32 0, .int .u64 0, .int .u64 0]) ?_ 0 _ rfl; (with_reducible repeat (first | refine blk_drewN ?_ _ | refine blk_drew ?_ | refine blk_alloc ?_ _)); exact BK127.out⟩
     have n5_ : Aside0 (((((((((w42.setCell ⟨gb127, 0, none⟩ (.int .u8 t115)).setCell ⟨gb127, 1, none⟩ (.int .u32 t116)).setCell ⟨gb127, 2, none⟩ (.int .u64 t117)).setCell ⟨gb127, 3, none⟩ (.int .u64 t118)).setCell ⟨gb128, 0, none⟩ (.int .u8 t123)).setCell ⟨gb128, 1, none⟩ (.int .u32 t124)).setCell ⟨gb128, 2, none⟩ (.int .u64 t125)).setCell ⟨gb128, 3, none⟩ (.int .u64 t126)).heap[gb128]? = some (.cells #[.int .u8 t123, .int .u32 t124, .int .u64 t125, .int .u64 t126] 85 (0, 0))) := ⟨by (with_reducible repeat (first | refine blk_drewN ?_ _ | refine blk_drew ?_ | refine blk_alloc ?_ _)); refine blk_put (cs := #[.int .u8 t123, .int .u32 t124, .int .u64 t125, .int .u64 0]) ?_ 3 _ rfl; (with_reducible repeat (first | refine blk_drewN ?_ _ | refine blk_drew ?_ | refine blk_alloc ?_ _)); refine blk_put (cs := #[.int .u8 t123, .int .u32 t124, .int .u64 0, .int .u64 0]) ?_ 2 _ rfl; (with_reducible repeat (first | refine blk_drewN ?_ _ | refine blk_drew ?_ | refine blk_alloc ?_ _)); refine blk_put (cs := #[.int .u8 t123, .int .u32 0, .int .u64 0, .int .u64 0]) ?_ 1 _ rfl; (with_reducible repeat (first | refine blk_drewN ?_ _ | refine blk_drew ?_ | refine blk_alloc ?_ _)); refine blk_put (cs := #[.int .u8 0, .int .u32 0, .int .u64 0, .int .u64 0]) ?_ 0 _ rfl; (with_reducible repeat (first | refine blk_drewN ?_ _ | refine blk_drew ?_ | refine blk_alloc ?_ _)); refine blk_far ?_ NB128_127.out _; (with_reducible repeat (first | refine blk_drewN ?_ _ | refine blk_drew ?_ | refine blk_alloc ?_ _)); refine blk_far ?_ NB128_127.out _; (with_reducible repeat (first | refine blk_drewN ?_ _ | refine blk_drew ?_ | refine blk_alloc ?_ _)); refine blk_far ?_ NB128_127.out _; (with_reducible repeat (first | refine blk_drewN ?_ _ | refine blk_drew ?_ | refine blk_alloc ?_ _)); refine blk_far ?_ NB128_127.out _; (with_reducible repeat (first | refine blk_drewN ?_ _ | refine blk_drew ?_ | refine blk_alloc ?_ _)); exact BK128.out⟩
     have n6_ : Aside0 (Below w.heap.size w ((((((((w42.setCell ⟨gb127, 0, none⟩ (.int .u8 t115)).setCell ⟨gb127, 1, none⟩ (.int .u32 t116)).setCell ⟨gb127, 2, none⟩ (.int .u64 t117)).setCell ⟨gb127, 3, none⟩ (.int .u64 t118)).setCell ⟨gb128, 0, none⟩ (.int .u8 t123)).setCell ⟨gb128, 1, none⟩ (.int .u32 t124)).setCell ⟨gb128, 2, none⟩ (.int .u64 t125)).setCell ⟨gb128, 3, none⟩ (.int .u64 t126))) := ⟨by repeat (first | (with_reducible first | exact HB.out | apply below_alloc | apply pw_below_drewN | apply below_drew1 | refine below_set ?_ GE105.out | refine below_set ?_ GE106.out | refine below_set ?_ GE107.out | refine below_set ?_ GE112.out | refine below_set ?_ GE127.out | refine below_set ?_ GE128.out) | exact HB.out)⟩
     (try clear BK105); (try clear BK106); (try clear BK107); (try clear BK112); (try clear BK127); (try clear BK128); (try clear HB)
     generalize ((((((((w42.setCell ⟨gb127, 0, none⟩ (.int .u8 t115)).setCell ⟨gb127, 1, none⟩ (.int .u32 t116)).setCell ⟨gb127, 2, none⟩ (.int .u64 t117)).setCell ⟨gb127, 3, none⟩ (.int .u64 t118)).setCell ⟨gb128, 0, none⟩ (.int .u8 t123)).setCell ⟨gb128, 1, none⟩ (.int .u32 t124)).setCell ⟨gb128, 2, none⟩ (.int .u64 t125)).setCell ⟨gb128, 3, none⟩ (.int .u64 t126)) = w56 at n0_ n1_ n2_ n3_ n4_ n5_ n6_ ⊢
     have BK105 := n0_; have BK106 := n1_; have BK107 := n2_; have BK112 := n3_; have BK127 := n4_; have BK128 := n5_; have HB := n6_
     clear n0_ n1_ n2_ n3_ n4_ n5_ n6_
     have n0_ := Aside0.mk (blk_drew BK105.out)
     have n1_ := Aside0.mk (blk_drew BK106.out)
     have n2_ := Aside0.mk (blk_drew BK107.out)
     have n3_ := Aside0.mk (blk_drew BK112.out)
     have n4_ := Aside0.mk (blk_drew BK127.out)
     have n5_ := Aside0.mk (blk_drew BK128.out)
     have n6_ := Aside0.mk (below_drew1 HB.out)
     clear BK105 BK106 BK107 BK112 BK127 BK128 HB
     have BK105 := n0_; have BK106 := n1_; have BK107 := n2_; have BK112 := n3_; have BK127 := n4_; have BK128 := n5_; have HB := n6_
     clear n0_ n1_ n2_ n3_ n4_ n5_ n6_
     have H := HQX_.out
     clear HQX_
     by_cases c53 : t129 = t130
     ·rw [if_pos c53] at H
      have c53b0 : (t129 == t130) = true := beq_iff_eq.mpr c53
      have c53b1 : (t129 != t130) = false := bne_eq_false_iff_eq.mpr c53
      clear c53
      (first | rw [c53b0] | (simp only [i64_w, i32_w]; rw [c53b0]) | skip)
      by_cases c54 : a1_0 = 1
      ·rw [if_pos c54] at H
       have c54b0 : (a1_0 == 1) = true := beq_iff_eq.mpr c54
       have c54b1 : (a1_0 != 1) = false := bne_eq_false_iff_eq.mpr c54
       clear c54
       by_cases c55 : a2_0 = 1
       ·rw [if_pos c55] at H
        have c55b0 : (a2_0 == 1) = true := beq_iff_eq.mpr c55
        have c55b1 : (a2_0 != 1) = false := bne_eq_false_iff_eq.mpr c55
        clear c55
        have hf_ : (!(t115 == t123) || (!(t116 == t124) || (!(t117 == t125) || (!(t118 == t126))))) = false := by
         cases hq_ : (!(t115 == t123) || (!(t116 == t124) || (!(t117 == t125) || (!(t118 == t126))))) with
         | false => rfl
         | true => rw [hq_] at H; exact absurd H (by cases kj4 <;> simp [rillbedlaw07_MetaOrder.j1])
        have he_ : t115 = t123 ∧ t116 = t124 ∧ t117 = t125 ∧ t118 = t126 := by simpa using hf_
        obtain ⟨e1_, e2_, e3_, e4_⟩ := he_
        clear hf_
        have H' := Aside0.mk H
        clear H
        refine start_ (n := 20) (S := fun w' => w'.cell? ⟨gb106, 0, none⟩ = some (.int .u8 a1_0) ∧ w'.cell? ⟨gb106, 1, none⟩ = some (.int .u64 a1_1) ∧ w'.cell? ⟨gb106, 2, none⟩ = some (.int .u8 a1_2) ∧ w'.cell? ⟨gb106, 3, none⟩ = some (.int .u64 a1_3) ∧ w'.cell? ⟨gb107, 0, none⟩ = some (.int .u8 a2_0) ∧ w'.cell? ⟨gb107, 1, none⟩ = some (.int .u64 a2_1) ∧ w'.cell? ⟨gb107, 2, none⟩ = some (.int .u8 a2_2) ∧ w'.cell? ⟨gb107, 3, none⟩ = some (.int .u64 a2_3) ∧ w'.cell? ⟨gb127, 0, none⟩ = some (.int .u8 t115) ∧ w'.cell? ⟨gb127, 1, none⟩ = some (.int .u32 t116) ∧ w'.cell? ⟨gb127, 2, none⟩ = some (.int .u64 t117) ∧ w'.cell? ⟨gb127, 3, none⟩ = some (.int .u64 t118) ∧ w'.cell? ⟨gb128, 0, none⟩ = some (.int .u8 t123) ∧ w'.cell? ⟨gb128, 1, none⟩ = some (.int .u32 t124) ∧ w'.cell? ⟨gb128, 2, none⟩ = some (.int .u64 t125) ∧ w'.cell? ⟨gb128, 3, none⟩ = some (.int .u64 t126)) (ds := []) MetaOrder.m28 (by kernel_rfl) rfl rfl (c4 BK106 (c4 BK107 (c4 BK127 (c4e BK128)))) (fun hHeld => ?_); refine with_tabW rillbedlaw07_MetaOrder.tab5 rillbedlaw07_MetaOrder.bits5 (fun HT_ HW_ => ?_)
        generalize w56.drew = w57 at BK105 BK106 BK107 BK112 BK127 BK128 HB hHeld ⊢
        refine take_ (i := 0) (N := some 33) (v := ?_) (a' := ?_) MetaOrder.m29 rfl rfl (take_ofW HT_.out HW_.out (by kernel_rfl)) (fun _ _ _ h => h) (Or.inl ⟨by rfl, ?_⟩) hHeld ?_ ?_
        rotate_left
        ·rintro w' ⟨s0, s1, s2, s3, s4, s5, s6, s7, s8, s9, s10, s11, s12, s13, s14, s15⟩
         go_simp
         with_reducible rfl
        rotate_left
        ·simp only [Act.put, List.setIfInBounds_toArray, List.set_cons_zero, List.set_cons_succ, i64_w, i32_w]
         rfl
        refine take_ (i := 2) (N := some 35) (v := ?_) (a' := ?_) MetaOrder.m30 rfl rfl (take_ofW HT_.out HW_.out (by kernel_rfl)) (fun _ _ _ h => h) (Or.inl ⟨by rfl, ?_⟩) hHeld ?_ ?_
        rotate_left
        ·rintro w' ⟨s0, s1, s2, s3, s4, s5, s6, s7, s8, s9, s10, s11, s12, s13, s14, s15⟩
         go_simp
         with_reducible rfl
        rotate_left
        ·simp only [Act.put, List.setIfInBounds_toArray, List.set_cons_zero, List.set_cons_succ, i64_w, i32_w]
         rfl
        refine one_ (i := 1) (N := some 34) MetaOrder.m31 rfl rfl (one_of HT_.out (by kernel_rfl)) (by decide) (fun K hK => ?_)
        refine goes_ Try.func48 (by kernel_rfl) rfl #[.agg #[.int .u8 a1_0, .int .u64 a1_1, .int .u8 a1_2, .int .u64 a1_3]] (by rfl) rfl rfl (by (try simp only [List.map_toArray, List.map_cons, List.map_nil]); first | done | rfl | (simp only [List.length_drop, List.length_take]; rfl)) ?_
        with_reducible refine (rillbedlaw07_part.calls a1_0 a1_1 a1_2 a1_3 t129 _ A51.out).mono ?_
        rintro e w58 ⟨rfl, hb⟩
        refine ⟨_, rfl, ?_⟩
        have n0_ := n_blk BK105 hb
        have n1_ := n_blk BK106 hb
        have n2_ := n_blk BK107 hb
        have n3_ := n_blk BK112 hb
        have n4_ := n_blk BK127 hb
        have n5_ := n_blk BK128 hb
        have n6_ := Aside0.mk (below_step (n_hb HB) hb)
        clear BK105 BK106 BK107 BK112 BK127 BK128 HB
        have BK105 := n0_; have BK106 := n1_; have BK107 := n2_; have BK112 := n3_; have BK127 := n4_; have BK128 := n5_; have HB := n6_
        clear n0_ n1_ n2_ n3_ n4_ n5_ n6_
        (try clear hb); (try clear hb2); (try clear hk); (try clear hi)
        refine hK.out _ _ (c4 BK106 (c4 BK107 (c4 BK127 (c4e BK128)))) (fun hHeld => ?_)
        clear hK K
        refine norm_ (a' := ?_) ?_ ?_
        rotate_left
        ·show Act.put _ (some 34) _ = _
         simp only [Act.put, List.setIfInBounds_toArray, List.set_cons_zero, List.set_cons_succ, i64_w, i32_w]
         rfl
        refine one_ (i := 3) (N := some 36) MetaOrder.m32 rfl rfl (one_of HT_.out (by kernel_rfl)) (by decide) (fun K hK => ?_)
        refine goes_ Try.func48 (by kernel_rfl) rfl #[.agg #[.int .u8 a2_0, .int .u64 a2_1, .int .u8 a2_2, .int .u64 a2_3]] (by rfl) rfl rfl (by (try simp only [List.map_toArray, List.map_cons, List.map_nil]); first | done | rfl | (simp only [List.length_drop, List.length_take]; rfl)) ?_
        with_reducible refine (rillbedlaw07_part.calls a2_0 a2_1 a2_2 a2_3 t130 _ A52.out).mono ?_
        rintro e w59 ⟨rfl, hb⟩
        refine ⟨_, rfl, ?_⟩
        have n0_ := n_blk BK105 hb
        have n1_ := n_blk BK106 hb
        have n2_ := n_blk BK107 hb
        have n3_ := n_blk BK112 hb
        have n4_ := n_blk BK127 hb
        have n5_ := n_blk BK128 hb
        have n6_ := Aside0.mk (below_step (n_hb HB) hb)
        clear BK105 BK106 BK107 BK112 BK127 BK128 HB
        have BK105 := n0_; have BK106 := n1_; have BK107 := n2_; have BK112 := n3_; have BK127 := n4_; have BK128 := n5_; have HB := n6_
        clear n0_ n1_ n2_ n3_ n4_ n5_ n6_
        (try clear hb); (try clear hb2); (try clear hk); (try clear hi)
        refine hK.out _ _ (c4 BK106 (c4 BK107 (c4 BK127 (c4e BK128)))) (fun hHeld => ?_)
        clear hK K
        refine norm_ (a' := ?_) ?_ ?_
        rotate_left
        ·show Act.put _ (some 36) _ = _
         simp only [Act.put, List.setIfInBounds_toArray, List.set_cons_zero, List.set_cons_succ, i64_w, i32_w]
         rfl
        refine pure_ (i := 4) (N := some 37) (v := ?_) (a' := ?_) MetaOrder.m33 rfl rfl (any_of HT_.out (by kernel_rfl)) (fun _ _ _ h => h) (Or.inl ⟨by rfl, ?_⟩) ?_ ?_
        rotate_left
        ·intro w'
         go_simp
         with_reducible rfl
        rotate_left
        ·simp only [Act.put, List.setIfInBounds_toArray, List.set_cons_zero, List.set_cons_succ, i64_w, i32_w]
         rfl
        refine pure_ (i := 5) (N := some 38) (v := ?_) (a' := ?_) MetaOrder.m34 rfl rfl (any_of HT_.out (by kernel_rfl)) (fun _ _ _ h => h) (Or.inl ⟨by rfl, ?_⟩) ?_ ?_
        rotate_left
        ·intro w'
         go_simp
         with_reducible rfl
        rotate_left
        ·simp only [Act.put, List.setIfInBounds_toArray, List.set_cons_zero, List.set_cons_succ, i64_w, i32_w]
         rfl
        refine pure_ (i := 6) (N := some 39) (v := ?_) (a' := ?_) MetaOrder.m35 rfl rfl (any_of HT_.out (by kernel_rfl)) (fun _ _ _ h => h) (Or.inl ⟨by rfl, ?_⟩) ?_ ?_
        rotate_left
        ·intro w'
         go_simp
         with_reducible rfl
        rotate_left
        ·simp only [Act.put, List.setIfInBounds_toArray, List.set_cons_zero, List.set_cons_succ, i64_w, i32_w]
         rfl
        refine take_ (i := 7) (N := some 40) (v := ?_) (a' := ?_) MetaOrder.m36 rfl rfl (take_ofW HT_.out HW_.out (by kernel_rfl)) (fun _ _ _ h => h) (Or.inl ⟨by rfl, ?_⟩) hHeld ?_ ?_
        rotate_left
        ·rintro w' ⟨s0, s1, s2, s3, s4, s5, s6, s7, s8, s9, s10, s11, s12, s13, s14, s15⟩
         go_simp
         with_reducible rfl
        rotate_left
        ·simp only [Act.put, List.setIfInBounds_toArray, List.set_cons_zero, List.set_cons_succ, i64_w, i32_w]
         rfl
        refine pure_ (i := 8) (N := some 41) (v := ?_) (a' := ?_) MetaOrder.m37 rfl rfl (any_of HT_.out (by kernel_rfl)) (fun _ _ _ h => h) (Or.inl ⟨by rfl, ?_⟩) ?_ ?_
        rotate_left
        ·intro w'
         go_simp
         with_reducible rfl
        rotate_left
        ·simp only [Act.put, List.setIfInBounds_toArray, List.set_cons_zero, List.set_cons_succ, i64_w, i32_w]
         rfl
        refine pure_ (i := 9) (N := some 42) (v := ?_) (a' := ?_) MetaOrder.m38 rfl rfl (any_of HT_.out (by kernel_rfl)) (fun _ _ _ h => h) (Or.inl ⟨by rfl, ?_⟩) ?_ ?_
        rotate_left
        ·intro w'
         go_simp
         with_reducible rfl
        rotate_left
        ·simp only [Act.put, List.setIfInBounds_toArray, List.set_cons_zero, List.set_cons_succ, i64_w, i32_w]
         rfl
        refine pure_ (i := 10) (N := some 43) (v := ?_) (a' := ?_) MetaOrder.m39 rfl rfl (any_of HT_.out (by kernel_rfl)) (fun _ _ _ h => h) (Or.inl ⟨by rfl, ?_⟩) ?_ ?_
        rotate_left
        ·intro w'
         go_simp
         with_reducible rfl
        rotate_left
        ·simp only [Act.put, List.setIfInBounds_toArray, List.set_cons_zero, List.set_cons_succ, i64_w, i32_w]
         rfl
        refine take_ (i := 11) (N := some 44) (v := ?_) (a' := ?_) MetaOrder.m40 rfl rfl (take_ofW HT_.out HW_.out (by kernel_rfl)) (fun _ _ _ h => h) (Or.inl ⟨by rfl, ?_⟩) hHeld ?_ ?_
        rotate_left
        ·rintro w' ⟨s0, s1, s2, s3, s4, s5, s6, s7, s8, s9, s10, s11, s12, s13, s14, s15⟩
         go_simp
         with_reducible rfl
        rotate_left
        ·simp only [Act.put, List.setIfInBounds_toArray, List.set_cons_zero, List.set_cons_succ, i64_w, i32_w]
         rfl
        refine pure_ (i := 12) (N := some 45) (v := ?_) (a' := ?_) MetaOrder.m41 rfl rfl (any_of HT_.out (by kernel_rfl)) (fun _ _ _ h => h) (Or.inl ⟨by rfl, ?_⟩) ?_ ?_
        rotate_left
        ·intro w'
         go_simp
         with_reducible rfl
        rotate_left
        ·simp only [Act.put, List.setIfInBounds_toArray, List.set_cons_zero, List.set_cons_succ, i64_w, i32_w]
         rfl
        refine pure_ (i := 13) (N := some 46) (v := ?_) (a' := ?_) MetaOrder.m42 rfl rfl (any_of HT_.out (by kernel_rfl)) (fun _ _ _ h => h) (Or.inl ⟨by rfl, ?_⟩) ?_ ?_
        rotate_left
        ·intro w'
         go_simp
         with_reducible rfl
        rotate_left
        ·simp only [Act.put, List.setIfInBounds_toArray, List.set_cons_zero, List.set_cons_succ, i64_w, i32_w]
         rfl
        refine pure_ (i := 14) (N := some 47) (v := ?_) (a' := ?_) MetaOrder.m43 rfl rfl (any_of HT_.out (by kernel_rfl)) (fun _ _ _ h => h) (Or.inl ⟨by rfl, ?_⟩) ?_ ?_
        rotate_left
        ·intro w'
         go_simp
         with_reducible rfl
        rotate_left
        ·simp only [Act.put, List.setIfInBounds_toArray, List.set_cons_zero, List.set_cons_succ, i64_w, i32_w]
         rfl
        refine pure_ (i := 15) (N := some 48) (v := ?_) (a' := ?_) MetaOrder.m44 rfl rfl (any_of HT_.out (by kernel_rfl)) (fun _ _ _ h => h) (Or.inl ⟨by rfl, ?_⟩) ?_ ?_
        rotate_left
        ·intro w'
         go_simp
         with_reducible rfl
        rotate_left
        ·simp only [Act.put, List.setIfInBounds_toArray, List.set_cons_zero, List.set_cons_succ, i64_w, i32_w]
         rfl
        refine take_ (i := 16) (N := some 49) (v := ?_) (a' := ?_) MetaOrder.m45 rfl rfl (take_ofW HT_.out HW_.out (by kernel_rfl)) (fun _ _ _ h => h) (Or.inl ⟨by rfl, ?_⟩) hHeld ?_ ?_
        rotate_left
        ·rintro w' ⟨s0, s1, s2, s3, s4, s5, s6, s7, s8, s9, s10, s11, s12, s13, s14, s15⟩
         go_simp
         with_reducible rfl
        rotate_left
        ·simp only [Act.put, List.setIfInBounds_toArray, List.set_cons_zero, List.set_cons_succ, i64_w, i32_w]
         rfl
        refine take_ (i := 17) (N := some 50) (v := ?_) (a' := ?_) MetaOrder.m46 rfl rfl (take_ofW HT_.out HW_.out (by kernel_rfl)) (fun _ _ _ h => h) (Or.inl ⟨by rfl, ?_⟩) hHeld ?_ ?_
        rotate_left
        ·rintro w' ⟨s0, s1, s2, s3, s4, s5, s6, s7, s8, s9, s10, s11, s12, s13, s14, s15⟩
         go_simp
         with_reducible rfl
        rotate_left
        ·simp only [Act.put, List.setIfInBounds_toArray, List.set_cons_zero, List.set_cons_succ, i64_w, i32_w]
         rfl
        refine pure_ (i := 18) (N := some 51) (v := ?_) (a' := ?_) MetaOrder.m47 rfl rfl (any_of HT_.out (by kernel_rfl)) (fun _ _ _ h => h) (Or.inl ⟨by rfl, ?_⟩) ?_ ?_
        rotate_left
        ·intro w'
         go_simp
         with_reducible rfl
        rotate_left
        ·simp only [Act.put, List.setIfInBounds_toArray, List.set_cons_zero, List.set_cons_succ, i64_w, i32_w]
         rfl
        refine pure_ (i := 19) (N := some 52) (v := ?_) (a' := ?_) MetaOrder.m48 rfl rfl (any_of HT_.out (by kernel_rfl)) (fun _ _ _ h => h) (Or.inl ⟨by rfl, ?_⟩) ?_ ?_
        rotate_left
        ·intro w'
         go_simp
         with_reducible rfl
        rotate_left
        ·simp only [Act.put, List.setIfInBounds_toArray, List.set_cons_zero, List.set_cons_succ, i64_w, i32_w]
         rfl
        refine done_ (done_of HT_.out (by kernel_rfl)) ?_
        try go_wp2
        go_meet
        case rel => exact ⟨_, ((!(t115 == t123) || (!(t116 == t124) || (!(t117 == t125) || (!(t118 == t126)))))), (by first | rfl | (simp; done) | (simp [*]; done)), H', ⟨by have := HJ4.out; first | omega | exact Nat.le_refl _⟩, ⟨by (with_reducible repeat (first | refine blk_drewN ?_ _ | refine blk_drew ?_ | refine blk_alloc ?_ _)); exact BK105.out⟩, ⟨by (with_reducible repeat (first | refine blk_drewN ?_ _ | refine blk_drew ?_ | refine blk_alloc ?_ _)); exact BK106.out⟩, ⟨by (with_reducible repeat (first | refine blk_drewN ?_ _ | refine blk_drew ?_ | refine blk_alloc ?_ _)); exact BK107.out⟩, ⟨by (with_reducible repeat (first | refine blk_drewN ?_ _ | refine blk_drew ?_ | refine blk_alloc ?_ _)); exact BK112.out⟩, ⟨by (with_reducible repeat (first | refine blk_drewN ?_ _ | refine blk_drew ?_ | refine blk_alloc ?_ _)); exact BK127.out⟩, ⟨by (with_reducible repeat (first | refine blk_drewN ?_ _ | refine blk_drew ?_ | refine blk_alloc ?_ _)); exact BK128.out⟩, ⟨by repeat (first | (with_reducible first | exact HB.out | apply below_alloc | apply pw_below_drewN | apply below_drew1 | refine below_set ?_ GE105.out | refine below_set ?_ GE106.out | refine below_set ?_ GE107.out | refine below_set ?_ GE112.out | refine below_set ?_ GE127.out | refine below_set ?_ GE128.out) | exact HB.out)⟩⟩
       ·rw [if_neg c55] at H
        have c55b0 : (a2_0 == 1) = false := beq_eq_false_iff_ne.mpr c55
        have c55b1 : (a2_0 != 1) = true := bne_iff_ne.mpr c55
        have H' := Aside0.mk H
        clear H
        refine start_ (n := 20) (S := fun w' => w'.cell? ⟨gb106, 0, none⟩ = some (.int .u8 a1_0) ∧ w'.cell? ⟨gb106, 1, none⟩ = some (.int .u64 a1_1) ∧ w'.cell? ⟨gb106, 2, none⟩ = some (.int .u8 a1_2) ∧ w'.cell? ⟨gb106, 3, none⟩ = some (.int .u64 a1_3) ∧ w'.cell? ⟨gb107, 0, none⟩ = some (.int .u8 a2_0) ∧ w'.cell? ⟨gb107, 1, none⟩ = some (.int .u64 a2_1) ∧ w'.cell? ⟨gb107, 2, none⟩ = some (.int .u8 a2_2) ∧ w'.cell? ⟨gb107, 3, none⟩ = some (.int .u64 a2_3)) (ds := []) MetaOrder.m28 (by kernel_rfl) rfl rfl (c4 BK106 (c4e BK107)) (fun hHeld => ?_); refine with_tabW rillbedlaw07_MetaOrder.tab5 rillbedlaw07_MetaOrder.bits5 (fun HT_ HW_ => ?_)
        generalize w56.drew = w61 at BK105 BK106 BK107 BK112 BK127 BK128 HB hHeld ⊢
        refine take_ (i := 0) (N := some 33) (v := ?_) (a' := ?_) MetaOrder.m29 rfl rfl (take_ofW HT_.out HW_.out (by kernel_rfl)) (fun _ _ _ h => h) (Or.inl ⟨by rfl, ?_⟩) hHeld ?_ ?_
        rotate_left
        ·rintro w' ⟨s0, s1, s2, s3, s4, s5, s6, s7⟩
         go_simp
         with_reducible rfl
        rotate_left
        ·simp only [Act.put, List.setIfInBounds_toArray, List.set_cons_zero, List.set_cons_succ, i64_w, i32_w]
         rfl
        refine take_ (i := 2) (N := some 35) (v := ?_) (a' := ?_) MetaOrder.m30 rfl rfl (take_ofW HT_.out HW_.out (by kernel_rfl)) (fun _ _ _ h => h) (Or.inl ⟨by rfl, ?_⟩) hHeld ?_ ?_
        rotate_left
        ·rintro w' ⟨s0, s1, s2, s3, s4, s5, s6, s7⟩
         go_simp
         with_reducible rfl
        rotate_left
        ·simp only [Act.put, List.setIfInBounds_toArray, List.set_cons_zero, List.set_cons_succ, i64_w, i32_w]
         rfl
        refine one_ (i := 1) (N := some 34) MetaOrder.m31 rfl rfl (one_of HT_.out (by kernel_rfl)) (by decide) (fun K hK => ?_)
        refine goes_ Try.func48 (by kernel_rfl) rfl #[.agg #[.int .u8 a1_0, .int .u64 a1_1, .int .u8 a1_2, .int .u64 a1_3]] (by rfl) rfl rfl (by (try simp only [List.map_toArray, List.map_cons, List.map_nil]); first | done | rfl | (simp only [List.length_drop, List.length_take]; rfl)) ?_
        with_reducible refine (rillbedlaw07_part.calls a1_0 a1_1 a1_2 a1_3 t129 _ A51.out).mono ?_
        rintro e w62 ⟨rfl, hb⟩
        refine ⟨_, rfl, ?_⟩
        have n0_ := n_blk BK105 hb
        have n1_ := n_blk BK106 hb
        have n2_ := n_blk BK107 hb
        have n3_ := n_blk BK112 hb
        have n4_ := n_blk BK127 hb
        have n5_ := n_blk BK128 hb
        have n6_ := Aside0.mk (below_step (n_hb HB) hb)
        clear BK105 BK106 BK107 BK112 BK127 BK128 HB
        have BK105 := n0_; have BK106 := n1_; have BK107 := n2_; have BK112 := n3_; have BK127 := n4_; have BK128 := n5_; have HB := n6_
        clear n0_ n1_ n2_ n3_ n4_ n5_ n6_
        (try clear hb); (try clear hb2); (try clear hk); (try clear hi)
        refine hK.out _ _ (c4 BK106 (c4e BK107)) (fun hHeld => ?_)
        clear hK K
        refine norm_ (a' := ?_) ?_ ?_
        rotate_left
        ·show Act.put _ (some 34) _ = _
         simp only [Act.put, List.setIfInBounds_toArray, List.set_cons_zero, List.set_cons_succ, i64_w, i32_w]
         rfl
        refine one_ (i := 3) (N := some 36) MetaOrder.m32 rfl rfl (one_of HT_.out (by kernel_rfl)) (by decide) (fun K hK => ?_)
        refine goes_ Try.func48 (by kernel_rfl) rfl #[.agg #[.int .u8 a2_0, .int .u64 a2_1, .int .u8 a2_2, .int .u64 a2_3]] (by rfl) rfl rfl (by (try simp only [List.map_toArray, List.map_cons, List.map_nil]); first | done | rfl | (simp only [List.length_drop, List.length_take]; rfl)) ?_
        with_reducible refine (rillbedlaw07_part.calls a2_0 a2_1 a2_2 a2_3 t130 _ A52.out).mono ?_
        rintro e w63 ⟨rfl, hb⟩
        refine ⟨_, rfl, ?_⟩
        have n0_ := n_blk BK105 hb
        have n1_ := n_blk BK106 hb
        have n2_ := n_blk BK107 hb
        have n3_ := n_blk BK112 hb
        have n4_ := n_blk BK127 hb
        have n5_ := n_blk BK128 hb
        have n6_ := Aside0.mk (below_step (n_hb HB) hb)
        clear BK105 BK106 BK107 BK112 BK127 BK128 HB
        have BK105 := n0_; have BK106 := n1_; have BK107 := n2_; have BK112 := n3_; have BK127 := n4_; have BK128 := n5_; have HB := n6_
        clear n0_ n1_ n2_ n3_ n4_ n5_ n6_
        (try clear hb); (try clear hb2); (try clear hk); (try clear hi)
        refine hK.out _ _ (c4 BK106 (c4e BK107)) (fun hHeld => ?_)
        clear hK K
        refine norm_ (a' := ?_) ?_ ?_
        rotate_left
        ·show Act.put _ (some 36) _ = _
         simp only [Act.put, List.setIfInBounds_toArray, List.set_cons_zero, List.set_cons_succ, i64_w, i32_w]
         rfl
        refine pure_ (i := 4) (N := some 37) (v := ?_) (a' := ?_) MetaOrder.m33 rfl rfl (any_of HT_.out (by kernel_rfl)) (fun _ _ _ h => h) (Or.inl ⟨by rfl, ?_⟩) ?_ ?_
        rotate_left
        ·intro w'
         go_simp
         with_reducible rfl
        rotate_left
        ·simp only [Act.put, List.setIfInBounds_toArray, List.set_cons_zero, List.set_cons_succ, i64_w, i32_w]
         rfl
        refine pure_ (i := 5) (N := some 38) (v := ?_) (a' := ?_) MetaOrder.m34 rfl rfl (any_of HT_.out (by kernel_rfl)) (fun _ _ _ h => h) (Or.inl ⟨by rfl, ?_⟩) ?_ ?_
        rotate_left
        ·intro w'
         go_simp
         with_reducible rfl
        rotate_left
        ·simp only [Act.put, List.setIfInBounds_toArray, List.set_cons_zero, List.set_cons_succ, i64_w, i32_w]
         rfl
        refine pure_ (i := 6) (N := some 39) (v := ?_) (a' := ?_) MetaOrder.m35 rfl rfl (any_of HT_.out (by kernel_rfl)) (fun _ _ _ h => h) (Or.inl ⟨by rfl, ?_⟩) ?_ ?_
        rotate_left
        ·intro w'
         go_simp
         with_reducible rfl
        rotate_left
        ·simp only [Act.put, List.setIfInBounds_toArray, List.set_cons_zero, List.set_cons_succ, i64_w, i32_w]
         rfl
        refine take_ (i := 7) (N := some 40) (v := ?_) (a' := ?_) MetaOrder.m36 rfl rfl (take_ofW HT_.out HW_.out (by kernel_rfl)) (fun _ _ _ h => h) (Or.inl ⟨by rfl, ?_⟩) hHeld ?_ ?_
        rotate_left
        ·rintro w' ⟨s0, s1, s2, s3, s4, s5, s6, s7⟩
         go_simp
         with_reducible rfl
        rotate_left
        ·simp only [Act.put, List.setIfInBounds_toArray, List.set_cons_zero, List.set_cons_succ, i64_w, i32_w]
         rfl
        refine pure_ (i := 8) (N := some 41) (v := ?_) (a' := ?_) MetaOrder.m37 rfl rfl (any_of HT_.out (by kernel_rfl)) (fun _ _ _ h => h) (Or.inl ⟨by rfl, ?_⟩) ?_ ?_
        rotate_left
        ·intro w'
         go_simp
         with_reducible rfl
        rotate_left
        ·simp only [Act.put, List.setIfInBounds_toArray, List.set_cons_zero, List.set_cons_succ, i64_w, i32_w]
         rfl
        refine pure_ (i := 9) (N := some 42) (v := ?_) (a' := ?_) MetaOrder.m38 rfl rfl (any_of HT_.out (by kernel_rfl)) (fun _ _ _ h => h) (Or.inl ⟨by rfl, ?_⟩) ?_ ?_
        rotate_left
        ·intro w'
         go_simp
         with_reducible rfl
        rotate_left
        ·simp only [Act.put, List.setIfInBounds_toArray, List.set_cons_zero, List.set_cons_succ, i64_w, i32_w]
         rfl
        refine pure_ (i := 10) (N := some 43) (v := ?_) (a' := ?_) MetaOrder.m39 rfl rfl (any_of HT_.out (by kernel_rfl)) (fun _ _ _ h => h) (Or.inl ⟨by rfl, ?_⟩) ?_ ?_
        rotate_left
        ·intro w'
         go_simp
         with_reducible rfl
        rotate_left
        ·simp only [Act.put, List.setIfInBounds_toArray, List.set_cons_zero, List.set_cons_succ, i64_w, i32_w]
         rfl
        refine take_ (i := 11) (N := some 44) (v := ?_) (a' := ?_) MetaOrder.m40 rfl rfl (take_ofW HT_.out HW_.out (by kernel_rfl)) (fun _ _ _ h => h) (Or.inl ⟨by rfl, ?_⟩) hHeld ?_ ?_
        rotate_left
        ·rintro w' ⟨s0, s1, s2, s3, s4, s5, s6, s7⟩
         go_simp
         with_reducible rfl
        rotate_left
        ·simp only [Act.put, List.setIfInBounds_toArray, List.set_cons_zero, List.set_cons_succ, i64_w, i32_w]
         rfl
        refine pure_ (i := 12) (N := some 45) (v := ?_) (a' := ?_) MetaOrder.m41 rfl rfl (any_of HT_.out (by kernel_rfl)) (fun _ _ _ h => h) (Or.inl ⟨by rfl, ?_⟩) ?_ ?_
        rotate_left
        ·intro w'
         go_simp
         with_reducible rfl
        rotate_left
        ·simp only [Act.put, List.setIfInBounds_toArray, List.set_cons_zero, List.set_cons_succ, i64_w, i32_w]
         rfl
        refine pure_ (i := 13) (N := some 46) (v := ?_) (a' := ?_) MetaOrder.m42 rfl rfl (any_of HT_.out (by kernel_rfl)) (fun _ _ _ h => h) (Or.inl ⟨by rfl, ?_⟩) ?_ ?_
        rotate_left
        ·intro w'
         go_simp
         with_reducible rfl
        rotate_left
        ·simp only [Act.put, List.setIfInBounds_toArray, List.set_cons_zero, List.set_cons_succ, i64_w, i32_w]
         rfl
        refine pure_ (i := 14) (N := some 47) (v := ?_) (a' := ?_) MetaOrder.m43 rfl rfl (any_of HT_.out (by kernel_rfl)) (fun _ _ _ h => h) (Or.inl ⟨by rfl, ?_⟩) ?_ ?_
        rotate_left
        ·intro w'
         go_simp
         with_reducible rfl
        rotate_left
        ·simp only [Act.put, List.setIfInBounds_toArray, List.set_cons_zero, List.set_cons_succ, i64_w, i32_w]
         rfl
        refine pure_ (i := 15) (N := some 48) (v := ?_) (a' := ?_) MetaOrder.m44 rfl rfl (any_of HT_.out (by kernel_rfl)) (fun _ _ _ h => h) (Or.inl ⟨by rfl, ?_⟩) ?_ ?_
        rotate_left
        ·intro w'
         go_simp
         with_reducible rfl
        rotate_left
        ·simp only [Act.put, List.setIfInBounds_toArray, List.set_cons_zero, List.set_cons_succ, i64_w, i32_w]
         rfl
        refine pure_ (i := 16) (N := some 49) (v := undef) (a' := ?_) MetaOrder.m45 rfl rfl (any_of HT_.out (by kernel_rfl)) (fun _ _ _ h => h) (Or.inr ⟨by rfl, rfl⟩) ?_ ?_
        rotate_left
        ·simp only [Act.put, List.setIfInBounds_toArray, List.set_cons_zero, List.set_cons_succ, i64_w, i32_w]
         rfl
        refine pure_ (i := 17) (N := some 50) (v := undef) (a' := ?_) MetaOrder.m46 rfl rfl (any_of HT_.out (by kernel_rfl)) (fun _ _ _ h => h) (Or.inr ⟨by rfl, rfl⟩) ?_ ?_
        rotate_left
        ·simp only [Act.put, List.setIfInBounds_toArray, List.set_cons_zero, List.set_cons_succ, i64_w, i32_w]
         rfl
        refine pure_ (i := 18) (N := some 51) (v := undef) (a' := ?_) MetaOrder.m47 rfl rfl (any_of HT_.out (by kernel_rfl)) (fun _ _ _ h => h) (Or.inr ⟨by rfl, rfl⟩) ?_ ?_
        rotate_left
        ·simp only [Act.put, List.setIfInBounds_toArray, List.set_cons_zero, List.set_cons_succ, i64_w, i32_w]
         rfl
        refine pure_ (i := 19) (N := some 52) (v := ?_) (a' := ?_) MetaOrder.m48 rfl rfl (any_of HT_.out (by kernel_rfl)) (fun _ _ _ h => h) (Or.inl ⟨by rfl, ?_⟩) ?_ ?_
        rotate_left
        ·intro w'
         go_simp
         with_reducible rfl
        rotate_left
        ·simp only [Act.put, List.setIfInBounds_toArray, List.set_cons_zero, List.set_cons_succ, i64_w, i32_w]
         rfl
        refine done_ (done_of HT_.out (by kernel_rfl)) ?_
        try go_wp2
        go_meet
        case rel => exact ⟨_, (false), (by first | rfl | (simp; done) | (simp [*]; done)), H', ⟨by have := HJ4.out; first | omega | exact Nat.le_refl _⟩, ⟨by (with_reducible repeat (first | refine blk_drewN ?_ _ | refine blk_drew ?_ | refine blk_alloc ?_ _)); exact BK105.out⟩, ⟨by (with_reducible repeat (first | refine blk_drewN ?_ _ | refine blk_drew ?_ | refine blk_alloc ?_ _)); exact BK106.out⟩, ⟨by (with_reducible repeat (first | refine blk_drewN ?_ _ | refine blk_drew ?_ | refine blk_alloc ?_ _)); exact BK107.out⟩, ⟨by (with_reducible repeat (first | refine blk_drewN ?_ _ | refine blk_drew ?_ | refine blk_alloc ?_ _)); exact BK112.out⟩, ⟨by (with_reducible repeat (first | refine blk_drewN ?_ _ | refine blk_drew ?_ | refine blk_alloc ?_ _)); exact BK127.out⟩, ⟨by (with_reducible repeat (first | refine blk_drewN ?_ _ | refine blk_drew ?_ | refine blk_alloc ?_ _)); exact BK128.out⟩, ⟨by repeat (first | (with_reducible first | exact HB.out | apply below_alloc | apply pw_below_drewN | apply below_drew1 | refine below_set ?_ GE105.out | refine below_set ?_ GE106.out | refine below_set ?_ GE107.out | refine below_set ?_ GE112.out | refine below_set ?_ GE127.out | refine below_set ?_ GE128.out) | exact HB.out)⟩⟩
      ·rw [if_neg c54] at H
       have c54b0 : (a1_0 == 1) = false := beq_eq_false_iff_ne.mpr c54
       have c54b1 : (a1_0 != 1) = true := bne_iff_ne.mpr c54
       have H' := Aside0.mk H
       clear H
       refine start_ (n := 20) (S := fun w' => w'.cell? ⟨gb106, 0, none⟩ = some (.int .u8 a1_0) ∧ w'.cell? ⟨gb106, 1, none⟩ = some (.int .u64 a1_1) ∧ w'.cell? ⟨gb106, 2, none⟩ = some (.int .u8 a1_2) ∧ w'.cell? ⟨gb106, 3, none⟩ = some (.int .u64 a1_3) ∧ w'.cell? ⟨gb107, 0, none⟩ = some (.int .u8 a2_0) ∧ w'.cell? ⟨gb107, 1, none⟩ = some (.int .u64 a2_1) ∧ w'.cell? ⟨gb107, 2, none⟩ = some (.int .u8 a2_2) ∧ w'.cell? ⟨gb107, 3, none⟩ = some (.int .u64 a2_3)) (ds := []) MetaOrder.m28 (by kernel_rfl) rfl rfl (c4 BK106 (c4e BK107)) (fun hHeld => ?_); refine with_tabW rillbedlaw07_MetaOrder.tab5 rillbedlaw07_MetaOrder.bits5 (fun HT_ HW_ => ?_)
       generalize w56.drew = w65 at BK105 BK106 BK107 BK112 BK127 BK128 HB hHeld ⊢
       refine take_ (i := 0) (N := some 33) (v := ?_) (a' := ?_) MetaOrder.m29 rfl rfl (take_ofW HT_.out HW_.out (by kernel_rfl)) (fun _ _ _ h => h) (Or.inl ⟨by rfl, ?_⟩) hHeld ?_ ?_
       rotate_left
       ·rintro w' ⟨s0, s1, s2, s3, s4, s5, s6, s7⟩
        go_simp
        with_reducible rfl
       rotate_left
       ·simp only [Act.put, List.setIfInBounds_toArray, List.set_cons_zero, List.set_cons_succ, i64_w, i32_w]
        rfl
       refine take_ (i := 2) (N := some 35) (v := ?_) (a' := ?_) MetaOrder.m30 rfl rfl (take_ofW HT_.out HW_.out (by kernel_rfl)) (fun _ _ _ h => h) (Or.inl ⟨by rfl, ?_⟩) hHeld ?_ ?_
       rotate_left
       ·rintro w' ⟨s0, s1, s2, s3, s4, s5, s6, s7⟩
        go_simp
        with_reducible rfl
       rotate_left
       ·simp only [Act.put, List.setIfInBounds_toArray, List.set_cons_zero, List.set_cons_succ, i64_w, i32_w]
        rfl
       refine one_ (i := 1) (N := some 34) MetaOrder.m31 rfl rfl (one_of HT_.out (by kernel_rfl)) (by decide) (fun K hK => ?_)
       refine goes_ Try.func48 (by kernel_rfl) rfl #[.agg #[.int .u8 a1_0, .int .u64 a1_1, .int .u8 a1_2, .int .u64 a1_3]] (by rfl) rfl rfl (by (try simp only [List.map_toArray, List.map_cons, List.map_nil]); first | done | rfl | (simp only [List.length_drop, List.length_take]; rfl)) ?_
       with_reducible refine (rillbedlaw07_part.calls a1_0 a1_1 a1_2 a1_3 t129 _ A51.out).mono ?_
       rintro e w66 ⟨rfl, hb⟩
       refine ⟨_, rfl, ?_⟩
       have n0_ := n_blk BK105 hb
       have n1_ := n_blk BK106 hb
       have n2_ := n_blk BK107 hb
       have n3_ := n_blk BK112 hb
       have n4_ := n_blk BK127 hb
       have n5_ := n_blk BK128 hb
       have n6_ := Aside0.mk (below_step (n_hb HB) hb)
       clear BK105 BK106 BK107 BK112 BK127 BK128 HB
       have BK105 := n0_; have BK106 := n1_; have BK107 := n2_; have BK112 := n3_; have BK127 := n4_; have BK128 := n5_; have HB := n6_
       clear n0_ n1_ n2_ n3_ n4_ n5_ n6_
       (try clear hb); (try clear hb2); (try clear hk); (try clear hi)
       refine hK.out _ _ (c4 BK106 (c4e BK107)) (fun hHeld => ?_)
       clear hK K
       refine norm_ (a' := ?_) ?_ ?_
       rotate_left
       ·show Act.put _ (some 34) _ = _
        simp only [Act.put, List.setIfInBounds_toArray, List.set_cons_zero, List.set_cons_succ, i64_w, i32_w]
        rfl
       refine one_ (i := 3) (N := some 36) MetaOrder.m32 rfl rfl (one_of HT_.out (by kernel_rfl)) (by decide) (fun K hK => ?_)
       refine goes_ Try.func48 (by kernel_rfl) rfl #[.agg #[.int .u8 a2_0, .int .u64 a2_1, .int .u8 a2_2, .int .u64 a2_3]] (by rfl) rfl rfl (by (try simp only [List.map_toArray, List.map_cons, List.map_nil]); first | done | rfl | (simp only [List.length_drop, List.length_take]; rfl)) ?_
       with_reducible refine (rillbedlaw07_part.calls a2_0 a2_1 a2_2 a2_3 t130 _ A52.out).mono ?_
       rintro e w67 ⟨rfl, hb⟩
       refine ⟨_, rfl, ?_⟩
       have n0_ := n_blk BK105 hb
       have n1_ := n_blk BK106 hb
       have n2_ := n_blk BK107 hb
       have n3_ := n_blk BK112 hb
       have n4_ := n_blk BK127 hb
       have n5_ := n_blk BK128 hb
       have n6_ := Aside0.mk (below_step (n_hb HB) hb)
       clear BK105 BK106 BK107 BK112 BK127 BK128 HB
       have BK105 := n0_; have BK106 := n1_; have BK107 := n2_; have BK112 := n3_; have BK127 := n4_; have BK128 := n5_; have HB := n6_
       clear n0_ n1_ n2_ n3_ n4_ n5_ n6_
       (try clear hb); (try clear hb2); (try clear hk); (try clear hi)
       refine hK.out _ _ (c4 BK106 (c4e BK107)) (fun hHeld => ?_)
       clear hK K
       refine norm_ (a' := ?_) ?_ ?_
       rotate_left
       ·show Act.put _ (some 36) _ = _
        simp only [Act.put, List.setIfInBounds_toArray, List.set_cons_zero, List.set_cons_succ, i64_w, i32_w]
        rfl
       refine pure_ (i := 4) (N := some 37) (v := ?_) (a' := ?_) MetaOrder.m33 rfl rfl (any_of HT_.out (by kernel_rfl)) (fun _ _ _ h => h) (Or.inl ⟨by rfl, ?_⟩) ?_ ?_
       rotate_left
       ·intro w'
        go_simp
        with_reducible rfl
       rotate_left
       ·simp only [Act.put, List.setIfInBounds_toArray, List.set_cons_zero, List.set_cons_succ, i64_w, i32_w]
        rfl
       refine pure_ (i := 5) (N := some 38) (v := ?_) (a' := ?_) MetaOrder.m34 rfl rfl (any_of HT_.out (by kernel_rfl)) (fun _ _ _ h => h) (Or.inl ⟨by rfl, ?_⟩) ?_ ?_
       rotate_left
       ·intro w'
        go_simp
        with_reducible rfl
       rotate_left
       ·simp only [Act.put, List.setIfInBounds_toArray, List.set_cons_zero, List.set_cons_succ, i64_w, i32_w]
        rfl
       refine pure_ (i := 6) (N := some 39) (v := ?_) (a' := ?_) MetaOrder.m35 rfl rfl (any_of HT_.out (by kernel_rfl)) (fun _ _ _ h => h) (Or.inl ⟨by rfl, ?_⟩) ?_ ?_
       rotate_left
       ·intro w'
        go_simp
        with_reducible rfl
       rotate_left
       ·simp only [Act.put, List.setIfInBounds_toArray, List.set_cons_zero, List.set_cons_succ, i64_w, i32_w]
        rfl
       refine take_ (i := 7) (N := some 40) (v := ?_) (a' := ?_) MetaOrder.m36 rfl rfl (take_ofW HT_.out HW_.out (by kernel_rfl)) (fun _ _ _ h => h) (Or.inl ⟨by rfl, ?_⟩) hHeld ?_ ?_
       rotate_left
       ·rintro w' ⟨s0, s1, s2, s3, s4, s5, s6, s7⟩
        go_simp
        with_reducible rfl
       rotate_left
       ·simp only [Act.put, List.setIfInBounds_toArray, List.set_cons_zero, List.set_cons_succ, i64_w, i32_w]
        rfl
       refine pure_ (i := 8) (N := some 41) (v := ?_) (a' := ?_) MetaOrder.m37 rfl rfl (any_of HT_.out (by kernel_rfl)) (fun _ _ _ h => h) (Or.inl ⟨by rfl, ?_⟩) ?_ ?_
       rotate_left
       ·intro w'
        go_simp
        with_reducible rfl
       rotate_left
       ·simp only [Act.put, List.setIfInBounds_toArray, List.set_cons_zero, List.set_cons_succ, i64_w, i32_w]
        rfl
       refine pure_ (i := 9) (N := some 42) (v := ?_) (a' := ?_) MetaOrder.m38 rfl rfl (any_of HT_.out (by kernel_rfl)) (fun _ _ _ h => h) (Or.inl ⟨by rfl, ?_⟩) ?_ ?_
       rotate_left
       ·intro w'
        go_simp
        with_reducible rfl
       rotate_left
       ·simp only [Act.put, List.setIfInBounds_toArray, List.set_cons_zero, List.set_cons_succ, i64_w, i32_w]
        rfl
       refine pure_ (i := 10) (N := some 43) (v := undef) (a' := ?_) MetaOrder.m39 rfl rfl (any_of HT_.out (by kernel_rfl)) (fun _ _ _ h => h) (Or.inr ⟨by rfl, rfl⟩) ?_ ?_
       rotate_left
       ·simp only [Act.put, List.setIfInBounds_toArray, List.set_cons_zero, List.set_cons_succ, i64_w, i32_w]
        rfl
       refine pure_ (i := 11) (N := some 44) (v := undef) (a' := ?_) MetaOrder.m40 rfl rfl (any_of HT_.out (by kernel_rfl)) (fun _ _ _ h => h) (Or.inr ⟨by rfl, rfl⟩) ?_ ?_
       rotate_left
       ·simp only [Act.put, List.setIfInBounds_toArray, List.set_cons_zero, List.set_cons_succ, i64_w, i32_w]
        rfl
       refine pure_ (i := 12) (N := some 45) (v := undef) (a' := ?_) MetaOrder.m41 rfl rfl (any_of HT_.out (by kernel_rfl)) (fun _ _ _ h => h) (Or.inr ⟨by rfl, rfl⟩) ?_ ?_
       rotate_left
       ·simp only [Act.put, List.setIfInBounds_toArray, List.set_cons_zero, List.set_cons_succ, i64_w, i32_w]
        rfl
       refine pure_ (i := 13) (N := some 46) (v := ?_) (a' := ?_) MetaOrder.m42 rfl rfl (any_of HT_.out (by kernel_rfl)) (fun _ _ _ h => h) (Or.inl ⟨by rfl, ?_⟩) ?_ ?_
       rotate_left
       ·intro w'
        go_simp
        with_reducible rfl
       rotate_left
       ·simp only [Act.put, List.setIfInBounds_toArray, List.set_cons_zero, List.set_cons_succ, i64_w, i32_w]
        rfl
       refine pure_ (i := 14) (N := some 47) (v := ?_) (a' := ?_) MetaOrder.m43 rfl rfl (any_of HT_.out (by kernel_rfl)) (fun _ _ _ h => h) (Or.inl ⟨by rfl, ?_⟩) ?_ ?_
       rotate_left
       ·intro w'
        go_simp
        with_reducible rfl
       rotate_left
       ·simp only [Act.put, List.setIfInBounds_toArray, List.set_cons_zero, List.set_cons_succ, i64_w, i32_w]
        rfl
       refine pure_ (i := 15) (N := some 48) (v := ?_) (a' := ?_) MetaOrder.m44 rfl rfl (any_of HT_.out (by kernel_rfl)) (fun _ _ _ h => h) (Or.inl ⟨by rfl, ?_⟩) ?_ ?_
       rotate_left
       ·intro w'
        go_simp
        with_reducible rfl
       rotate_left
       ·simp only [Act.put, List.setIfInBounds_toArray, List.set_cons_zero, List.set_cons_succ, i64_w, i32_w]
        rfl
       refine pure_ (i := 16) (N := some 49) (v := undef) (a' := ?_) MetaOrder.m45 rfl rfl (any_of HT_.out (by kernel_rfl)) (fun _ _ _ h => h) (Or.inr ⟨by rfl, rfl⟩) ?_ ?_
       rotate_left
       ·simp only [Act.put, List.setIfInBounds_toArray, List.set_cons_zero, List.set_cons_succ, i64_w, i32_w]
        rfl
       refine pure_ (i := 17) (N := some 50) (v := undef) (a' := ?_) MetaOrder.m46 rfl rfl (any_of HT_.out (by kernel_rfl)) (fun _ _ _ h => h) (Or.inr ⟨by rfl, rfl⟩) ?_ ?_
       rotate_left
       ·simp only [Act.put, List.setIfInBounds_toArray, List.set_cons_zero, List.set_cons_succ, i64_w, i32_w]
        rfl
       refine pure_ (i := 18) (N := some 51) (v := undef) (a' := ?_) MetaOrder.m47 rfl rfl (any_of HT_.out (by kernel_rfl)) (fun _ _ _ h => h) (Or.inr ⟨by rfl, rfl⟩) ?_ ?_
       rotate_left
       ·simp only [Act.put, List.setIfInBounds_toArray, List.set_cons_zero, List.set_cons_succ, i64_w, i32_w]
        rfl
       refine pure_ (i := 19) (N := some 52) (v := ?_) (a' := ?_) MetaOrder.m48 rfl rfl (any_of HT_.out (by kernel_rfl)) (fun _ _ _ h => h) (Or.inl ⟨by rfl, ?_⟩) ?_ ?_
       rotate_left
       ·intro w'
        go_simp
        with_reducible rfl
       rotate_left
       ·simp only [Act.put, List.setIfInBounds_toArray, List.set_cons_zero, List.set_cons_succ, i64_w, i32_w]
        rfl
       refine done_ (done_of HT_.out (by kernel_rfl)) ?_
       try go_wp2
       go_meet
       case rel => exact ⟨_, (false), (by first | rfl | (simp; done) | (simp [*]; done)), H', ⟨by have := HJ4.out; first | omega | exact Nat.le_refl _⟩, ⟨by (with_reducible repeat (first | refine blk_drewN ?_ _ | refine blk_drew ?_ | refine blk_alloc ?_ _)); exact BK105.out⟩, ⟨by (with_reducible repeat (first | refine blk_drewN ?_ _ | refine blk_drew ?_ | refine blk_alloc ?_ _)); exact BK106.out⟩, ⟨by (with_reducible repeat (first | refine blk_drewN ?_ _ | refine blk_drew ?_ | refine blk_alloc ?_ _)); exact BK107.out⟩, ⟨by (with_reducible repeat (first | refine blk_drewN ?_ _ | refine blk_drew ?_ | refine blk_alloc ?_ _)); exact BK112.out⟩, ⟨by (with_reducible repeat (first | refine blk_drewN ?_ _ | refine blk_drew ?_ | refine blk_alloc ?_ _)); exact BK127.out⟩, ⟨by (with_reducible repeat (first | refine blk_drewN ?_ _ | refine blk_drew ?_ | refine blk_alloc ?_ _)); exact BK128.out⟩, ⟨by repeat (first | (with_reducible first | exact HB.out | apply below_alloc | apply pw_below_drewN | apply below_drew1 | refine below_set ?_ GE105.out | refine below_set ?_ GE106.out | refine below_set ?_ GE107.out | refine below_set ?_ GE112.out | refine below_set ?_ GE127.out | refine below_set ?_ GE128.out) | exact HB.out)⟩⟩
     ·rw [if_neg c53] at H
      have c53b0 : (t129 == t130) = false := beq_eq_false_iff_ne.mpr c53
      have c53b1 : (t129 != t130) = true := bne_iff_ne.mpr c53
      (first | rw [c53b0] | (simp only [i64_w, i32_w]; rw [c53b0]) | skip)
      have hf_ : (!(t115 == t123) || (!(t116 == t124) || (!(t117 == t125) || (!(t118 == t126))))) = false := by
       cases hq_ : (!(t115 == t123) || (!(t116 == t124) || (!(t117 == t125) || (!(t118 == t126))))) with
       | false => rfl
       | true => rw [hq_] at H; exact absurd H (by cases kj4 <;> simp [rillbedlaw07_MetaOrder.j1])
      have he_ : t115 = t123 ∧ t116 = t124 ∧ t117 = t125 ∧ t118 = t126 := by simpa using hf_
      obtain ⟨e1_, e2_, e3_, e4_⟩ := he_
      clear hf_
      have H' := Aside0.mk H
      clear H
      refine start_ (n := 20) (S := fun w' => w'.cell? ⟨gb106, 0, none⟩ = some (.int .u8 a1_0) ∧ w'.cell? ⟨gb106, 1, none⟩ = some (.int .u64 a1_1) ∧ w'.cell? ⟨gb106, 2, none⟩ = some (.int .u8 a1_2) ∧ w'.cell? ⟨gb106, 3, none⟩ = some (.int .u64 a1_3) ∧ w'.cell? ⟨gb107, 0, none⟩ = some (.int .u8 a2_0) ∧ w'.cell? ⟨gb107, 1, none⟩ = some (.int .u64 a2_1) ∧ w'.cell? ⟨gb107, 2, none⟩ = some (.int .u8 a2_2) ∧ w'.cell? ⟨gb107, 3, none⟩ = some (.int .u64 a2_3) ∧ w'.cell? ⟨gb127, 0, none⟩ = some (.int .u8 t115) ∧ w'.cell? ⟨gb127, 1, none⟩ = some (.int .u32 t116) ∧ w'.cell? ⟨gb127, 2, none⟩ = some (.int .u64 t117) ∧ w'.cell? ⟨gb127, 3, none⟩ = some (.int .u64 t118) ∧ w'.cell? ⟨gb128, 0, none⟩ = some (.int .u8 t123) ∧ w'.cell? ⟨gb128, 1, none⟩ = some (.int .u32 t124) ∧ w'.cell? ⟨gb128, 2, none⟩ = some (.int .u64 t125) ∧ w'.cell? ⟨gb128, 3, none⟩ = some (.int .u64 t126)) (ds := []) MetaOrder.m28 (by kernel_rfl) rfl rfl (c4 BK106 (c4 BK107 (c4 BK127 (c4e BK128)))) (fun hHeld => ?_); refine with_tabW rillbedlaw07_MetaOrder.tab5 rillbedlaw07_MetaOrder.bits5 (fun HT_ HW_ => ?_)
      generalize w56.drew = w69 at BK105 BK106 BK107 BK112 BK127 BK128 HB hHeld ⊢
      refine take_ (i := 0) (N := some 33) (v := ?_) (a' := ?_) MetaOrder.m29 rfl rfl (take_ofW HT_.out HW_.out (by kernel_rfl)) (fun _ _ _ h => h) (Or.inl ⟨by rfl, ?_⟩) hHeld ?_ ?_
      rotate_left
      ·rintro w' ⟨s0, s1, s2, s3, s4, s5, s6, s7, s8, s9, s10, s11, s12, s13, s14, s15⟩
       go_simp
       with_reducible rfl
      rotate_left
      ·simp only [Act.put, List.setIfInBounds_toArray, List.set_cons_zero, List.set_cons_succ, i64_w, i32_w]
       rfl
      refine take_ (i := 2) (N := some 35) (v := ?_) (a' := ?_) MetaOrder.m30 rfl rfl (take_ofW HT_.out HW_.out (by kernel_rfl)) (fun _ _ _ h => h) (Or.inl ⟨by rfl, ?_⟩) hHeld ?_ ?_
      rotate_left
      ·rintro w' ⟨s0, s1, s2, s3, s4, s5, s6, s7, s8, s9, s10, s11, s12, s13, s14, s15⟩
       go_simp
       with_reducible rfl
      rotate_left
      ·simp only [Act.put, List.setIfInBounds_toArray, List.set_cons_zero, List.set_cons_succ, i64_w, i32_w]
       rfl
      refine one_ (i := 1) (N := some 34) MetaOrder.m31 rfl rfl (one_of HT_.out (by kernel_rfl)) (by decide) (fun K hK => ?_)
      refine goes_ Try.func48 (by kernel_rfl) rfl #[.agg #[.int .u8 a1_0, .int .u64 a1_1, .int .u8 a1_2, .int .u64 a1_3]] (by rfl) rfl rfl (by (try simp only [List.map_toArray, List.map_cons, List.map_nil]); first | done | rfl | (simp only [List.length_drop, List.length_take]; rfl)) ?_
      with_reducible refine (rillbedlaw07_part.calls a1_0 a1_1 a1_2 a1_3 t129 _ A51.out).mono ?_
      rintro e w70 ⟨rfl, hb⟩
      refine ⟨_, rfl, ?_⟩
      have n0_ := n_blk BK105 hb
      have n1_ := n_blk BK106 hb
      have n2_ := n_blk BK107 hb
      have n3_ := n_blk BK112 hb
      have n4_ := n_blk BK127 hb
      have n5_ := n_blk BK128 hb
      have n6_ := Aside0.mk (below_step (n_hb HB) hb)
      clear BK105 BK106 BK107 BK112 BK127 BK128 HB
      have BK105 := n0_; have BK106 := n1_; have BK107 := n2_; have BK112 := n3_; have BK127 := n4_; have BK128 := n5_; have HB := n6_
      clear n0_ n1_ n2_ n3_ n4_ n5_ n6_
      (try clear hb); (try clear hb2); (try clear hk); (try clear hi)
      refine hK.out _ _ (c4 BK106 (c4 BK107 (c4 BK127 (c4e BK128)))) (fun hHeld => ?_)
      clear hK K
      refine norm_ (a' := ?_) ?_ ?_
      rotate_left
      ·show Act.put _ (some 34) _ = _
       simp only [Act.put, List.setIfInBounds_toArray, List.set_cons_zero, List.set_cons_succ, i64_w, i32_w]
       rfl
      refine one_ (i := 3) (N := some 36) MetaOrder.m32 rfl rfl (one_of HT_.out (by kernel_rfl)) (by decide) (fun K hK => ?_)
      refine goes_ Try.func48 (by kernel_rfl) rfl #[.agg #[.int .u8 a2_0, .int .u64 a2_1, .int .u8 a2_2, .int .u64 a2_3]] (by rfl) rfl rfl (by (try simp only [List.map_toArray, List.map_cons, List.map_nil]); first | done | rfl | (simp only [List.length_drop, List.length_take]; rfl)) ?_
      with_reducible refine (rillbedlaw07_part.calls a2_0 a2_1 a2_2 a2_3 t130 _ A52.out).mono ?_
      rintro e w71 ⟨rfl, hb⟩
      refine ⟨_, rfl, ?_⟩
      have n0_ := n_blk BK105 hb
      have n1_ := n_blk BK106 hb
      have n2_ := n_blk BK107 hb
      have n3_ := n_blk BK112 hb
      have n4_ := n_blk BK127 hb
      have n5_ := n_blk BK128 hb
      have n6_ := Aside0.mk (below_step (n_hb HB) hb)
      clear BK105 BK106 BK107 BK112 BK127 BK128 HB
      have BK105 := n0_; have BK106 := n1_; have BK107 := n2_; have BK112 := n3_; have BK127 := n4_; have BK128 := n5_; have HB := n6_
      clear n0_ n1_ n2_ n3_ n4_ n5_ n6_
      (try clear hb); (try clear hb2); (try clear hk); (try clear hi)
      refine hK.out _ _ (c4 BK106 (c4 BK107 (c4 BK127 (c4e BK128)))) (fun hHeld => ?_)
      clear hK K
      refine norm_ (a' := ?_) ?_ ?_
      rotate_left
      ·show Act.put _ (some 36) _ = _
       simp only [Act.put, List.setIfInBounds_toArray, List.set_cons_zero, List.set_cons_succ, i64_w, i32_w]
       rfl
      refine pure_ (i := 4) (N := some 37) (v := ?_) (a' := ?_) MetaOrder.m33 rfl rfl (any_of HT_.out (by kernel_rfl)) (fun _ _ _ h => h) (Or.inl ⟨by rfl, ?_⟩) ?_ ?_
      rotate_left
      ·intro w'
       go_simp
       with_reducible rfl
      rotate_left
      ·simp only [Act.put, List.setIfInBounds_toArray, List.set_cons_zero, List.set_cons_succ, i64_w, i32_w]
       rfl
      refine pure_ (i := 5) (N := some 38) (v := ?_) (a' := ?_) MetaOrder.m34 rfl rfl (any_of HT_.out (by kernel_rfl)) (fun _ _ _ h => h) (Or.inl ⟨by rfl, ?_⟩) ?_ ?_
      rotate_left
      ·intro w'
       go_simp
       with_reducible rfl
      rotate_left
      ·simp only [Act.put, List.setIfInBounds_toArray, List.set_cons_zero, List.set_cons_succ, i64_w, i32_w]
       rfl
      refine pure_ (i := 6) (N := some 39) (v := undef) (a' := ?_) MetaOrder.m35 rfl rfl (any_of HT_.out (by kernel_rfl)) (fun _ _ _ h => h) (Or.inr ⟨by rfl, rfl⟩) ?_ ?_
      rotate_left
      ·simp only [Act.put, List.setIfInBounds_toArray, List.set_cons_zero, List.set_cons_succ, i64_w, i32_w]
       rfl
      refine pure_ (i := 7) (N := some 40) (v := undef) (a' := ?_) MetaOrder.m36 rfl rfl (any_of HT_.out (by kernel_rfl)) (fun _ _ _ h => h) (Or.inr ⟨by rfl, rfl⟩) ?_ ?_
      rotate_left
      ·simp only [Act.put, List.setIfInBounds_toArray, List.set_cons_zero, List.set_cons_succ, i64_w, i32_w]
       rfl
      refine pure_ (i := 8) (N := some 41) (v := undef) (a' := ?_) MetaOrder.m37 rfl rfl (any_of HT_.out (by kernel_rfl)) (fun _ _ _ h => h) (Or.inr ⟨by rfl, rfl⟩) ?_ ?_
      rotate_left
      ·simp only [Act.put, List.setIfInBounds_toArray, List.set_cons_zero, List.set_cons_succ, i64_w, i32_w]
       rfl
      refine pure_ (i := 9) (N := some 42) (v := undef) (a' := ?_) MetaOrder.m38 rfl rfl (any_of HT_.out (by kernel_rfl)) (fun _ _ _ h => h) (Or.inr ⟨by rfl, rfl⟩) ?_ ?_
      rotate_left
      ·simp only [Act.put, List.setIfInBounds_toArray, List.set_cons_zero, List.set_cons_succ, i64_w, i32_w]
       rfl
      refine pure_ (i := 10) (N := some 43) (v := undef) (a' := ?_) MetaOrder.m39 rfl rfl (any_of HT_.out (by kernel_rfl)) (fun _ _ _ h => h) (Or.inr ⟨by rfl, rfl⟩) ?_ ?_
      rotate_left
      ·simp only [Act.put, List.setIfInBounds_toArray, List.set_cons_zero, List.set_cons_succ, i64_w, i32_w]
       rfl
      refine pure_ (i := 11) (N := some 44) (v := undef) (a' := ?_) MetaOrder.m40 rfl rfl (any_of HT_.out (by kernel_rfl)) (fun _ _ _ h => h) (Or.inr ⟨by rfl, rfl⟩) ?_ ?_
      rotate_left
      ·simp only [Act.put, List.setIfInBounds_toArray, List.set_cons_zero, List.set_cons_succ, i64_w, i32_w]
       rfl
      refine pure_ (i := 12) (N := some 45) (v := undef) (a' := ?_) MetaOrder.m41 rfl rfl (any_of HT_.out (by kernel_rfl)) (fun _ _ _ h => h) (Or.inr ⟨by rfl, rfl⟩) ?_ ?_
      rotate_left
      ·simp only [Act.put, List.setIfInBounds_toArray, List.set_cons_zero, List.set_cons_succ, i64_w, i32_w]
       rfl
      refine pure_ (i := 13) (N := some 46) (v := undef) (a' := ?_) MetaOrder.m42 rfl rfl (any_of HT_.out (by kernel_rfl)) (fun _ _ _ h => h) (Or.inr ⟨by rfl, rfl⟩) ?_ ?_
      rotate_left
      ·simp only [Act.put, List.setIfInBounds_toArray, List.set_cons_zero, List.set_cons_succ, i64_w, i32_w]
       rfl
      refine pure_ (i := 14) (N := some 47) (v := ?_) (a' := ?_) MetaOrder.m43 rfl rfl (any_of HT_.out (by kernel_rfl)) (fun _ _ _ h => h) (Or.inl ⟨by rfl, ?_⟩) ?_ ?_
      rotate_left
      ·intro w'
       go_simp
       with_reducible rfl
      rotate_left
      ·simp only [Act.put, List.setIfInBounds_toArray, List.set_cons_zero, List.set_cons_succ, i64_w, i32_w]
       rfl
      refine pure_ (i := 15) (N := some 48) (v := ?_) (a' := ?_) MetaOrder.m44 rfl rfl (any_of HT_.out (by kernel_rfl)) (fun _ _ _ h => h) (Or.inl ⟨by rfl, ?_⟩) ?_ ?_
      rotate_left
      ·intro w'
       go_simp
       with_reducible rfl
      rotate_left
      ·simp only [Act.put, List.setIfInBounds_toArray, List.set_cons_zero, List.set_cons_succ, i64_w, i32_w]
       rfl
      refine take_ (i := 16) (N := some 49) (v := ?_) (a' := ?_) MetaOrder.m45 rfl rfl (take_ofW HT_.out HW_.out (by kernel_rfl)) (fun _ _ _ h => h) (Or.inl ⟨by rfl, ?_⟩) hHeld ?_ ?_
      rotate_left
      ·rintro w' ⟨s0, s1, s2, s3, s4, s5, s6, s7, s8, s9, s10, s11, s12, s13, s14, s15⟩
       go_simp
       with_reducible rfl
      rotate_left
      ·simp only [Act.put, List.setIfInBounds_toArray, List.set_cons_zero, List.set_cons_succ, i64_w, i32_w]
       rfl
      refine take_ (i := 17) (N := some 50) (v := ?_) (a' := ?_) MetaOrder.m46 rfl rfl (take_ofW HT_.out HW_.out (by kernel_rfl)) (fun _ _ _ h => h) (Or.inl ⟨by rfl, ?_⟩) hHeld ?_ ?_
      rotate_left
      ·rintro w' ⟨s0, s1, s2, s3, s4, s5, s6, s7, s8, s9, s10, s11, s12, s13, s14, s15⟩
       go_simp
       with_reducible rfl
      rotate_left
      ·simp only [Act.put, List.setIfInBounds_toArray, List.set_cons_zero, List.set_cons_succ, i64_w, i32_w]
       rfl
      refine pure_ (i := 18) (N := some 51) (v := ?_) (a' := ?_) MetaOrder.m47 rfl rfl (any_of HT_.out (by kernel_rfl)) (fun _ _ _ h => h) (Or.inl ⟨by rfl, ?_⟩) ?_ ?_
      rotate_left
      ·intro w'
       go_simp
       with_reducible rfl
      rotate_left
      ·simp only [Act.put, List.setIfInBounds_toArray, List.set_cons_zero, List.set_cons_succ, i64_w, i32_w]
       rfl
      refine pure_ (i := 19) (N := some 52) (v := ?_) (a' := ?_) MetaOrder.m48 rfl rfl (any_of HT_.out (by kernel_rfl)) (fun _ _ _ h => h) (Or.inl ⟨by rfl, ?_⟩) ?_ ?_
      rotate_left
      ·intro w'
       go_simp
       with_reducible rfl
      rotate_left
      ·simp only [Act.put, List.setIfInBounds_toArray, List.set_cons_zero, List.set_cons_succ, i64_w, i32_w]
       rfl
      refine done_ (done_of HT_.out (by kernel_rfl)) ?_
      try go_wp2
      go_meet
      case rel => exact ⟨_, ((!(t115 == t123) || (!(t116 == t124) || (!(t117 == t125) || (!(t118 == t126)))))), (by first | rfl | (simp; done) | (simp [*]; done)), H', ⟨by have := HJ4.out; first | omega | exact Nat.le_refl _⟩, ⟨by (with_reducible repeat (first | refine blk_drewN ?_ _ | refine blk_drew ?_ | refine blk_alloc ?_ _)); exact BK105.out⟩, ⟨by (with_reducible repeat (first | refine blk_drewN ?_ _ | refine blk_drew ?_ | refine blk_alloc ?_ _)); exact BK106.out⟩, ⟨by (with_reducible repeat (first | refine blk_drewN ?_ _ | refine blk_drew ?_ | refine blk_alloc ?_ _)); exact BK107.out⟩, ⟨by (with_reducible repeat (first | refine blk_drewN ?_ _ | refine blk_drew ?_ | refine blk_alloc ?_ _)); exact BK112.out⟩, ⟨by (with_reducible repeat (first | refine blk_drewN ?_ _ | refine blk_drew ?_ | refine blk_alloc ?_ _)); exact BK127.out⟩, ⟨by (with_reducible repeat (first | refine blk_drewN ?_ _ | refine blk_drew ?_ | refine blk_alloc ?_ _)); exact BK128.out⟩, ⟨by repeat (first | (with_reducible first | exact HB.out | apply below_alloc | apply pw_below_drewN | apply below_drew1 | refine below_set ?_ GE105.out | refine below_set ?_ GE106.out | refine below_set ?_ GE107.out | refine below_set ?_ GE112.out | refine below_set ?_ GE127.out | refine below_set ?_ GE128.out) | exact HB.out)⟩⟩
    case rest =>
     clear HC35
     try clear c53
     try clear c53b0
     try clear c53b1
     try clear c54
     try clear c54b0
     try clear c54b1
     obtain ⟨kq, x52_34, rfl, HA, HJ34, BK105, BK106, BK107, BK112, BK127, BK128, HB⟩ := hcut
     cases kq with
     | zero => exact absurd HA.out (by simp [rillbedlaw07_MetaOrder.j1])
     | succ kj34 =>
      have H := HA.out
      clear HA
      simp only [rillbedlaw07_MetaOrder.j1] at H
      by_cases c72 : x52_34 = true
      ·subst c72
       have H1 : (some false) = some true := by rw [if_pos rfl] at H; exact H
       clear H
       have H := H1
       clear H1
       exact absurd (Option.some.inj H) (by decide)
      ·replace c72 := Bool.eq_false_iff.mpr c72
       subst c72
       have H1 : ((rillbedlaw07_part.f a1_0 a1_1 a1_2 a1_3).bind fun t131 => (if t131 = 2 then (rillbedlaw07_MetaOrder.j2 kj34 false a0_0 a0_1 a0_2 a0_3 a1_0 a1_1 a1_2 a1_3 t108 t109 t110 t111) else ((meta_Apply.f t108 t109 t110 t111 a1_0 a1_1 a1_2 a1_3).bind fun bt132 => (rillbedlaw07_MetaOrder.j2 kj34 (!(bt132.1 == t108) || (!(bt132.2.1 == t109) || (!(bt132.2.2.1 == t110) || (!(bt132.2.2.2 == t111))))) a0_0 a0_1 a0_2 a0_3 a1_0 a1_1 a1_2 a1_3 t108 t109 t110 t111)))) = some true := by rw [if_neg (show ¬ (false = true) by decide)] at H; exact H
       clear H
       have H := H1
       clear H1
       have HC73 := Aside0.mk H
       clear H
       go_upto_region 7 with (fail)
       go_cut [62] (fun v62 wc => ∃ (kq : Nat) (x62_72 : Bool), v62 = .bool x62_72 ∧ Aside0 (rillbedlaw07_MetaOrder.j2 kq x62_72 a0_0 a0_1 a0_2 a0_3 a1_0 a1_1 a1_2 a1_3 t108 t109 t110 t111 = some true) ∧ Aside0 (kq ≤ kj34) ∧ Aside0 (wc.heap[gb105]? = some (.cells #[.int .u8 a0_0, .int .u32 a0_1, .int .u64 a0_2, .int .u64 a0_3] 85 (0, 0))) ∧ Aside0 (wc.heap[gb106]? = some (.cells #[.int .u8 a1_0, .int .u64 a1_1, .int .u8 a1_2, .int .u64 a1_3] 73 (0, 0))) ∧ Aside0 (wc.heap[gb107]? = some (.cells #[.int .u8 a2_0, .int .u64 a2_1, .int .u8 a2_2, .int .u64 a2_3] 73 (0, 0))) ∧ Aside0 (wc.heap[gb112]? = some (.cells #[.int .u8 t108, .int .u32 t109, .int .u64 t110, .int .u64 t111] 85 (0, 0))) ∧ Aside0 (wc.heap[gb127]? = some (.cells #[.int .u8 t115, .int .u32 t116, .int .u64 t117, .int .u64 t118] 85 (0, 0))) ∧ Aside0 (wc.heap[gb128]? = some (.cells #[.int .u8 t123, .int .u32 t124, .int .u64 t125, .int .u64 t126] 85 (0, 0))) ∧ Aside0 (Below w.heap.size w wc))
       case first =>
        have H := HC73.out
        clear HC73
        replace H := Option.bind_eq_some_iff.mp H
        obtain ⟨t131, A740, H⟩ := H
        replace H : (if t131 = 2 then (rillbedlaw07_MetaOrder.j2 kj34 false a0_0 a0_1 a0_2 a0_3 a1_0 a1_1 a1_2 a1_3 t108 t109 t110 t111) else ((meta_Apply.f t108 t109 t110 t111 a1_0 a1_1 a1_2 a1_3).bind fun bt132 => (rillbedlaw07_MetaOrder.j2 kj34 (!(bt132.1 == t108) || (!(bt132.2.1 == t109) || (!(bt132.2.2.1 == t110) || (!(bt132.2.2.2 == t111))))) a0_0 a0_1 a0_2 a0_3 a1_0 a1_1 a1_2 a1_3 t108 t109 t110 t111))) = some true := H
        have A74 := Aside0.mk A740
        clear A740
        by_cases c75 : t131 = 2
        ·rw [if_pos c75] at H
         have c75b0 : (t131 == 2) = true := beq_iff_eq.mpr c75
         have c75b1 : (t131 != 2) = false := bne_eq_false_iff_eq.mpr c75
         clear c75
         (first | rw [c75b0] | (simp only [i64_w, i32_w]; rw [c75b0]) | skip)
         have H' := Aside0.mk H
         clear H
         try go_wp2
         have n0_ := Aside0.mk (blk_drew BK105.out)
         have n1_ := Aside0.mk (blk_drew BK106.out)
         have n2_ := Aside0.mk (blk_drew BK107.out)
         have n3_ := Aside0.mk (blk_drew BK112.out)
         have n4_ := Aside0.mk (blk_drew BK127.out)
         have n5_ := Aside0.mk (blk_drew BK128.out)
         have n6_ := Aside0.mk (below_drew1 HB.out)
         clear BK105 BK106 BK107 BK112 BK127 BK128 HB
         have BK105 := n0_; have BK106 := n1_; have BK107 := n2_; have BK112 := n3_; have BK127 := n4_; have BK128 := n5_; have HB := n6_
         clear n0_ n1_ n2_ n3_ n4_ n5_ n6_
         refine start_ (n := 10) (S := fun w' => w'.cell? ⟨gb106, 0, none⟩ = some (.int .u8 a1_0) ∧ w'.cell? ⟨gb106, 1, none⟩ = some (.int .u64 a1_1) ∧ w'.cell? ⟨gb106, 2, none⟩ = some (.int .u8 a1_2) ∧ w'.cell? ⟨gb106, 3, none⟩ = some (.int .u64 a1_3)) (ds := []) MetaOrder.m49 (by kernel_rfl) rfl rfl (c4e BK106) (fun hHeld => ?_); refine with_tabW rillbedlaw07_MetaOrder.tab7 rillbedlaw07_MetaOrder.bits7 (fun HT_ HW_ => ?_)
         generalize wc.drew = w76 at BK105 BK106 BK107 BK112 BK127 BK128 HB hHeld ⊢
         refine take_ (i := 0) (N := some 53) (v := ?_) (a' := ?_) MetaOrder.m50 rfl rfl (take_ofW HT_.out HW_.out (by kernel_rfl)) (fun _ _ _ h => h) (Or.inl ⟨by rfl, ?_⟩) hHeld ?_ ?_
         rotate_left
         ·rintro w' ⟨s0, s1, s2, s3⟩
          go_simp
          with_reducible rfl
         rotate_left
         ·simp only [Act.put, List.setIfInBounds_toArray, List.set_cons_zero, List.set_cons_succ, i64_w, i32_w]
          rfl
         refine one_ (i := 1) (N := some 54) MetaOrder.m51 rfl rfl (one_of HT_.out (by kernel_rfl)) (by decide) (fun K hK => ?_)
         refine goes_ Try.func48 (by kernel_rfl) rfl #[.agg #[.int .u8 a1_0, .int .u64 a1_1, .int .u8 a1_2, .int .u64 a1_3]] (by rfl) rfl rfl (by (try simp only [List.map_toArray, List.map_cons, List.map_nil]); first | done | rfl | (simp only [List.length_drop, List.length_take]; rfl)) ?_
         with_reducible refine (rillbedlaw07_part.calls a1_0 a1_1 a1_2 a1_3 t131 _ A74.out).mono ?_
         rintro e w77 ⟨rfl, hb⟩
         refine ⟨_, rfl, ?_⟩
         have n0_ := n_blk BK105 hb
         have n1_ := n_blk BK106 hb
         have n2_ := n_blk BK107 hb
         have n3_ := n_blk BK112 hb
         have n4_ := n_blk BK127 hb
         have n5_ := n_blk BK128 hb
         have n6_ := Aside0.mk (below_step (n_hb HB) hb)
         clear BK105 BK106 BK107 BK112 BK127 BK128 HB
         have BK105 := n0_; have BK106 := n1_; have BK107 := n2_; have BK112 := n3_; have BK127 := n4_; have BK128 := n5_; have HB := n6_
         clear n0_ n1_ n2_ n3_ n4_ n5_ n6_
         (try clear hb); (try clear hb2); (try clear hk); (try clear hi)
         refine hK.out _ _ (c4e BK106) (fun hHeld => ?_)
         clear hK K
         refine norm_ (a' := ?_) ?_ ?_
         rotate_left
         ·show Act.put _ (some 54) _ = _
          simp only [Act.put, List.setIfInBounds_toArray, List.set_cons_zero, List.set_cons_succ, i64_w, i32_w]
          rfl
         refine pure_ (i := 2) (N := some 55) (v := ?_) (a' := ?_) MetaOrder.m52 rfl rfl (any_of HT_.out (by kernel_rfl)) (fun _ _ _ h => h) (Or.inl ⟨by rfl, ?_⟩) ?_ ?_
         rotate_left
         ·intro w'
          go_simp
          with_reducible rfl
         rotate_left
         ·simp only [Act.put, List.setIfInBounds_toArray, List.set_cons_zero, List.set_cons_succ, i64_w, i32_w]
          rfl
         refine pure_ (i := 3) (N := some 56) (v := ?_) (a' := ?_) MetaOrder.m53 rfl rfl (any_of HT_.out (by kernel_rfl)) (fun _ _ _ h => h) (Or.inl ⟨by rfl, ?_⟩) ?_ ?_
         rotate_left
         ·intro w'
          go_simp
          with_reducible rfl
         rotate_left
         ·simp only [Act.put, List.setIfInBounds_toArray, List.set_cons_zero, List.set_cons_succ, i64_w, i32_w]
          rfl
         refine pure_ (i := 4) (N := some 57) (v := undef) (a' := ?_) MetaOrder.m54 rfl rfl (any_of HT_.out (by kernel_rfl)) (fun _ _ _ h => h) (Or.inr ⟨by rfl, rfl⟩) ?_ ?_
         rotate_left
         ·simp only [Act.put, List.setIfInBounds_toArray, List.set_cons_zero, List.set_cons_succ, i64_w, i32_w]
          rfl
         refine pure_ (i := 5) (N := some 58) (v := undef) (a' := ?_) MetaOrder.m55 rfl rfl (any_of HT_.out (by kernel_rfl)) (fun _ _ _ h => h) (Or.inr ⟨by rfl, rfl⟩) ?_ ?_
         rotate_left
         ·simp only [Act.put, List.setIfInBounds_toArray, List.set_cons_zero, List.set_cons_succ, i64_w, i32_w]
          rfl
         refine pure_ (i := 6) (N := some 59) (v := undef) (a' := ?_) MetaOrder.m56 rfl rfl (any_of HT_.out (by kernel_rfl)) (fun _ _ _ h => h) (Or.inr ⟨by rfl, rfl⟩) ?_ ?_
         rotate_left
         ·simp only [Act.put, List.setIfInBounds_toArray, List.set_cons_zero, List.set_cons_succ, i64_w, i32_w]
          rfl
         refine pure_ (i := 7) (N := some 60) (v := undef) (a' := ?_) MetaOrder.m57 rfl rfl (any_of HT_.out (by kernel_rfl)) (fun _ _ _ h => h) (Or.inr ⟨by rfl, rfl⟩) ?_ ?_
         rotate_left
         ·simp only [Act.put, List.setIfInBounds_toArray, List.set_cons_zero, List.set_cons_succ, i64_w, i32_w]
          rfl
         refine pure_ (i := 8) (N := some 61) (v := undef) (a' := ?_) MetaOrder.m58 rfl rfl (any_of HT_.out (by kernel_rfl)) (fun _ _ _ h => h) (Or.inr ⟨by rfl, rfl⟩) ?_ ?_
         rotate_left
         ·simp only [Act.put, List.setIfInBounds_toArray, List.set_cons_zero, List.set_cons_succ, i64_w, i32_w]
          rfl
         refine pure_ (i := 9) (N := some 62) (v := ?_) (a' := ?_) MetaOrder.m59 rfl rfl (any_of HT_.out (by kernel_rfl)) (fun _ _ _ h => h) (Or.inl ⟨by rfl, ?_⟩) ?_ ?_
         rotate_left
         ·intro w'
          go_simp
          with_reducible rfl
         rotate_left
         ·simp only [Act.put, List.setIfInBounds_toArray, List.set_cons_zero, List.set_cons_succ, i64_w, i32_w]
          rfl
         refine done_ (done_of HT_.out (by kernel_rfl)) ?_
         try go_wp2
         go_meet
         case rel => exact ⟨_, (false), (by first | rfl | (simp; done) | (simp [*]; done)), H', ⟨by have := HJ4.out; have := HJ34.out; first | omega | exact Nat.le_refl _⟩, ⟨by (with_reducible repeat (first | refine blk_drewN ?_ _ | refine blk_drew ?_ | refine blk_alloc ?_ _)); exact BK105.out⟩, ⟨by (with_reducible repeat (first | refine blk_drewN ?_ _ | refine blk_drew ?_ | refine blk_alloc ?_ _)); exact BK106.out⟩, ⟨by (with_reducible repeat (first | refine blk_drewN ?_ _ | refine blk_drew ?_ | refine blk_alloc ?_ _)); exact BK107.out⟩, ⟨by (with_reducible repeat (first | refine blk_drewN ?_ _ | refine blk_drew ?_ | refine blk_alloc ?_ _)); exact BK112.out⟩, ⟨by (with_reducible repeat (first | refine blk_drewN ?_ _ | refine blk_drew ?_ | refine blk_alloc ?_ _)); exact BK127.out⟩, ⟨by (with_reducible repeat (first | refine blk_drewN ?_ _ | refine blk_drew ?_ | refine blk_alloc ?_ _)); exact BK128.out⟩, ⟨by repeat (first | (with_reducible first | exact HB.out | apply below_alloc | apply pw_below_drewN | apply below_drew1 | refine below_set ?_ GE105.out | refine below_set ?_ GE106.out | refine below_set ?_ GE107.out | refine below_set ?_ GE112.out | refine below_set ?_ GE127.out | refine below_set ?_ GE128.out) | exact HB.out)⟩⟩
        ·rw [if_neg c75] at H
         have c75b0 : (t131 == 2) = false := beq_eq_false_iff_ne.mpr c75
         have c75b1 : (t131 != 2) = true := bne_iff_ne.mpr c75
         (first | rw [c75b0] | (simp only [i64_w, i32_w]; rw [c75b0]) | skip)
         replace H := Option.bind_eq_some_iff.mp H
         obtain ⟨⟨t132, t133, t134, t135⟩, A780, H⟩ := H
         replace H : (rillbedlaw07_MetaOrder.j2 kj34 (!(t132 == t108) || (!(t133 == t109) || (!(t134 == t110) || (!(t135 == t111))))) a0_0 a0_1 a0_2 a0_3 a1_0 a1_1 a1_2 a1_3 t108 t109 t110 t111) = some true := H
         have A78 := Aside0.mk A780
         clear A780
         have hf_ : (!(t132 == t108) || (!(t133 == t109) || (!(t134 == t110) || (!(t135 == t111))))) = false := by
          cases hq_ : (!(t132 == t108) || (!(t133 == t109) || (!(t134 == t110) || (!(t135 == t111))))) with
          | false => rfl
          | true => rw [hq_] at H; exact absurd H (by cases kj34 <;> simp [rillbedlaw07_MetaOrder.j2])
         have he_ : t132 = t108 ∧ t133 = t109 ∧ t134 = t110 ∧ t135 = t111 := by simpa using hf_
         obtain ⟨e1_, e2_, e3_, e4_⟩ := he_
         clear hf_
         have H' := Aside0.mk H
         clear H
         try go_wp2
         have n0_ := Aside0.mk (blk_drew BK105.out)
         have n1_ := Aside0.mk (blk_drew BK106.out)
         have n2_ := Aside0.mk (blk_drew BK107.out)
         have n3_ := Aside0.mk (blk_drew BK112.out)
         have n4_ := Aside0.mk (blk_drew BK127.out)
         have n5_ := Aside0.mk (blk_drew BK128.out)
         have n6_ := Aside0.mk (below_drew1 HB.out)
         clear BK105 BK106 BK107 BK112 BK127 BK128 HB
         have BK105 := n0_; have BK106 := n1_; have BK107 := n2_; have BK112 := n3_; have BK127 := n4_; have BK128 := n5_; have HB := n6_
         clear n0_ n1_ n2_ n3_ n4_ n5_ n6_
         refine start_ (n := 10) (S := fun w' => w'.cell? ⟨gb106, 0, none⟩ = some (.int .u8 a1_0) ∧ w'.cell? ⟨gb106, 1, none⟩ = some (.int .u64 a1_1) ∧ w'.cell? ⟨gb106, 2, none⟩ = some (.int .u8 a1_2) ∧ w'.cell? ⟨gb106, 3, none⟩ = some (.int .u64 a1_3) ∧ w'.cell? ⟨gb112, 0, none⟩ = some (.int .u8 t108) ∧ w'.cell? ⟨gb112, 1, none⟩ = some (.int .u32 t109) ∧ w'.cell? ⟨gb112, 2, none⟩ = some (.int .u64 t110) ∧ w'.cell? ⟨gb112, 3, none⟩ = some (.int .u64 t111)) (ds := []) MetaOrder.m49 (by kernel_rfl) rfl rfl (c4 BK106 (c4e BK112)) (fun hHeld => ?_); refine with_tabW rillbedlaw07_MetaOrder.tab7 rillbedlaw07_MetaOrder.bits7 (fun HT_ HW_ => ?_)
         generalize wc.drew = w79 at BK105 BK106 BK107 BK112 BK127 BK128 HB hHeld ⊢
         refine take_ (i := 0) (N := some 53) (v := ?_) (a' := ?_) MetaOrder.m50 rfl rfl (take_ofW HT_.out HW_.out (by kernel_rfl)) (fun _ _ _ h => h) (Or.inl ⟨by rfl, ?_⟩) hHeld ?_ ?_
         rotate_left
         ·rintro w' ⟨s0, s1, s2, s3, s4, s5, s6, s7⟩
          go_simp
          with_reducible rfl
         rotate_left
         ·simp only [Act.put, List.setIfInBounds_toArray, List.set_cons_zero, List.set_cons_succ, i64_w, i32_w]
          rfl
         refine one_ (i := 1) (N := some 54) MetaOrder.m51 rfl rfl (one_of HT_.out (by kernel_rfl)) (by decide) (fun K hK => ?_)
         refine goes_ Try.func48 (by kernel_rfl) rfl #[.agg #[.int .u8 a1_0, .int .u64 a1_1, .int .u8 a1_2, .int .u64 a1_3]] (by rfl) rfl rfl (by (try simp only [List.map_toArray, List.map_cons, List.map_nil]); first | done | rfl | (simp only [List.length_drop, List.length_take]; rfl)) ?_
         with_reducible refine (rillbedlaw07_part.calls a1_0 a1_1 a1_2 a1_3 t131 _ A74.out).mono ?_
         rintro e w80 ⟨rfl, hb⟩
         refine ⟨_, rfl, ?_⟩
         have n0_ := n_blk BK105 hb
         have n1_ := n_blk BK106 hb
         have n2_ := n_blk BK107 hb
         have n3_ := n_blk BK112 hb
         have n4_ := n_blk BK127 hb
         have n5_ := n_blk BK128 hb
         have n6_ := Aside0.mk (below_step (n_hb HB) hb)
         clear BK105 BK106 BK107 BK112 BK127 BK128 HB
         have BK105 := n0_; have BK106 := n1_; have BK107 := n2_; have BK112 := n3_; have BK127 := n4_; have BK128 := n5_; have HB := n6_
         clear n0_ n1_ n2_ n3_ n4_ n5_ n6_
         (try clear hb); (try clear hb2); (try clear hk); (try clear hi)
         refine hK.out _ _ (c4 BK106 (c4e BK112)) (fun hHeld => ?_)
         clear hK K
         refine norm_ (a' := ?_) ?_ ?_
         rotate_left
         ·show Act.put _ (some 54) _ = _
          simp only [Act.put, List.setIfInBounds_toArray, List.set_cons_zero, List.set_cons_succ, i64_w, i32_w]
          rfl
         refine pure_ (i := 2) (N := some 55) (v := ?_) (a' := ?_) MetaOrder.m52 rfl rfl (any_of HT_.out (by kernel_rfl)) (fun _ _ _ h => h) (Or.inl ⟨by rfl, ?_⟩) ?_ ?_
         rotate_left
         ·intro w'
          go_simp
          with_reducible rfl
         rotate_left
         ·simp only [Act.put, List.setIfInBounds_toArray, List.set_cons_zero, List.set_cons_succ, i64_w, i32_w]
          rfl
         refine pure_ (i := 3) (N := some 56) (v := ?_) (a' := ?_) MetaOrder.m53 rfl rfl (any_of HT_.out (by kernel_rfl)) (fun _ _ _ h => h) (Or.inl ⟨by rfl, ?_⟩) ?_ ?_
         rotate_left
         ·intro w'
          go_simp
          with_reducible rfl
         rotate_left
         ·simp only [Act.put, List.setIfInBounds_toArray, List.set_cons_zero, List.set_cons_succ, i64_w, i32_w]
          rfl
         refine take_ (i := 4) (N := some 57) (v := ?_) (a' := ?_) MetaOrder.m54 rfl rfl (take_ofW HT_.out HW_.out (by kernel_rfl)) (fun _ _ _ h => h) (Or.inl ⟨by rfl, ?_⟩) hHeld ?_ ?_
         rotate_left
         ·rintro w' ⟨s0, s1, s2, s3, s4, s5, s6, s7⟩
          go_simp
          with_reducible rfl
         rotate_left
         ·simp only [Act.put, List.setIfInBounds_toArray, List.set_cons_zero, List.set_cons_succ, i64_w, i32_w]
          rfl
         refine take_ (i := 5) (N := some 58) (v := ?_) (a' := ?_) MetaOrder.m55 rfl rfl (take_ofW HT_.out HW_.out (by kernel_rfl)) (fun _ _ _ h => h) (Or.inl ⟨by rfl, ?_⟩) hHeld ?_ ?_
         rotate_left
         ·rintro w' ⟨s0, s1, s2, s3, s4, s5, s6, s7⟩
          go_simp
          with_reducible rfl
         rotate_left
         ·simp only [Act.put, List.setIfInBounds_toArray, List.set_cons_zero, List.set_cons_succ, i64_w, i32_w]
          rfl
         refine take_ (i := 7) (N := some 60) (v := ?_) (a' := ?_) MetaOrder.m60 rfl rfl (take_ofW HT_.out HW_.out (by kernel_rfl)) (fun _ _ _ h => h) (Or.inl ⟨by rfl, ?_⟩) hHeld ?_ ?_
         rotate_left
         ·rintro w' ⟨s0, s1, s2, s3, s4, s5, s6, s7⟩
          go_simp
          with_reducible rfl
         rotate_left
         ·simp only [Act.put, List.setIfInBounds_toArray, List.set_cons_zero, List.set_cons_succ, i64_w, i32_w]
          rfl
         refine one_ (i := 6) (N := some 59) MetaOrder.m57 rfl rfl (one_of HT_.out (by kernel_rfl)) (by decide) (fun K hK => ?_)
         refine goes_ Try.func45 (by kernel_rfl) rfl #[.agg #[.int .u8 t108, .int .u32 t109, .int .u64 t110, .int .u64 t111], .agg #[.int .u8 a1_0, .int .u64 a1_1, .int .u8 a1_2, .int .u64 a1_3]] (by rfl) rfl rfl (by (try simp only [List.map_toArray, List.map_cons, List.map_nil]); first | done | rfl | (simp only [List.length_drop, List.length_take]; rfl)) ?_
         with_reducible refine (meta_Apply.calls t108 t109 t110 t111 a1_0 a1_1 a1_2 a1_3 t132 t133 t134 t135 _ A78.out).mono ?_
         rintro e w81 ⟨rfl, hb⟩
         refine ⟨_, rfl, ?_⟩
         have n0_ := n_blk BK105 hb
         have n1_ := n_blk BK106 hb
         have n2_ := n_blk BK107 hb
         have n3_ := n_blk BK112 hb
         have n4_ := n_blk BK127 hb
         have n5_ := n_blk BK128 hb
         have n6_ := Aside0.mk (below_step (n_hb HB) hb)
         clear BK105 BK106 BK107 BK112 BK127 BK128 HB
         have BK105 := n0_; have BK106 := n1_; have BK107 := n2_; have BK112 := n3_; have BK127 := n4_; have BK128 := n5_; have HB := n6_
         clear n0_ n1_ n2_ n3_ n4_ n5_ n6_
         (try clear hb); (try clear hb2); (try clear hk); (try clear hi)
         refine hK.out _ _ (c4 BK106 (c4e BK112)) (fun hHeld => ?_)
         clear hK K
         refine norm_ (a' := ?_) ?_ ?_
         rotate_left
         ·show Act.put _ (some 59) _ = _
          simp only [Act.put, List.setIfInBounds_toArray, List.set_cons_zero, List.set_cons_succ, i64_w, i32_w]
          rfl
         refine pure_ (i := 8) (N := some 61) (v := ?_) (a' := ?_) MetaOrder.m58 rfl rfl (any_of HT_.out (by kernel_rfl)) (fun _ _ _ h => h) (Or.inl ⟨by rfl, ?_⟩) ?_ ?_
         rotate_left
         ·intro w'
          go_simp
          with_reducible rfl
         rotate_left
         ·simp only [Act.put, List.setIfInBounds_toArray, List.set_cons_zero, List.set_cons_succ, i64_w, i32_w]
          rfl
         refine pure_ (i := 9) (N := some 62) (v := ?_) (a' := ?_) MetaOrder.m59 rfl rfl (any_of HT_.out (by kernel_rfl)) (fun _ _ _ h => h) (Or.inl ⟨by rfl, ?_⟩) ?_ ?_
         rotate_left
         ·intro w'
          go_simp
          with_reducible rfl
         rotate_left
         ·simp only [Act.put, List.setIfInBounds_toArray, List.set_cons_zero, List.set_cons_succ, i64_w, i32_w]
          rfl
         refine done_ (done_of HT_.out (by kernel_rfl)) ?_
         try go_wp2
         go_meet
         case rel => exact ⟨_, ((!(t132 == t108) || (!(t133 == t109) || (!(t134 == t110) || (!(t135 == t111)))))), (by first | rfl | (simp; done) | (simp [*]; done)), H', ⟨by have := HJ4.out; have := HJ34.out; first | omega | exact Nat.le_refl _⟩, ⟨by (with_reducible repeat (first | refine blk_drewN ?_ _ | refine blk_drew ?_ | refine blk_alloc ?_ _)); exact BK105.out⟩, ⟨by (with_reducible repeat (first | refine blk_drewN ?_ _ | refine blk_drew ?_ | refine blk_alloc ?_ _)); exact BK106.out⟩, ⟨by (with_reducible repeat (first | refine blk_drewN ?_ _ | refine blk_drew ?_ | refine blk_alloc ?_ _)); exact BK107.out⟩, ⟨by (with_reducible repeat (first | refine blk_drewN ?_ _ | refine blk_drew ?_ | refine blk_alloc ?_ _)); exact BK112.out⟩, ⟨by (with_reducible repeat (first | refine blk_drewN ?_ _ | refine blk_drew ?_ | refine blk_alloc ?_ _)); exact BK127.out⟩, ⟨by (with_reducible repeat (first | refine blk_drewN ?_ _ | refine blk_drew ?_ | refine blk_alloc ?_ _)); exact BK128.out⟩, ⟨by repeat (first | (with_reducible first | exact HB.out | apply below_alloc | apply pw_below_drewN | apply below_drew1 | refine below_set ?_ GE105.out | refine below_set ?_ GE106.out | refine below_set ?_ GE107.out | refine below_set ?_ GE112.out | refine below_set ?_ GE127.out | refine below_set ?_ GE128.out) | exact HB.out)⟩⟩
       case rest =>
        clear HC73
        try clear c53
        try clear c53b0
        try clear c53b1
        try clear c54
        try clear c54b0
        try clear c54b1
        try clear c72
        try clear c75
        try clear c75b0
        try clear c75b1
        obtain ⟨kq, x62_72, rfl, HA, HJ72, BK105, BK106, BK107, BK112, BK127, BK128, HB⟩ := hcut
        cases kq with
        | zero => exact absurd HA.out (by simp [rillbedlaw07_MetaOrder.j2])
        | succ kj72 =>
         have H := HA.out
         clear HA
         simp only [rillbedlaw07_MetaOrder.j2] at H
         by_cases c82 : x62_72 = true
         ·subst c82
          have H1 : (some false) = some true := by rw [if_pos rfl] at H; exact H
          clear H
          have H := H1
          clear H1
          exact absurd (Option.some.inj H) (by decide)
         ·replace c82 := Bool.eq_false_iff.mpr c82
          subst c82
          have H1 : ((rillbedlaw07_part.f a1_0 a1_1 a1_2 a1_3).bind fun t136 => (if t136 = 1 then ((rillbedlaw07_part.f a1_0 a1_1 a1_2 a1_3).bind fun t137 => (if t137 = 2 then ((rillbedlaw07_part.f a1_0 a1_1 a1_2 a1_3).bind fun t138 => (if t138 = 3 then ((rillbedlaw07_awake.f).bind fun t139 => (some t139)) else (if t111 = a0_3 then ((rillbedlaw07_awake.f).bind fun t140 => (some t140)) else (some false)))) else (if t110 = a0_2 then ((rillbedlaw07_part.f a1_0 a1_1 a1_2 a1_3).bind fun t141 => (if t141 = 3 then ((rillbedlaw07_awake.f).bind fun t142 => (some t142)) else (if t111 = a0_3 then ((rillbedlaw07_awake.f).bind fun t143 => (some t143)) else (some false)))) else (some false)))) else (if t109 = a0_1 then ((rillbedlaw07_part.f a1_0 a1_1 a1_2 a1_3).bind fun t144 => (if t144 = 2 then ((rillbedlaw07_part.f a1_0 a1_1 a1_2 a1_3).bind fun t145 => (if t145 = 3 then ((rillbedlaw07_awake.f).bind fun t146 => (some t146)) else (if t111 = a0_3 then ((rillbedlaw07_awake.f).bind fun t147 => (some t147)) else (some false)))) else (if t110 = a0_2 then ((rillbedlaw07_part.f a1_0 a1_1 a1_2 a1_3).bind fun t148 => (if t148 = 3 then ((rillbedlaw07_awake.f).bind fun t149 => (some t149)) else (if t111 = a0_3 then ((rillbedlaw07_awake.f).bind fun t150 => (some t150)) else (some false)))) else (some false)))) else (some false)))) = some true := by rw [if_neg (show ¬ (false = true) by decide)] at H; exact H
          clear H
          have H := H1
          clear H1
          replace H := Option.bind_eq_some_iff.mp H
          obtain ⟨t136, A830, H⟩ := H
          replace H : (if t136 = 1 then ((rillbedlaw07_part.f a1_0 a1_1 a1_2 a1_3).bind fun t137 => (if t137 = 2 then ((rillbedlaw07_part.f a1_0 a1_1 a1_2 a1_3).bind fun t138 => (if t138 = 3 then ((rillbedlaw07_awake.f).bind fun t139 => (some t139)) else (if t111 = a0_3 then ((rillbedlaw07_awake.f).bind fun t140 => (some t140)) else (some false)))) else (if t110 = a0_2 then ((rillbedlaw07_part.f a1_0 a1_1 a1_2 a1_3).bind fun t141 => (if t141 = 3 then ((rillbedlaw07_awake.f).bind fun t142 => (some t142)) else (if t111 = a0_3 then ((rillbedlaw07_awake.f).bind fun t143 => (some t143)) else (some false)))) else (some false)))) else (if t109 = a0_1 then ((rillbedlaw07_part.f a1_0 a1_1 a1_2 a1_3).bind fun t144 => (if t144 = 2 then ((rillbedlaw07_part.f a1_0 a1_1 a1_2 a1_3).bind fun t145 => (if t145 = 3 then ((rillbedlaw07_awake.f).bind fun t146 => (some t146)) else (if t111 = a0_3 then ((rillbedlaw07_awake.f).bind fun t147 => (some t147)) else (some false)))) else (if t110 = a0_2 then ((rillbedlaw07_part.f a1_0 a1_1 a1_2 a1_3).bind fun t148 => (if t148 = 3 then ((rillbedlaw07_awake.f).bind fun t149 => (some t149)) else (if t111 = a0_3 then ((rillbedlaw07_awake.f).bind fun t150 => (some t150)) else (some false)))) else (some false)))) else (some false))) = some true := H
          have A83 := Aside0.mk A830
          clear A830
          have hA_ : partF a1_0 a1_1 a1_2 a1_3 = some t136 := A83.out
          have hz_ := partF_cases hA_
          clear hA_
          have hB_ := A83.out
          simp only [hB_, Option.bind_some, rillbedlaw07_awake.f] at H
          clear hB_
          have hnb90 := NB106_105.out
          have hnc90 := NB105_106.out
          have hnb91 := NB106_107.out
          have hnc91 := NB107_106.out
          have hnb92 := NB106_112.out
          have hnc92 := NB112_106.out
          have hnb93 := NB106_127.out
          have hnc93 := NB127_106.out
          have hnb94 := NB106_128.out
          have hnc94 := NB128_106.out
          have hcz95_0 : wc.cell? ⟨gb106, 0, none⟩ = some (.int .u8 a1_0) := (blk_cell BK106.out 0).trans rfl
          have hcz95_1 : wc.cell? ⟨gb106, 1, none⟩ = some (.int .u64 a1_1) := (blk_cell BK106.out 1).trans rfl
          have hcz95_2 : wc.cell? ⟨gb106, 2, none⟩ = some (.int .u8 a1_2) := (blk_cell BK106.out 2).trans rfl
          have hcz95_3 : wc.cell? ⟨gb106, 3, none⟩ = some (.int .u64 a1_3) := (blk_cell BK106.out 3).trans rfl
          have hfz95_0 := blk_frozen BK106.out 0
          have hfz95_1 := blk_frozen BK106.out 1
          have hfz95_2 := blk_frozen BK106.out 2
          have hfz95_3 := blk_frozen BK106.out 3
          have hAw_ : rillbedlaw07_awake.f = some true := rfl
          have hy_ : (t136 = 1 ∧ t110 = a0_2 ∧ t111 = a0_3) ∨ (t136 = 2 ∧ t109 = a0_1 ∧ t111 = a0_3) ∨ (t136 = 3 ∧ t109 = a0_1 ∧ t110 = a0_2) := by
           rcases hz_ with h_ | h_ | h_
           ·by_cases q1 : t110 = a0_2
            ·by_cases q2 : t111 = a0_3
             ·exact .inl ⟨h_, q1, q2⟩
             ·simp [h_, q1, q2] at H
            ·simp [h_, q1] at H
           ·by_cases q1 : t109 = a0_1
            ·by_cases q2 : t111 = a0_3
             ·exact .inr (.inl ⟨h_, q1, q2⟩)
             ·simp [h_, q1, q2] at H
            ·simp [h_, q1] at H
           ·by_cases q1 : t109 = a0_1
            ·by_cases q2 : t110 = a0_2
             ·exact .inr (.inr ⟨h_, q1, q2⟩)
             ·simp [h_, q1, q2] at H
            ·simp [h_, q1] at H
          clear H hz_
          rcases hy_ with ⟨rfl, h1_, h2_⟩ | ⟨rfl, h1_, h2_⟩ | ⟨rfl, h1_, h2_⟩
          all_goals have hu1_ := beq_iff_eq.mpr h1_
          all_goals have hv1_ := bne_eq_false_iff_eq.mpr h1_
          all_goals have hu2_ := beq_iff_eq.mpr h2_
          all_goals have hv2_ := bne_eq_false_iff_eq.mpr h2_
          all_goals clear h1_ h2_
          all_goals go_wp2_with (first | ((with_reducible refine gate_callee (f := 48) rfl ?_); refine goesL_ (some 64) rfl rfl Try.func48 (by kernel_rfl) rfl #[.agg #[.int .u8 a1_0, .int .u64 a1_1, .int .u8 a1_2, .int .u64 a1_3]] rfl (by (try simp only [List.map_toArray, List.map_cons, List.map_nil]); first | done | rfl | (simp only [List.length_drop, List.length_take]; rfl)) ?_; (with_reducible refine (rillbedlaw07_part.calls a1_0 a1_1 a1_2 a1_3 _ _ A83.out).mono ?_); rintro e w96 ⟨rfl, hb⟩; refine ⟨_, rfl, ?_⟩; have n0_ := n_blk BK105 hb; have n1_ := n_blk BK106 hb; have n2_ := n_blk BK107 hb; have n3_ := n_blk BK112 hb; have n4_ := n_blk BK127 hb; have n5_ := n_blk BK128 hb; have n6_ := Aside0.mk (below_step (n_hb HB) hb); clear BK105; clear BK106; clear BK107; clear BK112; clear BK127; clear BK128; clear HB; have BK105 := n0_; have BK106 := n1_; have BK107 := n2_; have BK112 := n3_; have BK127 := n4_; have BK128 := n5_; have HB := n6_; clear n0_ n1_ n2_ n3_ n4_ n5_ n6_; (try clear hb); (try clear hb2); (try clear hk); (try clear hi); have hcz97_0 : w96.cell? ⟨gb106, 0, none⟩ = some (.int .u8 a1_0) := (blk_cell BK106.out 0).trans rfl; have hcz97_1 : w96.cell? ⟨gb106, 1, none⟩ = some (.int .u64 a1_1) := (blk_cell BK106.out 1).trans rfl; have hcz97_2 : w96.cell? ⟨gb106, 2, none⟩ = some (.int .u8 a1_2) := (blk_cell BK106.out 2).trans rfl; have hcz97_3 : w96.cell? ⟨gb106, 3, none⟩ = some (.int .u64 a1_3) := (blk_cell BK106.out 3).trans rfl; have hfz97_0 := blk_frozen BK106.out 0; have hfz97_1 := blk_frozen BK106.out 1; have hfz97_2 := blk_frozen BK106.out 2; have hfz97_3 := blk_frozen BK106.out 3; have hca105_1 : w96.cell? ⟨gb105, 1, none⟩ = some (.int .u32 a0_1) := (blk_cell BK105.out 1).trans rfl; have hcf105_1 := blk_frozen BK105.out 1; have hca105_2 : w96.cell? ⟨gb105, 2, none⟩ = some (.int .u64 a0_2) := (blk_cell BK105.out 2).trans rfl; have hcf105_2 := blk_frozen BK105.out 2; have hca105_3 : w96.cell? ⟨gb105, 3, none⟩ = some (.int .u64 a0_3) := (blk_cell BK105.out 3).trans rfl; have hcf105_3 := blk_frozen BK105.out 3; have hca112_1 : w96.cell? ⟨gb112, 1, none⟩ = some (.int .u32 t109) := (blk_cell BK112.out 1).trans rfl; have hcf112_1 := blk_frozen BK112.out 1; have hca112_2 : w96.cell? ⟨gb112, 2, none⟩ = some (.int .u64 t110) := (blk_cell BK112.out 2).trans rfl; have hcf112_2 := blk_frozen BK112.out 2; have hca112_3 : w96.cell? ⟨gb112, 3, none⟩ = some (.int .u64 t111) := (blk_cell BK112.out 3).trans rfl; have hcf112_3 := blk_frozen BK112.out 3) | (go_at_call 48; (with_reducible refine (rillbedlaw07_part.calls a1_0 a1_1 a1_2 a1_3 _ _ A83.out).mono ?_); rintro e w98 ⟨rfl, hb⟩; have n0_ := n_blk BK105 hb; have n1_ := n_blk BK106 hb; have n2_ := n_blk BK107 hb; have n3_ := n_blk BK112 hb; have n4_ := n_blk BK127 hb; have n5_ := n_blk BK128 hb; have n6_ := Aside0.mk (below_step (n_hb HB) hb); clear BK105; clear BK106; clear BK107; clear BK112; clear BK127; clear BK128; clear HB; have BK105 := n0_; have BK106 := n1_; have BK107 := n2_; have BK112 := n3_; have BK127 := n4_; have BK128 := n5_; have HB := n6_; clear n0_ n1_ n2_ n3_ n4_ n5_ n6_; (try clear hb); (try clear hb2); (try clear hk); (try clear hi); have hcz99_0 : w98.cell? ⟨gb106, 0, none⟩ = some (.int .u8 a1_0) := (blk_cell BK106.out 0).trans rfl; have hcz99_1 : w98.cell? ⟨gb106, 1, none⟩ = some (.int .u64 a1_1) := (blk_cell BK106.out 1).trans rfl; have hcz99_2 : w98.cell? ⟨gb106, 2, none⟩ = some (.int .u8 a1_2) := (blk_cell BK106.out 2).trans rfl; have hcz99_3 : w98.cell? ⟨gb106, 3, none⟩ = some (.int .u64 a1_3) := (blk_cell BK106.out 3).trans rfl; have hfz99_0 := blk_frozen BK106.out 0; have hfz99_1 := blk_frozen BK106.out 1; have hfz99_2 := blk_frozen BK106.out 2; have hfz99_3 := blk_frozen BK106.out 3; have hca105_1 : w98.cell? ⟨gb105, 1, none⟩ = some (.int .u32 a0_1) := (blk_cell BK105.out 1).trans rfl; have hcf105_1 := blk_frozen BK105.out 1; have hca105_2 : w98.cell? ⟨gb105, 2, none⟩ = some (.int .u64 a0_2) := (blk_cell BK105.out 2).trans rfl; have hcf105_2 := blk_frozen BK105.out 2; have hca105_3 : w98.cell? ⟨gb105, 3, none⟩ = some (.int .u64 a0_3) := (blk_cell BK105.out 3).trans rfl; have hcf105_3 := blk_frozen BK105.out 3; have hca112_1 : w98.cell? ⟨gb112, 1, none⟩ = some (.int .u32 t109) := (blk_cell BK112.out 1).trans rfl; have hcf112_1 := blk_frozen BK112.out 1; have hca112_2 : w98.cell? ⟨gb112, 2, none⟩ = some (.int .u64 t110) := (blk_cell BK112.out 2).trans rfl; have hcf112_2 := blk_frozen BK112.out 2; have hca112_3 : w98.cell? ⟨gb112, 3, none⟩ = some (.int .u64 t111) := (blk_cell BK112.out 3).trans rfl; have hcf112_3 := blk_frozen BK112.out 3) | (go_at_call 39; (with_reducible refine (rillbedlaw07_awake.calls true _ hAw_).mono ?_); rintro e w101 ⟨rfl, hb⟩; have n0_ := n_blk BK105 hb; have n1_ := n_blk BK106 hb; have n2_ := n_blk BK107 hb; have n3_ := n_blk BK112 hb; have n4_ := n_blk BK127 hb; have n5_ := n_blk BK128 hb; have n6_ := Aside0.mk (below_step (n_hb HB) hb); clear BK105; clear BK106; clear BK107; clear BK112; clear BK127; clear BK128; clear HB; have BK105 := n0_; have BK106 := n1_; have BK107 := n2_; have BK112 := n3_; have BK127 := n4_; have BK128 := n5_; have HB := n6_; clear n0_ n1_ n2_ n3_ n4_ n5_ n6_; (try clear hb); (try clear hb2); (try clear hk); (try clear hi)))
          all_goals go_ret
          all_goals exact ⟨by first | rfl | (simp [errW_none, errW_some] <;> rfl) | (simp [*, errW_none, errW_some] <;> rfl), by repeat (first | (with_reducible first | exact HB.out | apply below_alloc | apply pw_below_drewN | apply below_drew1 | refine below_set ?_ GE105.out | refine below_set ?_ GE106.out | refine below_set ?_ GE107.out | refine below_set ?_ GE112.out | refine below_set ?_ GE127.out | refine below_set ?_ GE128.out) | exact HB.out)⟩

end Go.Proofs.Ytniblmpihnhglaa.Q
