-- Printed by a copy of the print program over stub bodies; what stood in the stubs' place is hand-made (post.py)
import Derived.Test.YthafpbidfgmacaaDoorQRangesF
import Derived.Test.YthafpbidfgmacaaDoorQ0
import Derived.Test.YthafpbidfgmacaaDoorQA
import Derived.Test.YthafpbidfgmacaaDoorQC
import Derived.Test.YthafpbidfgmacaaDoorQD
import Derived.Test.YthafpbidfgmacaaDoorQE
import Derived.Test.YthafpbidfgmacaaDoorQH
import Derived.Test.YthafpbidfgmacaaDoorQM
import Derived.Test.YthafpbidfgmacaaDoorQkeyBlock
import Derived.Test.YthafpbidfgmacaaDoorQrillbedlaw06few
import Derived.Test.YthafpbidfgmacaaDoorQrillbedlaw06works
namespace Go.Proofs.YthafpbidfgmacaaDoor.Q
open Go.RowKit Go.Proofs.YthafpbidfgmacaaDoorW.PrintWords Go.Proofs.YthafpbidfgmacaaDoorW.PrintLast Go.Proofs.YthafpbidfgmacaaDoorW.PrintMore
attribute [local go_sem] max2_int min2_int max_two min_two max_three min_three max_four min_four   -- for this text's walks alone
set_option linter.unusedVariables false
set_option linter.unusedSimpArgs false

set_option maxHeartbeats 60000000 in
set_option maxRecDepth 100000 in
theorem rillbedlaw06_KeyRanges.calls (k : Nat) (A0 : Option Addr) (c0 : Nat) (l0 : List ByteArray) (A1 : Option Addr) (c1 : Nat) (l1 : List ByteArray) (a2_0 : Int) (a2_1 : Int)  (w : World) (hr0 : Kd.C Kd.string w A0 l0.length l0) (hc0 : l0.length ≤ c0) (hr1 : Kd.C Kd.string w A1 l1.length l1) (hc1 : l1.length ≤ c1) (h : rillbedlaw06_KeyRanges.f k l0 l1 a2_0 a2_1 = some true) :
  Calls Tryd.prog 6 #[.slice A0 l0.length c0, .slice A1 l1.length c1, .agg #[.int .u8 a2_0, .int .u8 a2_1]] w fun e w' => e = .returned (.bool true) ∧ Below w.heap.size w w' := by
 have hu65 := Tryd.underlying65
 have hu49 := Tryd.underlying49
 have HR0 := Aside0.mk hr0
 have HC0 := Aside0.mk hc0
 clear hr0 hc0
 have HR1 := Aside0.mk hr1
 have HC1 := Aside0.mk hc1
 clear hr1 hc1
 have HB := Aside0.mk (Below.refl w.heap.size w)
 have H : ((rillbedlaw06_few.f k l0).bind fun t308 => (if t308 = true then ((rillbedlaw06_few.f k l1).bind fun t309 => (if t309 = true then ((key_Meta.f k l0).bind fun t310 => (if t310.toList = ([] : List UInt8) then (rillbedlaw06_KeyRanges.j0 k l0 l1 true a2_0 a2_1) else ((key_Meta.f k l1).bind fun t311 => (rillbedlaw06_KeyRanges.j0 k l0 l1 (t311.toList == ([] : List UInt8)) a2_0 a2_1)))) else (rillbedlaw06_KeyRanges.j0 k l0 l1 true a2_0 a2_1))) else (rillbedlaw06_KeyRanges.j0 k l0 l1 true a2_0 a2_1))) = some true := h
 clear h
 have HC4 := Aside0.mk H
 clear H
 go_enter Tryd.func6, Tryd.ntmps6
 go_upto_region 1 with (first | ((with_reducible refine gate_dst (N := 5) rfl ?_); refine box_event ?hg (N := 5) ?hd (cs := #[.int .u8 a2_0, .int .u8 a2_1]) (t := 65) ?hr ?_; (case hd => rfl); (case hg => rfl); (case hr => first | (go_simp; done) | (go_simp; rfl)); intro gb307 hg w5 hbox hb; have n0_ := Aside0.mk (below_step (by repeat (first | (with_reducible first | exact HB.out | apply below_alloc | apply pw_below_drewN | apply below_drew1) | exact HB.out)) hb); have n1_ := Aside0.mk (hbox); have n2_ := Aside0.mk ((by rw [hg]; exact (below_size (by repeat (first | (with_reducible first | exact HB.out | apply below_alloc | apply pw_below_drewN | apply below_drew1) | exact HB.out))) : w.heap.size ≤ gb307)); have n3_ := Aside0.mk ((by rw [hg]; exact (below_size (by repeat (first | (with_reducible first | exact HB.out | apply below_alloc | apply pw_below_drewN | apply below_drew1) | exact HB.out))) : w.heap.size ≤ gb307)); clear HB; have HB := n0_; have BK307 := n1_; have GW307 := n2_; have GE307 := n3_; clear n0_ n1_ n2_ n3_; clear hb hbox hg))
 (try simp only [Act.put, List.setIfInBounds_toArray, List.set_cons_zero, List.set_cons_succ])
 go_cut [32] (fun v32 wc => ∃ (kq : Nat) (x32_3 : Bool), v32 = .bool x32_3 ∧ Aside0 (rillbedlaw06_KeyRanges.j0 kq l0 l1 x32_3 a2_0 a2_1 = some true) ∧ Aside0 (kq ≤ k) ∧ Aside0 (wc.heap[gb307]? = some (.cells #[.int .u8 a2_0, .int .u8 a2_1] 65 (0, 0))) ∧ Aside0 (Below w.heap.size w wc))
 case first =>
  have H := HC4.out
  clear HC4
  replace H := Option.bind_eq_some_iff.mp H
  obtain ⟨t308, A60, H⟩ := H
  replace H : (if t308 = true then ((rillbedlaw06_few.f k l1).bind fun t309 => (if t309 = true then ((key_Meta.f k l0).bind fun t310 => (if t310.toList = ([] : List UInt8) then (rillbedlaw06_KeyRanges.j0 k l0 l1 true a2_0 a2_1) else ((key_Meta.f k l1).bind fun t311 => (rillbedlaw06_KeyRanges.j0 k l0 l1 (t311.toList == ([] : List UInt8)) a2_0 a2_1)))) else (rillbedlaw06_KeyRanges.j0 k l0 l1 true a2_0 a2_1))) else (rillbedlaw06_KeyRanges.j0 k l0 l1 true a2_0 a2_1)) = some true := H
  have A6 := Aside0.mk A60
  clear A60
  by_cases c7 : t308 = true
  ·subst c7
   have H1 : ((rillbedlaw06_few.f k l1).bind fun t309 => (if t309 = true then ((key_Meta.f k l0).bind fun t310 => (if t310.toList = ([] : List UInt8) then (rillbedlaw06_KeyRanges.j0 k l0 l1 true a2_0 a2_1) else ((key_Meta.f k l1).bind fun t311 => (rillbedlaw06_KeyRanges.j0 k l0 l1 (t311.toList == ([] : List UInt8)) a2_0 a2_1)))) else (rillbedlaw06_KeyRanges.j0 k l0 l1 true a2_0 a2_1))) = some true := by rw [if_pos rfl] at H; exact H
   clear H
   have H := H1
   clear H1
   replace H := Option.bind_eq_some_iff.mp H
   obtain ⟨t309, A80, H⟩ := H
   replace H : (if t309 = true then ((key_Meta.f k l0).bind fun t310 => (if t310.toList = ([] : List UInt8) then (rillbedlaw06_KeyRanges.j0 k l0 l1 true a2_0 a2_1) else ((key_Meta.f k l1).bind fun t311 => (rillbedlaw06_KeyRanges.j0 k l0 l1 (t311.toList == ([] : List UInt8)) a2_0 a2_1)))) else (rillbedlaw06_KeyRanges.j0 k l0 l1 true a2_0 a2_1)) = some true := H
   have A8 := Aside0.mk A80
   clear A80
   by_cases c9 : t309 = true
   ·subst c9
    have H1 : ((key_Meta.f k l0).bind fun t310 => (if t310.toList = ([] : List UInt8) then (rillbedlaw06_KeyRanges.j0 k l0 l1 true a2_0 a2_1) else ((key_Meta.f k l1).bind fun t311 => (rillbedlaw06_KeyRanges.j0 k l0 l1 (t311.toList == ([] : List UInt8)) a2_0 a2_1)))) = some true := by rw [if_pos rfl] at H; exact H
    clear H
    have H := H1
    clear H1
    replace H := Option.bind_eq_some_iff.mp H
    obtain ⟨t310, A100, H⟩ := H
    replace H : (if t310.toList = ([] : List UInt8) then (rillbedlaw06_KeyRanges.j0 k l0 l1 true a2_0 a2_1) else ((key_Meta.f k l1).bind fun t311 => (rillbedlaw06_KeyRanges.j0 k l0 l1 (t311.toList == ([] : List UInt8)) a2_0 a2_1))) = some true := H
    have A10 := Aside0.mk A100
    clear A100
    by_cases c11 : t310.toList = ([] : List UInt8)
    ·rw [if_pos c11] at H
     have c11b0 : (t310.toList == ([] : List UInt8)) = true := beq_iff_eq.mpr c11
     have c11b1 : (t310.toList != ([] : List UInt8)) = false := bne_eq_false_iff_eq.mpr c11
     clear c11
     (first | rw [c11b0] | (simp only [i64_w, i32_w]; rw [c11b0]) | skip)
     have H' := Aside0.mk H
     clear H
     go_wp2_with (first | ((with_reducible refine gate_callee (f := 41) rfl ?_); refine goesL_ (some 16) rfl rfl Tryd.func41 (by kernel_rfl) rfl #[.slice A0 l0.length c0] rfl (by (try simp only [List.map_toArray, List.map_cons, List.map_nil]); first | done | rfl | (simp only [List.length_drop, List.length_take]; rfl)) ?_; (with_reducible refine (rillbedlaw06_few.calls k _ _ l0 true _ ?side1 ?side2 A6.out).mono ?_); (case side1 => repeat (first | exact (Kd.C_below HR0.out HB.out) | (with_reducible refine Kd.C_alloc ?_ _) | (with_reducible refine Kd.C_drewN ?_ _) | (with_reducible refine Kd.C_drew ?_))); (case side2 => exact HC0.out); rintro e w' ⟨rfl, ⟨nd, rfl⟩⟩; refine ⟨_, rfl, ?_⟩) | (go_at_call 41; (with_reducible refine (rillbedlaw06_few.calls k _ _ l1 true _ ?side1 ?side2 A8.out).mono ?_); (case side1 => repeat (first | exact (Kd.C_below HR1.out (by repeat (first | (with_reducible first | exact HB.out | apply below_alloc | apply pw_below_drewN | apply below_drew1 | refine below_set ?_ GE307.out) | exact HB.out))) | (with_reducible refine Kd.C_alloc ?_ _) | (with_reducible refine Kd.C_drewN ?_ _) | (with_reducible refine Kd.C_drew ?_))); (case side2 => exact HC1.out); rintro e w' ⟨rfl, ⟨nd, rfl⟩⟩) | (go_at_call 28; (with_reducible refine (key_Meta.calls k _ _ l0 t310 _ ?side1 ?side2 A10.out).mono ?_); (case side1 => repeat (first | exact (Kd.C_below HR0.out (by repeat (first | (with_reducible first | exact HB.out | apply below_alloc | apply pw_below_drewN | apply below_drew1 | refine below_set ?_ GE307.out) | exact HB.out))) | (with_reducible refine Kd.C_alloc ?_ _) | (with_reducible refine Kd.C_drewN ?_ _) | (with_reducible refine Kd.C_drew ?_))); (case side2 => exact HC0.out); rintro e w12 ⟨rfl, hb⟩; have n0_ := Aside0.mk (blk_below (g := gb307) (o := .cells #[.int .u8 a2_0, .int .u8 a2_1] 65 (0, 0)) (by (with_reducible repeat (first | refine blk_drewN ?_ _ | refine blk_drew ?_ | refine blk_alloc ?_ _)); exact BK307.out) hb); have n1_ := Aside0.mk (below_step (by repeat (first | (with_reducible first | exact HB.out | apply below_alloc | apply pw_below_drewN | apply below_drew1 | refine below_set ?_ GE307.out) | exact HB.out)) hb); clear BK307; clear HB; have BK307 := n0_; have HB := n1_; clear n0_ n1_; (try clear hb); (try clear hb2); (try clear hk); (try clear hi)))
     go_meet
     case rel => exact ⟨_, (true), (by first | rfl | (simp; done) | (simp [*]; done)), H', ⟨by first | omega | exact Nat.le_refl _⟩, ⟨by (with_reducible repeat (first | refine blk_drewN ?_ _ | refine blk_drew ?_ | refine blk_alloc ?_ _)); exact BK307.out⟩, ⟨by repeat (first | (with_reducible first | exact HB.out | apply below_alloc | apply pw_below_drewN | apply below_drew1 | refine below_set ?_ GE307.out) | exact HB.out)⟩⟩
    ·rw [if_neg c11] at H
     have c11b0 : (t310.toList == ([] : List UInt8)) = false := beq_eq_false_iff_ne.mpr c11
     have c11b1 : (t310.toList != ([] : List UInt8)) = true := bne_iff_ne.mpr c11
     (first | rw [c11b0] | (simp only [i64_w, i32_w]; rw [c11b0]) | skip)
     replace H := Option.bind_eq_some_iff.mp H
     obtain ⟨t311, A130, H⟩ := H
     replace H : (rillbedlaw06_KeyRanges.j0 k l0 l1 (t311.toList == ([] : List UInt8)) a2_0 a2_1) = some true := H
     have A13 := Aside0.mk A130
     clear A130
     have H' := Aside0.mk H
     clear H
     go_wp2_with (first | ((with_reducible refine gate_callee (f := 41) rfl ?_); refine goesL_ (some 16) rfl rfl Tryd.func41 (by kernel_rfl) rfl #[.slice A0 l0.length c0] rfl (by (try simp only [List.map_toArray, List.map_cons, List.map_nil]); first | done | rfl | (simp only [List.length_drop, List.length_take]; rfl)) ?_; (with_reducible refine (rillbedlaw06_few.calls k _ _ l0 true _ ?side1 ?side2 A6.out).mono ?_); (case side1 => repeat (first | exact (Kd.C_below HR0.out HB.out) | (with_reducible refine Kd.C_alloc ?_ _) | (with_reducible refine Kd.C_drewN ?_ _) | (with_reducible refine Kd.C_drew ?_))); (case side2 => exact HC0.out); rintro e w' ⟨rfl, ⟨nd, rfl⟩⟩; refine ⟨_, rfl, ?_⟩) | (go_at_call 41; (with_reducible refine (rillbedlaw06_few.calls k _ _ l1 true _ ?side1 ?side2 A8.out).mono ?_); (case side1 => repeat (first | exact (Kd.C_below HR1.out (by repeat (first | (with_reducible first | exact HB.out | apply below_alloc | apply pw_below_drewN | apply below_drew1 | refine below_set ?_ GE307.out) | exact HB.out))) | (with_reducible refine Kd.C_alloc ?_ _) | (with_reducible refine Kd.C_drewN ?_ _) | (with_reducible refine Kd.C_drew ?_))); (case side2 => exact HC1.out); rintro e w' ⟨rfl, ⟨nd, rfl⟩⟩) | (go_at_call 28; (with_reducible refine (key_Meta.calls k _ _ l0 t310 _ ?side1 ?side2 A10.out).mono ?_); (case side1 => repeat (first | exact (Kd.C_below HR0.out (by repeat (first | (with_reducible first | exact HB.out | apply below_alloc | apply pw_below_drewN | apply below_drew1 | refine below_set ?_ GE307.out) | exact HB.out))) | (with_reducible refine Kd.C_alloc ?_ _) | (with_reducible refine Kd.C_drewN ?_ _) | (with_reducible refine Kd.C_drew ?_))); (case side2 => exact HC0.out); rintro e w14 ⟨rfl, hb⟩; have n0_ := Aside0.mk (blk_below (g := gb307) (o := .cells #[.int .u8 a2_0, .int .u8 a2_1] 65 (0, 0)) (by (with_reducible repeat (first | refine blk_drewN ?_ _ | refine blk_drew ?_ | refine blk_alloc ?_ _)); exact BK307.out) hb); have n1_ := Aside0.mk (below_step (by repeat (first | (with_reducible first | exact HB.out | apply below_alloc | apply pw_below_drewN | apply below_drew1 | refine below_set ?_ GE307.out) | exact HB.out)) hb); clear BK307; clear HB; have BK307 := n0_; have HB := n1_; clear n0_ n1_; (try clear hb); (try clear hb2); (try clear hk); (try clear hi)) | (go_at_call 28; (with_reducible refine (key_Meta.calls k _ _ l1 t311 _ ?side1 ?side2 A13.out).mono ?_); (case side1 => repeat (first | exact (Kd.C_below HR1.out HB.out) | (with_reducible refine Kd.C_alloc ?_ _) | (with_reducible refine Kd.C_drewN ?_ _) | (with_reducible refine Kd.C_drew ?_))); (case side2 => exact HC1.out); rintro e w15 ⟨rfl, hb⟩; have n0_ := Aside0.mk (blk_below (g := gb307) (o := .cells #[.int .u8 a2_0, .int .u8 a2_1] 65 (0, 0)) (by (with_reducible repeat (first | refine blk_drewN ?_ _ | refine blk_drew ?_ | refine blk_alloc ?_ _)); exact BK307.out) hb); have n1_ := Aside0.mk (below_step (by repeat (first | (with_reducible first | exact HB.out | apply below_alloc | apply pw_below_drewN | apply below_drew1 | refine below_set ?_ GE307.out) | exact HB.out)) hb); clear BK307; clear HB; have BK307 := n0_; have HB := n1_; clear n0_ n1_; (try clear hb); (try clear hb2); (try clear hk); (try clear hi)))
     go_meet
     case rel => exact ⟨_, ((t311.toList == ([] : List UInt8))), (by first | rfl | (simp; done) | (simp [*]; done)), H', ⟨by first | omega | exact Nat.le_refl _⟩, ⟨by (with_reducible repeat (first | refine blk_drewN ?_ _ | refine blk_drew ?_ | refine blk_alloc ?_ _)); exact BK307.out⟩, ⟨by repeat (first | (with_reducible first | exact HB.out | apply below_alloc | apply pw_below_drewN | apply below_drew1 | refine below_set ?_ GE307.out) | exact HB.out)⟩⟩
   ·replace c9 := Bool.eq_false_iff.mpr c9
    subst c9
    have H1 : (rillbedlaw06_KeyRanges.j0 k l0 l1 true a2_0 a2_1) = some true := by rw [if_neg (show ¬ (false = true) by decide)] at H; exact H
    clear H
    have H := H1
    clear H1
    have H' := Aside0.mk H
    clear H
    go_wp2_with (first | ((with_reducible refine gate_callee (f := 41) rfl ?_); refine goesL_ (some 16) rfl rfl Tryd.func41 (by kernel_rfl) rfl #[.slice A0 l0.length c0] rfl (by (try simp only [List.map_toArray, List.map_cons, List.map_nil]); first | done | rfl | (simp only [List.length_drop, List.length_take]; rfl)) ?_; (with_reducible refine (rillbedlaw06_few.calls k _ _ l0 true _ ?side1 ?side2 A6.out).mono ?_); (case side1 => repeat (first | exact (Kd.C_below HR0.out HB.out) | (with_reducible refine Kd.C_alloc ?_ _) | (with_reducible refine Kd.C_drewN ?_ _) | (with_reducible refine Kd.C_drew ?_))); (case side2 => exact HC0.out); rintro e w' ⟨rfl, ⟨nd, rfl⟩⟩; refine ⟨_, rfl, ?_⟩) | (go_at_call 41; (with_reducible refine (rillbedlaw06_few.calls k _ _ l1 false _ ?side1 ?side2 A8.out).mono ?_); (case side1 => repeat (first | exact (Kd.C_below HR1.out (by repeat (first | (with_reducible first | exact HB.out | apply below_alloc | apply pw_below_drewN | apply below_drew1 | refine below_set ?_ GE307.out) | exact HB.out))) | (with_reducible refine Kd.C_alloc ?_ _) | (with_reducible refine Kd.C_drewN ?_ _) | (with_reducible refine Kd.C_drew ?_))); (case side2 => exact HC1.out); rintro e w' ⟨rfl, ⟨nd, rfl⟩⟩))
    go_meet
    case rel => exact ⟨_, (true), (by first | rfl | (simp; done) | (simp [*]; done)), H', ⟨by first | omega | exact Nat.le_refl _⟩, ⟨by (with_reducible repeat (first | refine blk_drewN ?_ _ | refine blk_drew ?_ | refine blk_alloc ?_ _)); exact BK307.out⟩, ⟨by repeat (first | (with_reducible first | exact HB.out | apply below_alloc | apply pw_below_drewN | apply below_drew1 | refine below_set ?_ GE307.out) | exact HB.out)⟩⟩
  ·replace c7 := Bool.eq_false_iff.mpr c7
   subst c7
   have H1 : (rillbedlaw06_KeyRanges.j0 k l0 l1 true a2_0 a2_1) = some true := by rw [if_neg (show ¬ (false = true) by decide)] at H; exact H
   clear H
   have H := H1
   clear H1
   have H' := Aside0.mk H
   clear H
   go_wp2_with (first | ((with_reducible refine gate_callee (f := 41) rfl ?_); refine goesL_ (some 16) rfl rfl Tryd.func41 (by kernel_rfl) rfl #[.slice A0 l0.length c0] rfl (by (try simp only [List.map_toArray, List.map_cons, List.map_nil]); first | done | rfl | (simp only [List.length_drop, List.length_take]; rfl)) ?_; (with_reducible refine (rillbedlaw06_few.calls k _ _ l0 false _ ?side1 ?side2 A6.out).mono ?_); (case side1 => repeat (first | exact (Kd.C_below HR0.out HB.out) | (with_reducible refine Kd.C_alloc ?_ _) | (with_reducible refine Kd.C_drewN ?_ _) | (with_reducible refine Kd.C_drew ?_))); (case side2 => exact HC0.out); rintro e w' ⟨rfl, ⟨nd, rfl⟩⟩; refine ⟨_, rfl, ?_⟩))
   go_meet
   case rel => exact ⟨_, (true), (by first | rfl | (simp; done) | (simp [*]; done)), H', ⟨by first | omega | exact Nat.le_refl _⟩, ⟨by (with_reducible repeat (first | refine blk_drewN ?_ _ | refine blk_drew ?_ | refine blk_alloc ?_ _)); exact BK307.out⟩, ⟨by repeat (first | (with_reducible first | exact HB.out | apply below_alloc | apply pw_below_drewN | apply below_drew1 | refine below_set ?_ GE307.out) | exact HB.out)⟩⟩
 case rest =>
  clear HC4
  try clear c1
  try clear c7
  try clear c9
  try clear c11
  try clear c11b0
  try clear c11b1
  obtain ⟨kq, x32_3, rfl, HA, HJ3, BK307, HB⟩ := hcut
  cases kq with
  | zero => exact absurd HA.out (by simp [rillbedlaw06_KeyRanges.j0])
  | succ kj3 =>
   have H := HA.out
   clear HA
   simp only [rillbedlaw06_KeyRanges.j0] at H
   by_cases c16 : x32_3 = true
   ·subst c16
    have H1 : ((rillbedlaw06_works.f kj3).bind fun t312 => (some t312)) = some true := by rw [if_pos rfl] at H; exact H
    clear H
    have H := H1
    clear H1
    replace H := Option.bind_eq_some_iff.mp H
    obtain ⟨t312, A170, H⟩ := H
    replace H : (some t312) = some true := H
    have A17 := Aside0.mk A170
    clear A170
    obtain rfl := Option.some.inj H
    go_wp2_with (first | ((with_reducible refine gate_callee (f := 27) rfl ?_); refine goesL_ (some 33) rfl rfl Tryd.func27 (by kernel_rfl) rfl #[] rfl (by (try simp only [List.map_toArray, List.map_cons, List.map_nil]); first | done | rfl | (simp only [List.length_drop, List.length_take]; rfl)) ?_; (with_reducible refine (rillbedlaw06_works.calls kj3  true _ A17.out).mono ?_); rintro e w18 ⟨rfl, hb⟩; refine ⟨_, rfl, ?_⟩; have n0_ := Aside0.mk (blk_below (g := gb307) (o := .cells #[.int .u8 a2_0, .int .u8 a2_1] 65 (0, 0)) (by (with_reducible repeat (first | refine blk_drewN ?_ _ | refine blk_drew ?_ | refine blk_alloc ?_ _)); exact BK307.out) hb); have n1_ := Aside0.mk (below_step (by repeat (first | (with_reducible first | exact HB.out | apply below_alloc | apply pw_below_drewN | apply below_drew1 | refine below_set ?_ GE307.out) | exact HB.out)) hb); clear BK307; clear HB; have BK307 := n0_; have HB := n1_; clear n0_ n1_; (try clear hb); (try clear hb2); (try clear hk); (try clear hi)))
    go_ret
    exact ⟨by first | rfl | (simp [errW_none, errW_some] <;> rfl) | (simp [*, errW_none, errW_some] <;> rfl), by repeat (first | (with_reducible first | exact HB.out | apply below_alloc | apply pw_below_drewN | apply below_drew1 | refine below_set ?_ GE307.out) | exact HB.out)⟩
   ·replace c16 := Bool.eq_false_iff.mpr c16
    subst c16
    have H1 : ((key_Subtree.f kj3 l0).bind fun bt313 => ((rillbedlaw06_begins.f kj3 l1 l0).bind fun t319 => ((rillbedlaw06_begins.f kj3 l1 l0).bind fun t320 => (if t320 = true then ((rillbedlaw06_begins.f kj3 l0 l1).bind fun t321 => (rillbedlaw06_KeyRanges.j1 kj3 l0 l1 (wrap64 (Int.tmod a2_0 32)) (wrap64 (Int.tmod a2_1 32)) t319 t321 bt313.1 bt313.2.1 bt313.2.2.1 bt313.2.2.2)) else (rillbedlaw06_KeyRanges.j1 kj3 l0 l1 (wrap64 (Int.tmod a2_0 32)) (wrap64 (Int.tmod a2_1 32)) t319 false bt313.1 bt313.2.1 bt313.2.2.1 bt313.2.2.2))))) = some true := by rw [if_neg (show ¬ (false = true) by decide)] at H; exact H
    clear H
    have H := H1
    clear H1
    replace H := Option.bind_eq_some_iff.mp H
    obtain ⟨⟨t313, t314, t315, t316⟩, A190, H⟩ := H
    replace H : ((rillbedlaw06_begins.f kj3 l1 l0).bind fun t319 => ((rillbedlaw06_begins.f kj3 l1 l0).bind fun t320 => (if t320 = true then ((rillbedlaw06_begins.f kj3 l0 l1).bind fun t321 => (rillbedlaw06_KeyRanges.j1 kj3 l0 l1 (wrap64 (Int.tmod a2_0 32)) (wrap64 (Int.tmod a2_1 32)) t319 t321 t313 t314 t315 t316)) else (rillbedlaw06_KeyRanges.j1 kj3 l0 l1 (wrap64 (Int.tmod a2_0 32)) (wrap64 (Int.tmod a2_1 32)) t319 false t313 t314 t315 t316)))) = some true := H
    have A19 := Aside0.mk A190
    clear A190
    have HC20 := Aside0.mk H
    clear H
    try go_wp2
    have n0_ := Aside0.mk (blk_drew BK307.out)
    have n1_ := Aside0.mk (below_drew1 HB.out)
    clear BK307
    clear HB
    have BK307 := n0_
    have HB := n1_
    clear n0_ n1_
    refine start_ (n := 10) (S := fun w' => w'.cell? ⟨gb307, 0, none⟩ = some (.int .u8 a2_0) ∧ w'.cell? ⟨gb307, 1, none⟩ = some (.int .u8 a2_1)) (ds := []) #[false, false, false, false, false, false, false, false, false, false] (by kernel_rfl) rfl rfl ⟨(blk_cell BK307.out 0).trans rfl, (blk_cell BK307.out 1).trans rfl⟩ (fun hHeld => ?_); refine with_tabW rillbedlaw06_KeyRanges.tab3 rillbedlaw06_KeyRanges.bits3 (fun HT_ HW_ => ?_)
    generalize wc.drew = w21 at BK307 HB hHeld ⊢
    refine pure_ (i := 0) (N := some 34) (v := ?_) (a' := ?_) #[true, false, false, false, false, false, false, false, false, false] rfl rfl (any_of HT_.out (by kernel_rfl)) (fun _ _ _ h => h) (Or.inl ⟨by rfl, ?_⟩) ?_ ?_
    rotate_left
    ·intro w'
     go_simp
     with_reducible rfl
    rotate_left
    ·simp only [Act.put, List.setIfInBounds_toArray, List.set_cons_zero, List.set_cons_succ, i64_w, i32_w]
     rfl
    refine pure_ (i := 4) (N := some 38) (v := ?_) (a' := ?_) #[true, false, false, false, true, false, false, false, false, false] rfl rfl (any_of HT_.out (by kernel_rfl)) (fun _ _ _ h => h) (Or.inl ⟨by rfl, ?_⟩) ?_ ?_
    rotate_left
    ·intro w'
     go_simp
     with_reducible rfl
    rotate_left
    ·simp only [Act.put, List.setIfInBounds_toArray, List.set_cons_zero, List.set_cons_succ, i64_w, i32_w]
     rfl
    refine take_ (i := 1) (N := some 35) (v := ?_) (a' := ?_) #[true, true, false, false, true, false, false, false, false, false] rfl rfl (take_ofW HT_.out HW_.out (by kernel_rfl)) (fun _ _ _ h => h) (Or.inl ⟨by rfl, ?_⟩) hHeld ?_ ?_
    rotate_left
    ·rintro w' ⟨s0, s1⟩
     go_simp
     with_reducible rfl
    rotate_left
    ·simp only [Act.put, List.setIfInBounds_toArray, List.set_cons_zero, List.set_cons_succ, i64_w, i32_w]
     rfl
    refine pure_ (i := 2) (N := some 36) (v := ?_) (a' := ?_) #[true, true, true, false, true, false, false, false, false, false] rfl rfl (any_of HT_.out (by kernel_rfl)) (fun _ _ _ h => h) (Or.inl ⟨by rfl, ?_⟩) ?_ ?_
    rotate_left
    ·intro w'
     go_simp
     with_reducible rfl
    rotate_left
    ·simp only [Act.put, List.setIfInBounds_toArray, List.set_cons_zero, List.set_cons_succ, i64_w, i32_w]
     rfl
    refine pure_ (i := 3) (N := some 37) (v := ?_) (a' := ?_) #[true, true, true, true, true, false, false, false, false, false] rfl rfl (any_of HT_.out (by kernel_rfl)) (fun _ _ _ h => h) (Or.inl ⟨by rfl, ?_⟩) ?_ ?_
    rotate_left
    ·intro w'
     go_simp
     with_reducible rfl
    rotate_left
    ·simp only [Act.put, List.setIfInBounds_toArray, List.set_cons_zero, List.set_cons_succ, i64_w, i32_w]
     rfl
    refine pure_ (i := 8) (N := some 7) (v := ?_) (a' := ?_) #[true, true, true, true, true, false, false, false, true, false] rfl rfl (any_of HT_.out (by kernel_rfl)) (fun _ _ _ h => h) (Or.inl ⟨by rfl, ?_⟩) ?_ ?_
    rotate_left
    ·intro w'
     go_simp
     with_reducible rfl
    rotate_left
    ·simp only [Act.put, List.setIfInBounds_toArray, List.set_cons_zero, List.set_cons_succ, i64_w, i32_w]
     rfl
    refine take_ (i := 5) (N := some 39) (v := ?_) (a' := ?_) #[true, true, true, true, true, true, false, false, true, false] rfl rfl (take_ofW HT_.out HW_.out (by kernel_rfl)) (fun _ _ _ h => h) (Or.inl ⟨by rfl, ?_⟩) hHeld ?_ ?_
    rotate_left
    ·rintro w' ⟨s0, s1⟩
     go_simp
     with_reducible rfl
    rotate_left
    ·simp only [Act.put, List.setIfInBounds_toArray, List.set_cons_zero, List.set_cons_succ, i64_w, i32_w]
     rfl
    refine pure_ (i := 6) (N := some 40) (v := ?_) (a' := ?_) #[true, true, true, true, true, true, true, false, true, false] rfl rfl (any_of HT_.out (by kernel_rfl)) (fun _ _ _ h => h) (Or.inl ⟨by rfl, ?_⟩) ?_ ?_
    rotate_left
    ·intro w'
     go_simp
     with_reducible rfl
    rotate_left
    ·simp only [Act.put, List.setIfInBounds_toArray, List.set_cons_zero, List.set_cons_succ, i64_w, i32_w]
     rfl
    refine pure_ (i := 7) (N := some 41) (v := ?_) (a' := ?_) #[true, true, true, true, true, true, true, true, true, false] rfl rfl (any_of HT_.out (by kernel_rfl)) (fun _ _ _ h => h) (Or.inl ⟨by rfl, ?_⟩) ?_ ?_
    rotate_left
    ·intro w'
     go_simp
     with_reducible rfl
    rotate_left
    ·simp only [Act.put, List.setIfInBounds_toArray, List.set_cons_zero, List.set_cons_succ, i64_w, i32_w]
     rfl
    refine pure_ (i := 9) (N := some 8) (v := ?_) (a' := ?_) #[true, true, true, true, true, true, true, true, true, true] rfl rfl (any_of HT_.out (by kernel_rfl)) (fun _ _ _ h => h) (Or.inl ⟨by rfl, ?_⟩) ?_ ?_
    rotate_left
    ·intro w'
     go_simp
     with_reducible rfl
    rotate_left
    ·simp only [Act.put, List.setIfInBounds_toArray, List.set_cons_zero, List.set_cons_succ, i64_w, i32_w]
     rfl
    refine done_ (done_of HT_.out (by kernel_rfl)) ?_
    go_upto_region 5 with (first | ((with_reducible refine gate_callee (f := 26) rfl ?_); refine goesL_ (some 44) rfl rfl Tryd.func26 (by kernel_rfl) rfl #[.slice A0 l0.length c0] rfl (by (try simp only [List.map_toArray, List.map_cons, List.map_nil]); first | done | rfl | (simp only [List.length_drop, List.length_take]; rfl)) ?_; (with_reducible refine (key_Subtree.calls kj3 _ _ l0 t313 t314 t315 t316 _ ?side1 ?side2 A19.out).mono ?_); (case side1 => repeat (first | exact (Kd.C_below HR0.out HB.out) | (with_reducible refine Kd.C_alloc ?_ _) | (with_reducible refine Kd.C_drewN ?_ _) | (with_reducible refine Kd.C_drew ?_))); (case side2 => exact HC0.out); rintro e w22 ⟨rfl, hb⟩; refine ⟨_, rfl, ?_⟩; have n0_ := Aside0.mk (blk_below (g := gb307) (o := .cells #[.int .u8 a2_0, .int .u8 a2_1] 65 (0, 0)) (by (with_reducible repeat (first | refine blk_drewN ?_ _ | refine blk_drew ?_ | refine blk_alloc ?_ _)); exact BK307.out) hb); have n1_ := Aside0.mk (below_step (by repeat (first | (with_reducible first | exact HB.out | apply below_alloc | apply pw_below_drewN | apply below_drew1 | refine below_set ?_ GE307.out) | exact HB.out)) hb); clear BK307; clear HB; have BK307 := n0_; have HB := n1_; clear n0_ n1_; (try clear hb); (try clear hb2); (try clear hk); (try clear hi)) | ((with_reducible refine gate_dst (N := 9) rfl ?_); refine box_event ?hg (N := 9) ?hd (cs := #[.string (⟨#[]⟩ : ByteArray), .string (⟨#[]⟩ : ByteArray)]) (t := 49) ?hr ?_; (case hd => rfl); (case hg => rfl); (case hr => first | (go_simp; done) | (go_simp; rfl)); intro gb317 hg w23 hbox hb; have n0_ := Aside0.mk (blk_below (g := gb307) (o := .cells #[.int .u8 a2_0, .int .u8 a2_1] 65 (0, 0)) (by (with_reducible repeat (first | refine blk_drewN ?_ _ | refine blk_drew ?_ | refine blk_alloc ?_ _)); exact BK307.out) hb); have n1_ := Aside0.mk (below_step (by repeat (first | (with_reducible first | exact HB.out | apply below_alloc | apply pw_below_drewN | apply below_drew1 | refine below_set ?_ GE307.out) | exact HB.out)) hb); have n2_ := Aside0.mk (hbox); have n3_ := Aside0.mk ((by rw [hg]; exact (below_size (by repeat (first | (with_reducible first | exact HB.out | apply below_alloc | apply pw_below_drewN | apply below_drew1 | refine below_set ?_ GE307.out) | exact HB.out))) : w.heap.size ≤ gb317)); have n4_ := Aside0.mk ((by rw [hg]; exact (below_size (by repeat (first | (with_reducible first | exact HB.out | apply below_alloc | apply pw_below_drewN | apply below_drew1 | refine below_set ?_ GE307.out) | exact HB.out))) : w.heap.size ≤ gb317)); have n5_ := Aside0.mk ((by rw [hg]; exact Nat.ne_of_lt (blk_lt (g := gb307) (o := .cells #[.int .u8 a2_0, .int .u8 a2_1] 65 (0, 0)) (by (with_reducible repeat (first | refine blk_drewN ?_ _ | refine blk_drew ?_ | refine blk_alloc ?_ _)); exact BK307.out)) : gb307 ≠ gb317)); have n6_ := Aside0.mk ((by rw [hg]; exact Nat.ne_of_gt (blk_lt (g := gb307) (o := .cells #[.int .u8 a2_0, .int .u8 a2_1] 65 (0, 0)) (by (with_reducible repeat (first | refine blk_drewN ?_ _ | refine blk_drew ?_ | refine blk_alloc ?_ _)); exact BK307.out)) : gb317 ≠ gb307)); clear BK307; clear HB; have BK307 := n0_; have HB := n1_; have BK317 := n2_; have GW317 := n3_; have GE317 := n4_; have NB307_317 := n5_; have NB317_307 := n6_; clear n0_ n1_ n2_ n3_ n4_ n5_ n6_; clear hb hbox hg) | ((with_reducible refine gate_dst (N := 10) rfl ?_); refine box_event ?hg (N := 10) ?hd (cs := #[.string (⟨#[]⟩ : ByteArray), .string (⟨#[]⟩ : ByteArray)]) (t := 49) ?hr ?_; (case hd => rfl); (case hg => rfl); (case hr => first | (go_simp; done) | (go_simp; rfl)); intro gb318 hg w24 hbox hb; have n0_ := Aside0.mk (blk_below (g := gb307) (o := .cells #[.int .u8 a2_0, .int .u8 a2_1] 65 (0, 0)) (by (with_reducible repeat (first | refine blk_drewN ?_ _ | refine blk_drew ?_ | refine blk_alloc ?_ _)); exact BK307.out) hb); have n1_ := Aside0.mk (blk_below (g := gb317) (o := .cells #[.string (⟨#[]⟩ : ByteArray), .string (⟨#[]⟩ : ByteArray)] 49 (0, 0)) (by (with_reducible repeat (first | refine blk_drewN ?_ _ | refine blk_drew ?_ | refine blk_alloc ?_ _)); exact BK317.out) hb); have n2_ := Aside0.mk (below_step (by repeat (first | (with_reducible first | exact HB.out | apply below_alloc | apply pw_below_drewN | apply below_drew1 | refine below_set ?_ GE307.out | refine below_set ?_ GE317.out) | exact HB.out)) hb); have n3_ := Aside0.mk (hbox); have n4_ := Aside0.mk ((by rw [hg]; exact (below_size (by repeat (first | (with_reducible first | exact HB.out | apply below_alloc | apply pw_below_drewN | apply below_drew1 | refine below_set ?_ GE307.out | refine below_set ?_ GE317.out) | exact HB.out))) : w.heap.size ≤ gb318)); have n5_ := Aside0.mk ((by rw [hg]; exact (below_size (by repeat (first | (with_reducible first | exact HB.out | apply below_alloc | apply pw_below_drewN | apply below_drew1 | refine below_set ?_ GE307.out | refine below_set ?_ GE317.out) | exact HB.out))) : w.heap.size ≤ gb318)); have n6_ := Aside0.mk ((by rw [hg]; exact Nat.ne_of_lt (blk_lt (g := gb307) (o := .cells #[.int .u8 a2_0, .int .u8 a2_1] 65 (0, 0)) (by (with_reducible repeat (first | refine blk_drewN ?_ _ | refine blk_drew ?_ | refine blk_alloc ?_ _)); exact BK307.out)) : gb307 ≠ gb318)); have n7_ := Aside0.mk ((by rw [hg]; exact Nat.ne_of_gt (blk_lt (g := gb307) (o := .cells #[.int .u8 a2_0, .int .u8 a2_1] 65 (0, 0)) (by (with_reducible repeat (first | refine blk_drewN ?_ _ | refine blk_drew ?_ | refine blk_alloc ?_ _)); exact BK307.out)) : gb318 ≠ gb307)); have n8_ := Aside0.mk ((by rw [hg]; exact Nat.ne_of_lt (blk_lt (g := gb317) (o := .cells #[.string (⟨#[]⟩ : ByteArray), .string (⟨#[]⟩ : ByteArray)] 49 (0, 0)) (by (with_reducible repeat (first | refine blk_drewN ?_ _ | refine blk_drew ?_ | refine blk_alloc ?_ _)); exact BK317.out)) : gb317 ≠ gb318)); have n9_ := Aside0.mk ((by rw [hg]; exact Nat.ne_of_gt (blk_lt (g := gb317) (o := .cells #[.string (⟨#[]⟩ : ByteArray), .string (⟨#[]⟩ : ByteArray)] 49 (0, 0)) (by (with_reducible repeat (first | refine blk_drewN ?_ _ | refine blk_drew ?_ | refine blk_alloc ?_ _)); exact BK317.out)) : gb318 ≠ gb317)); clear BK307; clear BK317; clear HB; have BK307 := n0_; have BK317 := n1_; have HB := n2_; have BK318 := n3_; have GW318 := n4_; have GE318 := n5_; have NB307_318 := n6_; have NB318_307 := n7_; have NB317_318 := n8_; have NB318_317 := n9_; clear n0_ n1_ n2_ n3_ n4_ n5_ n6_ n7_ n8_ n9_; clear hb hbox hg; have hnb25 := NB317_307.out; have hnc25 := NB307_317.out; have hnb26 := NB317_318.out; have hnc26 := NB318_317.out; have hcz27_0 : w24.cell? ⟨gb317, 0, none⟩ = some (.string (⟨#[]⟩ : ByteArray)) := (blk_cell BK317.out 0).trans rfl; have hcz27_1 : w24.cell? ⟨gb317, 1, none⟩ = some (.string (⟨#[]⟩ : ByteArray)) := (blk_cell BK317.out 1).trans rfl; have hfz27_0 := blk_frozen BK317.out 0; have hfz27_1 := blk_frozen BK317.out 1; have hnb28 := NB318_307.out; have hnc28 := NB307_318.out; have hcz29_0 : w24.cell? ⟨gb318, 0, none⟩ = some (.string (⟨#[]⟩ : ByteArray)) := (blk_cell BK318.out 0).trans rfl; have hcz29_1 : w24.cell? ⟨gb318, 1, none⟩ = some (.string (⟨#[]⟩ : ByteArray)) := (blk_cell BK318.out 1).trans rfl; have hfz29_0 := blk_frozen BK318.out 0; have hfz29_1 := blk_frozen BK318.out 1))
    (try simp only [Act.put, List.setIfInBounds_toArray, List.set_cons_zero, List.set_cons_succ])
    go_cut [11, 12] (fun v11 v12 wc => ∃ (kq : Nat) (x11_19 : Bool) (x12_19 : Bool), v11 = .bool x11_19 ∧ v12 = .bool x12_19 ∧ Aside0 (rillbedlaw06_KeyRanges.j1 kq l0 l1 (wrap64 (Int.tmod a2_0 32)) (wrap64 (Int.tmod a2_1 32)) x11_19 x12_19 t313 t314 t315 t316 = some true) ∧ Aside0 (kq ≤ kj3) ∧ Aside0 (wc.heap[gb307]? = some (.cells #[.int .u8 a2_0, .int .u8 a2_1] 65 (0, 0))) ∧ Aside0 (wc.heap[gb317]? = some (.cells #[.string t313, .string t314] 49 (0, 0))) ∧ Aside0 (wc.heap[gb318]? = some (.cells #[.string t315, .string t316] 49 (0, 0))) ∧ Aside0 (Below w.heap.size w wc))
    case first =>
     have H := HC20.out
     clear HC20
     replace H := Option.bind_eq_some_iff.mp H
     obtain ⟨t319, A300, H⟩ := H
     replace H : ((rillbedlaw06_begins.f kj3 l1 l0).bind fun t320 => (if t320 = true then ((rillbedlaw06_begins.f kj3 l0 l1).bind fun t321 => (rillbedlaw06_KeyRanges.j1 kj3 l0 l1 (wrap64 (Int.tmod a2_0 32)) (wrap64 (Int.tmod a2_1 32)) t319 t321 t313 t314 t315 t316)) else (rillbedlaw06_KeyRanges.j1 kj3 l0 l1 (wrap64 (Int.tmod a2_0 32)) (wrap64 (Int.tmod a2_1 32)) t319 false t313 t314 t315 t316))) = some true := H
     have A30 := Aside0.mk A300
     clear A300
     replace H := Option.bind_eq_some_iff.mp H
     obtain ⟨t320, A310, H⟩ := H
     replace H : (if t320 = true then ((rillbedlaw06_begins.f kj3 l0 l1).bind fun t321 => (rillbedlaw06_KeyRanges.j1 kj3 l0 l1 (wrap64 (Int.tmod a2_0 32)) (wrap64 (Int.tmod a2_1 32)) t319 t321 t313 t314 t315 t316)) else (rillbedlaw06_KeyRanges.j1 kj3 l0 l1 (wrap64 (Int.tmod a2_0 32)) (wrap64 (Int.tmod a2_1 32)) t319 false t313 t314 t315 t316)) = some true := H
     have A31 := Aside0.mk A310
     clear A310
     by_cases c32 : t320 = true
     ·subst c32
      have H1 : ((rillbedlaw06_begins.f kj3 l0 l1).bind fun t321 => (rillbedlaw06_KeyRanges.j1 kj3 l0 l1 (wrap64 (Int.tmod a2_0 32)) (wrap64 (Int.tmod a2_1 32)) t319 t321 t313 t314 t315 t316)) = some true := by rw [if_pos rfl] at H; exact H
      clear H
      have H := H1
      clear H1
      replace H := Option.bind_eq_some_iff.mp H
      obtain ⟨t321, A330, H⟩ := H
      replace H : (rillbedlaw06_KeyRanges.j1 kj3 l0 l1 (wrap64 (Int.tmod a2_0 32)) (wrap64 (Int.tmod a2_1 32)) t319 t321 t313 t314 t315 t316) = some true := H
      have A33 := Aside0.mk A330
      clear A330
      have H' := Aside0.mk H
      clear H
      go_wp2_with (first | ((with_reducible refine gate_callee (f := 42) rfl ?_); refine goesL_ (some 49) rfl rfl Tryd.func42 (by kernel_rfl) rfl #[.slice A1 l1.length c1, .slice A0 l0.length c0] rfl (by (try simp only [List.map_toArray, List.map_cons, List.map_nil]); first | done | rfl | (simp only [List.length_drop, List.length_take]; rfl)) ?_; (with_reducible refine (rillbedlaw06_begins.calls kj3 _ _ l1 _ _ l0 t319 _ ?side1 ?side2 ?side3 ?side4 A30.out).mono ?_); (case side1 => exact Kd.C_below HR1.out (by repeat (first | (with_reducible first | exact HB.out | apply below_alloc | apply pw_below_drewN | apply below_drew1 | refine below_set ?_ GE307.out | refine below_set ?_ GE317.out | refine below_set ?_ GE318.out) | exact HB.out))); (case side2 => exact HC1.out); (case side3 => exact Kd.C_below HR0.out (by repeat (first | (with_reducible first | exact HB.out | apply below_alloc | apply pw_below_drewN | apply below_drew1 | refine below_set ?_ GE307.out | refine below_set ?_ GE317.out | refine below_set ?_ GE318.out) | exact HB.out))); (case side4 => exact HC0.out); rintro e w' ⟨rfl, ⟨nd, rfl⟩⟩; refine ⟨_, rfl, ?_⟩) | ((with_reducible refine gate_callee (f := 42) rfl ?_); refine goesL_ (some 52) rfl rfl Tryd.func42 (by kernel_rfl) rfl #[.slice A1 l1.length c1, .slice A0 l0.length c0] rfl (by (try simp only [List.map_toArray, List.map_cons, List.map_nil]); first | done | rfl | (simp only [List.length_drop, List.length_take]; rfl)) ?_; (with_reducible refine (rillbedlaw06_begins.calls kj3 _ _ l1 _ _ l0 true _ ?side1 ?side2 ?side3 ?side4 A31.out).mono ?_); (case side1 => exact Kd.C_below HR1.out (by repeat (first | (with_reducible first | exact HB.out | apply below_alloc | apply pw_below_drewN | apply below_drew1 | refine below_set ?_ GE307.out | refine below_set ?_ GE317.out | refine below_set ?_ GE318.out) | exact HB.out))); (case side2 => exact HC1.out); (case side3 => exact Kd.C_below HR0.out (by repeat (first | (with_reducible first | exact HB.out | apply below_alloc | apply pw_below_drewN | apply below_drew1 | refine below_set ?_ GE307.out | refine below_set ?_ GE317.out | refine below_set ?_ GE318.out) | exact HB.out))); (case side4 => exact HC0.out); rintro e w' ⟨rfl, ⟨nd, rfl⟩⟩; refine ⟨_, rfl, ?_⟩) | (go_at_call 42; (with_reducible refine (rillbedlaw06_begins.calls kj3 _ _ l0 _ _ l1 t321 _ ?side1 ?side2 ?side3 ?side4 A33.out).mono ?_); (case side1 => exact Kd.C_below HR0.out (by repeat (first | (with_reducible first | exact HB.out | apply below_alloc | apply pw_below_drewN | apply below_drew1 | refine below_set ?_ GE307.out | refine below_set ?_ GE317.out | refine below_set ?_ GE318.out) | exact HB.out))); (case side2 => exact HC0.out); (case side3 => exact Kd.C_below HR1.out (by repeat (first | (with_reducible first | exact HB.out | apply below_alloc | apply pw_below_drewN | apply below_drew1 | refine below_set ?_ GE307.out | refine below_set ?_ GE317.out | refine below_set ?_ GE318.out) | exact HB.out))); (case side4 => exact HC1.out); rintro e w' ⟨rfl, ⟨nd, rfl⟩⟩))
      go_meet
      case rel => exact ⟨_, (t319), (t321), (by first | rfl | (simp; done) | (simp [*]; done)), (by first | rfl | (simp; done) | (simp [*]; done)), H', ⟨by have := HJ3.out; first | omega | exact Nat.le_refl _⟩, ⟨by (with_reducible repeat (first | refine blk_drewN ?_ _ | refine blk_drew ?_ | refine blk_alloc ?_ _)); refine blk_far ?_ NB307_318.out _; (with_reducible repeat (first | refine blk_drewN ?_ _ | refine blk_drew ?_ | refine blk_alloc ?_ _)); refine blk_far ?_ NB307_318.out _; (with_reducible repeat (first | refine blk_drewN ?_ _ | refine blk_drew ?_ | refine blk_alloc ?_ _)); refine blk_far ?_ NB307_317.out _; (with_reducible repeat (first | refine blk_drewN ?_ _ | refine blk_drew ?_ | refine blk_alloc ?_ _)); refine blk_far ?_ NB307_317.out _; (with_reducible repeat (first | refine blk_drewN ?_ _ | refine blk_drew ?_ | refine blk_alloc ?_ _)); exact BK307.out⟩, ⟨by (with_reducible repeat (first | refine blk_drewN ?_ _ | refine blk_drew ?_ | refine blk_alloc ?_ _)); refine blk_far ?_ NB317_318.out _; (with_reducible repeat (first | refine blk_drewN ?_ _ | refine blk_drew ?_ | refine blk_alloc ?_ _)); refine blk_far ?_ NB317_318.out _; (with_reducible repeat (first | refine blk_drewN ?_ _ | refine blk_drew ?_ | refine blk_alloc ?_ _)); refine blk_put (cs := #[.string t313, .string (⟨#[]⟩ : ByteArray)]) ?_ 1 _ rfl; (with_reducible repeat (first | refine blk_drewN ?_ _ | refine blk_drew ?_ | refine blk_alloc ?_ _)); refine blk_put (cs := #[.string (⟨#[]⟩ : ByteArray), .string (⟨#[]⟩ : ByteArray)]) ?_ 0 _ rfl; (with_reducible repeat (first | refine blk_drewN ?_ _ | refine blk_drew ?_ | refine blk_alloc ?_ _)); exact BK317.out⟩, ⟨by (with_reducible repeat (first | refine blk_drewN ?_ _ | refine blk_drew ?_ | refine blk_alloc ?_ _)); refine blk_put (cs := #[.string t315, .string (⟨#[]⟩ : ByteArray)]) ?_ 1 _ rfl; (with_reducible repeat (first | refine blk_drewN ?_ _ | refine blk_drew ?_ | refine blk_alloc ?_ _)); refine blk_put (cs := #[.string (⟨#[]⟩ : ByteArray), .string (⟨#[]⟩ : ByteArray)]) ?_ 0 _ rfl; (with_reducible repeat (first | refine blk_drewN ?_ _ | refine blk_drew ?_ | refine blk_alloc ?_ _)); refine blk_far ?_ NB318_317.out _; (with_reducible repeat (first | refine blk_drewN ?_ _ | refine blk_drew ?_ | refine blk_alloc ?_ _)); refine blk_far ?_ NB318_317.out _; (with_reducible repeat (first | refine blk_drewN ?_ _ | refine blk_drew ?_ | refine blk_alloc ?_ _)); exact BK318.out⟩, ⟨by repeat (first | (with_reducible first | exact HB.out | apply below_alloc | apply pw_below_drewN | apply below_drew1 | refine below_set ?_ GE307.out | refine below_set ?_ GE317.out | refine below_set ?_ GE318.out) | exact HB.out)⟩⟩
     ·replace c32 := Bool.eq_false_iff.mpr c32
      subst c32
      have H1 : (rillbedlaw06_KeyRanges.j1 kj3 l0 l1 (wrap64 (Int.tmod a2_0 32)) (wrap64 (Int.tmod a2_1 32)) t319 false t313 t314 t315 t316) = some true := by rw [if_neg (show ¬ (false = true) by decide)] at H; exact H
      clear H
      have H := H1
      clear H1
      have H' := Aside0.mk H
      clear H
      go_wp2_with (first | ((with_reducible refine gate_callee (f := 42) rfl ?_); refine goesL_ (some 49) rfl rfl Tryd.func42 (by kernel_rfl) rfl #[.slice A1 l1.length c1, .slice A0 l0.length c0] rfl (by (try simp only [List.map_toArray, List.map_cons, List.map_nil]); first | done | rfl | (simp only [List.length_drop, List.length_take]; rfl)) ?_; (with_reducible refine (rillbedlaw06_begins.calls kj3 _ _ l1 _ _ l0 t319 _ ?side1 ?side2 ?side3 ?side4 A30.out).mono ?_); (case side1 => exact Kd.C_below HR1.out (by repeat (first | (with_reducible first | exact HB.out | apply below_alloc | apply pw_below_drewN | apply below_drew1 | refine below_set ?_ GE307.out | refine below_set ?_ GE317.out | refine below_set ?_ GE318.out) | exact HB.out))); (case side2 => exact HC1.out); (case side3 => exact Kd.C_below HR0.out (by repeat (first | (with_reducible first | exact HB.out | apply below_alloc | apply pw_below_drewN | apply below_drew1 | refine below_set ?_ GE307.out | refine below_set ?_ GE317.out | refine below_set ?_ GE318.out) | exact HB.out))); (case side4 => exact HC0.out); rintro e w' ⟨rfl, ⟨nd, rfl⟩⟩; refine ⟨_, rfl, ?_⟩) | ((with_reducible refine gate_callee (f := 42) rfl ?_); refine goesL_ (some 52) rfl rfl Tryd.func42 (by kernel_rfl) rfl #[.slice A1 l1.length c1, .slice A0 l0.length c0] rfl (by (try simp only [List.map_toArray, List.map_cons, List.map_nil]); first | done | rfl | (simp only [List.length_drop, List.length_take]; rfl)) ?_; (with_reducible refine (rillbedlaw06_begins.calls kj3 _ _ l1 _ _ l0 false _ ?side1 ?side2 ?side3 ?side4 A31.out).mono ?_); (case side1 => exact Kd.C_below HR1.out (by repeat (first | (with_reducible first | exact HB.out | apply below_alloc | apply pw_below_drewN | apply below_drew1 | refine below_set ?_ GE307.out | refine below_set ?_ GE317.out | refine below_set ?_ GE318.out) | exact HB.out))); (case side2 => exact HC1.out); (case side3 => exact Kd.C_below HR0.out (by repeat (first | (with_reducible first | exact HB.out | apply below_alloc | apply pw_below_drewN | apply below_drew1 | refine below_set ?_ GE307.out | refine below_set ?_ GE317.out | refine below_set ?_ GE318.out) | exact HB.out))); (case side4 => exact HC0.out); rintro e w' ⟨rfl, ⟨nd, rfl⟩⟩; refine ⟨_, rfl, ?_⟩))
      go_meet
      case rel => exact ⟨_, (t319), (false), (by first | rfl | (simp; done) | (simp [*]; done)), (by first | rfl | (simp; done) | (simp [*]; done)), H', ⟨by have := HJ3.out; first | omega | exact Nat.le_refl _⟩, ⟨by (with_reducible repeat (first | refine blk_drewN ?_ _ | refine blk_drew ?_ | refine blk_alloc ?_ _)); refine blk_far ?_ NB307_318.out _; (with_reducible repeat (first | refine blk_drewN ?_ _ | refine blk_drew ?_ | refine blk_alloc ?_ _)); refine blk_far ?_ NB307_318.out _; (with_reducible repeat (first | refine blk_drewN ?_ _ | refine blk_drew ?_ | refine blk_alloc ?_ _)); refine blk_far ?_ NB307_317.out _; (with_reducible repeat (first | refine blk_drewN ?_ _ | refine blk_drew ?_ | refine blk_alloc ?_ _)); refine blk_far ?_ NB307_317.out _; (with_reducible repeat (first | refine blk_drewN ?_ _ | refine blk_drew ?_ | refine blk_alloc ?_ _)); exact BK307.out⟩, ⟨by (with_reducible repeat (first | refine blk_drewN ?_ _ | refine blk_drew ?_ | refine blk_alloc ?_ _)); refine blk_far ?_ NB317_318.out _; (with_reducible repeat (first | refine blk_drewN ?_ _ | refine blk_drew ?_ | refine blk_alloc ?_ _)); refine blk_far ?_ NB317_318.out _; (with_reducible repeat (first | refine blk_drewN ?_ _ | refine blk_drew ?_ | refine blk_alloc ?_ _)); refine blk_put (cs := #[.string t313, .string (⟨#[]⟩ : ByteArray)]) ?_ 1 _ rfl; (with_reducible repeat (first | refine blk_drewN ?_ _ | refine blk_drew ?_ | refine blk_alloc ?_ _)); refine blk_put (cs := #[.string (⟨#[]⟩ : ByteArray), .string (⟨#[]⟩ : ByteArray)]) ?_ 0 _ rfl; (with_reducible repeat (first | refine blk_drewN ?_ _ | refine blk_drew ?_ | refine blk_alloc ?_ _)); exact BK317.out⟩, ⟨by (with_reducible repeat (first | refine blk_drewN ?_ _ | refine blk_drew ?_ | refine blk_alloc ?_ _)); refine blk_put (cs := #[.string t315, .string (⟨#[]⟩ : ByteArray)]) ?_ 1 _ rfl; (with_reducible repeat (first | refine blk_drewN ?_ _ | refine blk_drew ?_ | refine blk_alloc ?_ _)); refine blk_put (cs := #[.string (⟨#[]⟩ : ByteArray), .string (⟨#[]⟩ : ByteArray)]) ?_ 0 _ rfl; (with_reducible repeat (first | refine blk_drewN ?_ _ | refine blk_drew ?_ | refine blk_alloc ?_ _)); refine blk_far ?_ NB318_317.out _; (with_reducible repeat (first | refine blk_drewN ?_ _ | refine blk_drew ?_ | refine blk_alloc ?_ _)); refine blk_far ?_ NB318_317.out _; (with_reducible repeat (first | refine blk_drewN ?_ _ | refine blk_drew ?_ | refine blk_alloc ?_ _)); exact BK318.out⟩, ⟨by repeat (first | (with_reducible first | exact HB.out | apply below_alloc | apply pw_below_drewN | apply below_drew1 | refine below_set ?_ GE307.out | refine below_set ?_ GE317.out | refine below_set ?_ GE318.out) | exact HB.out)⟩⟩
    case rest =>
     clear HC20
     try clear c1
     try clear c7
     try clear c9
     try clear c11
     try clear c11b0
     try clear c11b1
     try clear c16
     try clear c32
     try clear hcz27_0
     try clear hcz27_1
     try clear hcz29_0
     try clear hcz29_1
     try clear hfz27_0
     try clear hfz27_1
     try clear hfz29_0
     try clear hfz29_1
     obtain ⟨kq, x11_19, x12_19, rfl, rfl, HA, HJ19, BK307, BK317, BK318, HB⟩ := hcut
     cases kq with
     | zero => exact absurd HA.out (by simp [rillbedlaw06_KeyRanges.j1])
     | succ kj19 =>
      have H := HA.out
      clear HA
      simp only [rillbedlaw06_KeyRanges.j1] at H
      replace H := Option.bind_eq_some_iff.mp H
      obtain ⟨t322, A340, H⟩ := H
      replace H : ((key_Block.f kj19 l1 (wrap64 (Int.tmod a2_1 32))).bind fun t323 => ((key_Meta.f kj19 l1).bind fun t324 => ((rillbedlaw06_in.f t324 t313 t314).bind fun t325 => (if (t325 != x11_19) = true then (rillbedlaw06_KeyRanges.j2 kj19 l0 l1 (wrap64 (Int.tmod a2_0 32)) (wrap64 (Int.tmod a2_1 32)) x11_19 x12_19 t322 t323 true t313 t314 t315 t316) else ((key_Meta.f kj19 l1).bind fun t326 => ((key_Below.f kj19 l0).bind fun bt327 => ((rillbedlaw06_in.f t326 bt327.1 bt327.2).bind fun t329 => (if x11_19 = true then (if (t329 != (!x12_19)) = true then (rillbedlaw06_KeyRanges.j2 kj19 l0 l1 (wrap64 (Int.tmod a2_0 32)) (wrap64 (Int.tmod a2_1 32)) x11_19 x12_19 t322 t323 true t313 t314 t315 t316) else ((key_Meta.f kj19 l0).bind fun t330 => ((key_Meta.f kj19 l1).bind fun t331 => (if ((t330.toList == t331.toList) != x12_19) = true then (rillbedlaw06_KeyRanges.j2 kj19 l0 l1 (wrap64 (Int.tmod a2_0 32)) (wrap64 (Int.tmod a2_1 32)) x11_19 x12_19 t322 t323 true t313 t314 t315 t316) else ((key_Meta.f kj19 l1).bind fun t332 => ((strings_Join.f l1 (⟨#[47]⟩ : ByteArray)).bind fun t333 => ((rillbedlaw06_takes.f kj19 t332 109 t333 0).bind fun t334 => (if t334 = true then (if x12_19 = true then (rillbedlaw06_KeyRanges.j2 kj19 l0 l1 (wrap64 (Int.tmod a2_0 32)) (wrap64 (Int.tmod a2_1 32)) x11_19 x12_19 t322 t323 false t313 t314 t315 t316) else ((key_Meta.f kj19 l1).bind fun t335 => ((key_Meta.f kj19 l0).bind fun t336 => (rillbedlaw06_KeyRanges.j2 kj19 l0 l1 (wrap64 (Int.tmod a2_0 32)) (wrap64 (Int.tmod a2_1 32)) x11_19 x12_19 t322 t323 (Op.bytesLess t335.toList t336.toList) t313 t314 t315 t316)))) else (rillbedlaw06_KeyRanges.j2 kj19 l0 l1 (wrap64 (Int.tmod a2_0 32)) (wrap64 (Int.tmod a2_1 32)) x11_19 x12_19 t322 t323 true t313 t314 t315 t316))))))))) else (if (t329 != false) = true then (rillbedlaw06_KeyRanges.j2 kj19 l0 l1 (wrap64 (Int.tmod a2_0 32)) (wrap64 (Int.tmod a2_1 32)) x11_19 x12_19 t322 t323 true t313 t314 t315 t316) else ((key_Meta.f kj19 l0).bind fun t337 => ((key_Meta.f kj19 l1).bind fun t338 => (if ((t337.toList == t338.toList) != x12_19) = true then (rillbedlaw06_KeyRanges.j2 kj19 l0 l1 (wrap64 (Int.tmod a2_0 32)) (wrap64 (Int.tmod a2_1 32)) x11_19 x12_19 t322 t323 true t313 t314 t315 t316) else ((key_Meta.f kj19 l1).bind fun t339 => ((strings_Join.f l1 (⟨#[47]⟩ : ByteArray)).bind fun t340 => ((rillbedlaw06_takes.f kj19 t339 109 t340 0).bind fun t341 => (if t341 = true then (rillbedlaw06_KeyRanges.j2 kj19 l0 l1 (wrap64 (Int.tmod a2_0 32)) (wrap64 (Int.tmod a2_1 32)) x11_19 x12_19 t322 t323 false t313 t314 t315 t316) else (rillbedlaw06_KeyRanges.j2 kj19 l0 l1 (wrap64 (Int.tmod a2_0 32)) (wrap64 (Int.tmod a2_1 32)) x11_19 x12_19 t322 t323 true t313 t314 t315 t316))))))))))))))))) = some true := H
      have A34 := Aside0.mk A340
      clear A340
      replace H := Option.bind_eq_some_iff.mp H
      obtain ⟨t323, A350, H⟩ := H
      replace H : ((key_Meta.f kj19 l1).bind fun t324 => ((rillbedlaw06_in.f t324 t313 t314).bind fun t325 => (if (t325 != x11_19) = true then (rillbedlaw06_KeyRanges.j2 kj19 l0 l1 (wrap64 (Int.tmod a2_0 32)) (wrap64 (Int.tmod a2_1 32)) x11_19 x12_19 t322 t323 true t313 t314 t315 t316) else ((key_Meta.f kj19 l1).bind fun t326 => ((key_Below.f kj19 l0).bind fun bt327 => ((rillbedlaw06_in.f t326 bt327.1 bt327.2).bind fun t329 => (if x11_19 = true then (if (t329 != (!x12_19)) = true then (rillbedlaw06_KeyRanges.j2 kj19 l0 l1 (wrap64 (Int.tmod a2_0 32)) (wrap64 (Int.tmod a2_1 32)) x11_19 x12_19 t322 t323 true t313 t314 t315 t316) else ((key_Meta.f kj19 l0).bind fun t330 => ((key_Meta.f kj19 l1).bind fun t331 => (if ((t330.toList == t331.toList) != x12_19) = true then (rillbedlaw06_KeyRanges.j2 kj19 l0 l1 (wrap64 (Int.tmod a2_0 32)) (wrap64 (Int.tmod a2_1 32)) x11_19 x12_19 t322 t323 true t313 t314 t315 t316) else ((key_Meta.f kj19 l1).bind fun t332 => ((strings_Join.f l1 (⟨#[47]⟩ : ByteArray)).bind fun t333 => ((rillbedlaw06_takes.f kj19 t332 109 t333 0).bind fun t334 => (if t334 = true then (if x12_19 = true then (rillbedlaw06_KeyRanges.j2 kj19 l0 l1 (wrap64 (Int.tmod a2_0 32)) (wrap64 (Int.tmod a2_1 32)) x11_19 x12_19 t322 t323 false t313 t314 t315 t316) else ((key_Meta.f kj19 l1).bind fun t335 => ((key_Meta.f kj19 l0).bind fun t336 => (rillbedlaw06_KeyRanges.j2 kj19 l0 l1 (wrap64 (Int.tmod a2_0 32)) (wrap64 (Int.tmod a2_1 32)) x11_19 x12_19 t322 t323 (Op.bytesLess t335.toList t336.toList) t313 t314 t315 t316)))) else (rillbedlaw06_KeyRanges.j2 kj19 l0 l1 (wrap64 (Int.tmod a2_0 32)) (wrap64 (Int.tmod a2_1 32)) x11_19 x12_19 t322 t323 true t313 t314 t315 t316))))))))) else (if (t329 != false) = true then (rillbedlaw06_KeyRanges.j2 kj19 l0 l1 (wrap64 (Int.tmod a2_0 32)) (wrap64 (Int.tmod a2_1 32)) x11_19 x12_19 t322 t323 true t313 t314 t315 t316) else ((key_Meta.f kj19 l0).bind fun t337 => ((key_Meta.f kj19 l1).bind fun t338 => (if ((t337.toList == t338.toList) != x12_19) = true then (rillbedlaw06_KeyRanges.j2 kj19 l0 l1 (wrap64 (Int.tmod a2_0 32)) (wrap64 (Int.tmod a2_1 32)) x11_19 x12_19 t322 t323 true t313 t314 t315 t316) else ((key_Meta.f kj19 l1).bind fun t339 => ((strings_Join.f l1 (⟨#[47]⟩ : ByteArray)).bind fun t340 => ((rillbedlaw06_takes.f kj19 t339 109 t340 0).bind fun t341 => (if t341 = true then (rillbedlaw06_KeyRanges.j2 kj19 l0 l1 (wrap64 (Int.tmod a2_0 32)) (wrap64 (Int.tmod a2_1 32)) x11_19 x12_19 t322 t323 false t313 t314 t315 t316) else (rillbedlaw06_KeyRanges.j2 kj19 l0 l1 (wrap64 (Int.tmod a2_0 32)) (wrap64 (Int.tmod a2_1 32)) x11_19 x12_19 t322 t323 true t313 t314 t315 t316)))))))))))))))) = some true := H
      have A35 := Aside0.mk A350
      clear A350
      have HC36 := Aside0.mk H
      clear H
      go_upto_region 7 with (first | ((with_reducible refine gate_callee (f := 29) rfl ?_); refine goesL_ (some 60) rfl rfl Tryd.func29 (by kernel_rfl) rfl #[.slice A0 l0.length c0, .int .i64 (wrap64 (Int.tmod a2_0 32))] rfl (by (try simp only [List.map_toArray, List.map_cons, List.map_nil]); first | done | rfl | (simp only [List.length_drop, List.length_take]; rfl)) ?_; (with_reducible refine (key_Block.calls kj19 _ _ l0 (wrap64 (Int.tmod a2_0 32)) t322 _ ?side1 ?side2 A34.out).mono ?_); (case side1 => repeat (first | exact (Kd.C_below HR0.out HB.out) | (with_reducible refine Kd.C_alloc ?_ _) | (with_reducible refine Kd.C_drewN ?_ _) | (with_reducible refine Kd.C_drew ?_))); (case side2 => exact HC0.out); rintro e w37 ⟨rfl, hb⟩; refine ⟨_, rfl, ?_⟩; have n0_ := Aside0.mk (blk_below (g := gb307) (o := .cells #[.int .u8 a2_0, .int .u8 a2_1] 65 (0, 0)) (by (with_reducible repeat (first | refine blk_drewN ?_ _ | refine blk_drew ?_ | refine blk_alloc ?_ _)); exact BK307.out) hb); have n1_ := Aside0.mk (blk_below (g := gb317) (o := .cells #[.string t313, .string t314] 49 (0, 0)) (by (with_reducible repeat (first | refine blk_drewN ?_ _ | refine blk_drew ?_ | refine blk_alloc ?_ _)); exact BK317.out) hb); have n2_ := Aside0.mk (blk_below (g := gb318) (o := .cells #[.string t315, .string t316] 49 (0, 0)) (by (with_reducible repeat (first | refine blk_drewN ?_ _ | refine blk_drew ?_ | refine blk_alloc ?_ _)); exact BK318.out) hb); have n3_ := Aside0.mk (below_step (by repeat (first | (with_reducible first | exact HB.out | apply below_alloc | apply pw_below_drewN | apply below_drew1 | refine below_set ?_ GE307.out | refine below_set ?_ GE317.out | refine below_set ?_ GE318.out) | exact HB.out)) hb); clear BK307; clear BK317; clear BK318; clear HB; have BK307 := n0_; have BK317 := n1_; have BK318 := n2_; have HB := n3_; clear n0_ n1_ n2_ n3_; (try clear hb); (try clear hb2); (try clear hk); (try clear hi)) | ((with_reducible refine gate_callee (f := 29) rfl ?_); refine goesL_ (some 63) rfl rfl Tryd.func29 (by kernel_rfl) rfl #[.slice A1 l1.length c1, .int .i64 (wrap64 (Int.tmod a2_1 32))] rfl (by (try simp only [List.map_toArray, List.map_cons, List.map_nil]); first | done | rfl | (simp only [List.length_drop, List.length_take]; rfl)) ?_; (with_reducible refine (key_Block.calls kj19 _ _ l1 (wrap64 (Int.tmod a2_1 32)) t323 _ ?side1 ?side2 A35.out).mono ?_); (case side1 => repeat (first | exact (Kd.C_below HR1.out HB.out) | (with_reducible refine Kd.C_alloc ?_ _) | (with_reducible refine Kd.C_drewN ?_ _) | (with_reducible refine Kd.C_drew ?_))); (case side2 => exact HC1.out); rintro e w38 ⟨rfl, hb⟩; refine ⟨_, rfl, ?_⟩; have n0_ := Aside0.mk (blk_below (g := gb307) (o := .cells #[.int .u8 a2_0, .int .u8 a2_1] 65 (0, 0)) (by (with_reducible repeat (first | refine blk_drewN ?_ _ | refine blk_drew ?_ | refine blk_alloc ?_ _)); exact BK307.out) hb); have n1_ := Aside0.mk (blk_below (g := gb317) (o := .cells #[.string t313, .string t314] 49 (0, 0)) (by (with_reducible repeat (first | refine blk_drewN ?_ _ | refine blk_drew ?_ | refine blk_alloc ?_ _)); exact BK317.out) hb); have n2_ := Aside0.mk (blk_below (g := gb318) (o := .cells #[.string t315, .string t316] 49 (0, 0)) (by (with_reducible repeat (first | refine blk_drewN ?_ _ | refine blk_drew ?_ | refine blk_alloc ?_ _)); exact BK318.out) hb); have n3_ := Aside0.mk (below_step (by repeat (first | (with_reducible first | exact HB.out | apply below_alloc | apply pw_below_drewN | apply below_drew1 | refine below_set ?_ GE307.out | refine below_set ?_ GE317.out | refine below_set ?_ GE318.out) | exact HB.out)) hb); clear BK307; clear BK317; clear BK318; clear HB; have BK307 := n0_; have BK317 := n1_; have BK318 := n2_; have HB := n3_; clear n0_ n1_ n2_ n3_; (try clear hb); (try clear hb2); (try clear hk); (try clear hi)))
      (try simp only [Act.put, List.setIfInBounds_toArray, List.set_cons_zero, List.set_cons_succ])
      go_cut [113] (fun v113 wc => ∃ (kq : Nat) (x113_35 : Bool), v113 = .bool x113_35 ∧ Aside0 (rillbedlaw06_KeyRanges.j2 kq l0 l1 (wrap64 (Int.tmod a2_0 32)) (wrap64 (Int.tmod a2_1 32)) x11_19 x12_19 t322 t323 x113_35 t313 t314 t315 t316 = some true) ∧ Aside0 (kq ≤ kj19) ∧ Aside0 (wc.heap[gb307]? = some (.cells #[.int .u8 a2_0, .int .u8 a2_1] 65 (0, 0))) ∧ Aside0 (wc.heap[gb317]? = some (.cells #[.string t313, .string t314] 49 (0, 0))) ∧ Aside0 (wc.heap[gb318]? = some (.cells #[.string t315, .string t316] 49 (0, 0))) ∧ Aside0 (Below w.heap.size w wc))
      case first =>
       have H := HC36.out
       clear HC36
       replace H := Option.bind_eq_some_iff.mp H
       obtain ⟨t324, A390, H⟩ := H
       replace H : ((rillbedlaw06_in.f t324 t313 t314).bind fun t325 => (if (t325 != x11_19) = true then (rillbedlaw06_KeyRanges.j2 kj19 l0 l1 (wrap64 (Int.tmod a2_0 32)) (wrap64 (Int.tmod a2_1 32)) x11_19 x12_19 t322 t323 true t313 t314 t315 t316) else ((key_Meta.f kj19 l1).bind fun t326 => ((key_Below.f kj19 l0).bind fun bt327 => ((rillbedlaw06_in.f t326 bt327.1 bt327.2).bind fun t329 => (if x11_19 = true then (if (t329 != (!x12_19)) = true then (rillbedlaw06_KeyRanges.j2 kj19 l0 l1 (wrap64 (Int.tmod a2_0 32)) (wrap64 (Int.tmod a2_1 32)) x11_19 x12_19 t322 t323 true t313 t314 t315 t316) else ((key_Meta.f kj19 l0).bind fun t330 => ((key_Meta.f kj19 l1).bind fun t331 => (if ((t330.toList == t331.toList) != x12_19) = true then (rillbedlaw06_KeyRanges.j2 kj19 l0 l1 (wrap64 (Int.tmod a2_0 32)) (wrap64 (Int.tmod a2_1 32)) x11_19 x12_19 t322 t323 true t313 t314 t315 t316) else ((key_Meta.f kj19 l1).bind fun t332 => ((strings_Join.f l1 (⟨#[47]⟩ : ByteArray)).bind fun t333 => ((rillbedlaw06_takes.f kj19 t332 109 t333 0).bind fun t334 => (if t334 = true then (if x12_19 = true then (rillbedlaw06_KeyRanges.j2 kj19 l0 l1 (wrap64 (Int.tmod a2_0 32)) (wrap64 (Int.tmod a2_1 32)) x11_19 x12_19 t322 t323 false t313 t314 t315 t316) else ((key_Meta.f kj19 l1).bind fun t335 => ((key_Meta.f kj19 l0).bind fun t336 => (rillbedlaw06_KeyRanges.j2 kj19 l0 l1 (wrap64 (Int.tmod a2_0 32)) (wrap64 (Int.tmod a2_1 32)) x11_19 x12_19 t322 t323 (Op.bytesLess t335.toList t336.toList) t313 t314 t315 t316)))) else (rillbedlaw06_KeyRanges.j2 kj19 l0 l1 (wrap64 (Int.tmod a2_0 32)) (wrap64 (Int.tmod a2_1 32)) x11_19 x12_19 t322 t323 true t313 t314 t315 t316))))))))) else (if (t329 != false) = true then (rillbedlaw06_KeyRanges.j2 kj19 l0 l1 (wrap64 (Int.tmod a2_0 32)) (wrap64 (Int.tmod a2_1 32)) x11_19 x12_19 t322 t323 true t313 t314 t315 t316) else ((key_Meta.f kj19 l0).bind fun t337 => ((key_Meta.f kj19 l1).bind fun t338 => (if ((t337.toList == t338.toList) != x12_19) = true then (rillbedlaw06_KeyRanges.j2 kj19 l0 l1 (wrap64 (Int.tmod a2_0 32)) (wrap64 (Int.tmod a2_1 32)) x11_19 x12_19 t322 t323 true t313 t314 t315 t316) else ((key_Meta.f kj19 l1).bind fun t339 => ((strings_Join.f l1 (⟨#[47]⟩ : ByteArray)).bind fun t340 => ((rillbedlaw06_takes.f kj19 t339 109 t340 0).bind fun t341 => (if t341 = true then (rillbedlaw06_KeyRanges.j2 kj19 l0 l1 (wrap64 (Int.tmod a2_0 32)) (wrap64 (Int.tmod a2_1 32)) x11_19 x12_19 t322 t323 false t313 t314 t315 t316) else (rillbedlaw06_KeyRanges.j2 kj19 l0 l1 (wrap64 (Int.tmod a2_0 32)) (wrap64 (Int.tmod a2_1 32)) x11_19 x12_19 t322 t323 true t313 t314 t315 t316))))))))))))))) = some true := H
       have A39 := Aside0.mk A390
       clear A390
       replace H := Option.bind_eq_some_iff.mp H
       obtain ⟨t325, A400, H⟩ := H
       replace H : (if (t325 != x11_19) = true then (rillbedlaw06_KeyRanges.j2 kj19 l0 l1 (wrap64 (Int.tmod a2_0 32)) (wrap64 (Int.tmod a2_1 32)) x11_19 x12_19 t322 t323 true t313 t314 t315 t316) else ((key_Meta.f kj19 l1).bind fun t326 => ((key_Below.f kj19 l0).bind fun bt327 => ((rillbedlaw06_in.f t326 bt327.1 bt327.2).bind fun t329 => (if x11_19 = true then (if (t329 != (!x12_19)) = true then (rillbedlaw06_KeyRanges.j2 kj19 l0 l1 (wrap64 (Int.tmod a2_0 32)) (wrap64 (Int.tmod a2_1 32)) x11_19 x12_19 t322 t323 true t313 t314 t315 t316) else ((key_Meta.f kj19 l0).bind fun t330 => ((key_Meta.f kj19 l1).bind fun t331 => (if ((t330.toList == t331.toList) != x12_19) = true then (rillbedlaw06_KeyRanges.j2 kj19 l0 l1 (wrap64 (Int.tmod a2_0 32)) (wrap64 (Int.tmod a2_1 32)) x11_19 x12_19 t322 t323 true t313 t314 t315 t316) else ((key_Meta.f kj19 l1).bind fun t332 => ((strings_Join.f l1 (⟨#[47]⟩ : ByteArray)).bind fun t333 => ((rillbedlaw06_takes.f kj19 t332 109 t333 0).bind fun t334 => (if t334 = true then (if x12_19 = true then (rillbedlaw06_KeyRanges.j2 kj19 l0 l1 (wrap64 (Int.tmod a2_0 32)) (wrap64 (Int.tmod a2_1 32)) x11_19 x12_19 t322 t323 false t313 t314 t315 t316) else ((key_Meta.f kj19 l1).bind fun t335 => ((key_Meta.f kj19 l0).bind fun t336 => (rillbedlaw06_KeyRanges.j2 kj19 l0 l1 (wrap64 (Int.tmod a2_0 32)) (wrap64 (Int.tmod a2_1 32)) x11_19 x12_19 t322 t323 (Op.bytesLess t335.toList t336.toList) t313 t314 t315 t316)))) else (rillbedlaw06_KeyRanges.j2 kj19 l0 l1 (wrap64 (Int.tmod a2_0 32)) (wrap64 (Int.tmod a2_1 32)) x11_19 x12_19 t322 t323 true t313 t314 t315 t316))))))))) else (if (t329 != false) = true then (rillbedlaw06_KeyRanges.j2 kj19 l0 l1 (wrap64 (Int.tmod a2_0 32)) (wrap64 (Int.tmod a2_1 32)) x11_19 x12_19 t322 t323 true t313 t314 t315 t316) else ((key_Meta.f kj19 l0).bind fun t337 => ((key_Meta.f kj19 l1).bind fun t338 => (if ((t337.toList == t338.toList) != x12_19) = true then (rillbedlaw06_KeyRanges.j2 kj19 l0 l1 (wrap64 (Int.tmod a2_0 32)) (wrap64 (Int.tmod a2_1 32)) x11_19 x12_19 t322 t323 true t313 t314 t315 t316) else ((key_Meta.f kj19 l1).bind fun t339 => ((strings_Join.f l1 (⟨#[47]⟩ : ByteArray)).bind fun t340 => ((rillbedlaw06_takes.f kj19 t339 109 t340 0).bind fun t341 => (if t341 = true then (rillbedlaw06_KeyRanges.j2 kj19 l0 l1 (wrap64 (Int.tmod a2_0 32)) (wrap64 (Int.tmod a2_1 32)) x11_19 x12_19 t322 t323 false t313 t314 t315 t316) else (rillbedlaw06_KeyRanges.j2 kj19 l0 l1 (wrap64 (Int.tmod a2_0 32)) (wrap64 (Int.tmod a2_1 32)) x11_19 x12_19 t322 t323 true t313 t314 t315 t316)))))))))))))) = some true := H
       have A40 := Aside0.mk A400
       clear A400
       by_cases c41 : (t325 != x11_19) = true
       ·rw [if_pos c41] at H
        have c41b0 : (t325 != x11_19) = true := c41
        (try (have c41b1 : decide (t325 = x11_19) = false := by simpa using c41))
        (try (have c41b2 : (t325 == x11_19) = false := by simpa using c41))
        (try (have c41b3 : ¬ (t325 = x11_19) := by simpa using c41))
        clear c41
        (first | rw [c41b0] | (simp only [i64_w, i32_w]; rw [c41b0]) | skip)
        exact absurd H (by cases kj19 <;> simp [rillbedlaw06_KeyRanges.j2])
       ·rw [if_neg c41] at H
        have c41b0 : (t325 != x11_19) = false := by simpa using c41
        (try (have c41b1 : decide (t325 = x11_19) = true := by simpa using c41))
        (try (have c41b2 : (t325 == x11_19) = true := by simpa using c41))
        clear c41
        (first | rw [c41b0] | (simp only [i64_w, i32_w]; rw [c41b0]) | skip)
        replace H := Option.bind_eq_some_iff.mp H
        obtain ⟨t326, A450, H⟩ := H
        replace H : ((key_Below.f kj19 l0).bind fun bt327 => ((rillbedlaw06_in.f t326 bt327.1 bt327.2).bind fun t329 => (if x11_19 = true then (if (t329 != (!x12_19)) = true then (rillbedlaw06_KeyRanges.j2 kj19 l0 l1 (wrap64 (Int.tmod a2_0 32)) (wrap64 (Int.tmod a2_1 32)) x11_19 x12_19 t322 t323 true t313 t314 t315 t316) else ((key_Meta.f kj19 l0).bind fun t330 => ((key_Meta.f kj19 l1).bind fun t331 => (if ((t330.toList == t331.toList) != x12_19) = true then (rillbedlaw06_KeyRanges.j2 kj19 l0 l1 (wrap64 (Int.tmod a2_0 32)) (wrap64 (Int.tmod a2_1 32)) x11_19 x12_19 t322 t323 true t313 t314 t315 t316) else ((key_Meta.f kj19 l1).bind fun t332 => ((strings_Join.f l1 (⟨#[47]⟩ : ByteArray)).bind fun t333 => ((rillbedlaw06_takes.f kj19 t332 109 t333 0).bind fun t334 => (if t334 = true then (if x12_19 = true then (rillbedlaw06_KeyRanges.j2 kj19 l0 l1 (wrap64 (Int.tmod a2_0 32)) (wrap64 (Int.tmod a2_1 32)) x11_19 x12_19 t322 t323 false t313 t314 t315 t316) else ((key_Meta.f kj19 l1).bind fun t335 => ((key_Meta.f kj19 l0).bind fun t336 => (rillbedlaw06_KeyRanges.j2 kj19 l0 l1 (wrap64 (Int.tmod a2_0 32)) (wrap64 (Int.tmod a2_1 32)) x11_19 x12_19 t322 t323 (Op.bytesLess t335.toList t336.toList) t313 t314 t315 t316)))) else (rillbedlaw06_KeyRanges.j2 kj19 l0 l1 (wrap64 (Int.tmod a2_0 32)) (wrap64 (Int.tmod a2_1 32)) x11_19 x12_19 t322 t323 true t313 t314 t315 t316))))))))) else (if (t329 != false) = true then (rillbedlaw06_KeyRanges.j2 kj19 l0 l1 (wrap64 (Int.tmod a2_0 32)) (wrap64 (Int.tmod a2_1 32)) x11_19 x12_19 t322 t323 true t313 t314 t315 t316) else ((key_Meta.f kj19 l0).bind fun t337 => ((key_Meta.f kj19 l1).bind fun t338 => (if ((t337.toList == t338.toList) != x12_19) = true then (rillbedlaw06_KeyRanges.j2 kj19 l0 l1 (wrap64 (Int.tmod a2_0 32)) (wrap64 (Int.tmod a2_1 32)) x11_19 x12_19 t322 t323 true t313 t314 t315 t316) else ((key_Meta.f kj19 l1).bind fun t339 => ((strings_Join.f l1 (⟨#[47]⟩ : ByteArray)).bind fun t340 => ((rillbedlaw06_takes.f kj19 t339 109 t340 0).bind fun t341 => (if t341 = true then (rillbedlaw06_KeyRanges.j2 kj19 l0 l1 (wrap64 (Int.tmod a2_0 32)) (wrap64 (Int.tmod a2_1 32)) x11_19 x12_19 t322 t323 false t313 t314 t315 t316) else (rillbedlaw06_KeyRanges.j2 kj19 l0 l1 (wrap64 (Int.tmod a2_0 32)) (wrap64 (Int.tmod a2_1 32)) x11_19 x12_19 t322 t323 true t313 t314 t315 t316)))))))))))) = some true := H
        have A45 := Aside0.mk A450
        clear A450
        replace H := Option.bind_eq_some_iff.mp H
        obtain ⟨⟨t327, t328⟩, A460, H⟩ := H
        replace H : ((rillbedlaw06_in.f t326 t327 t328).bind fun t329 => (if x11_19 = true then (if (t329 != (!x12_19)) = true then (rillbedlaw06_KeyRanges.j2 kj19 l0 l1 (wrap64 (Int.tmod a2_0 32)) (wrap64 (Int.tmod a2_1 32)) x11_19 x12_19 t322 t323 true t313 t314 t315 t316) else ((key_Meta.f kj19 l0).bind fun t330 => ((key_Meta.f kj19 l1).bind fun t331 => (if ((t330.toList == t331.toList) != x12_19) = true then (rillbedlaw06_KeyRanges.j2 kj19 l0 l1 (wrap64 (Int.tmod a2_0 32)) (wrap64 (Int.tmod a2_1 32)) x11_19 x12_19 t322 t323 true t313 t314 t315 t316) else ((key_Meta.f kj19 l1).bind fun t332 => ((strings_Join.f l1 (⟨#[47]⟩ : ByteArray)).bind fun t333 => ((rillbedlaw06_takes.f kj19 t332 109 t333 0).bind fun t334 => (if t334 = true then (if x12_19 = true then (rillbedlaw06_KeyRanges.j2 kj19 l0 l1 (wrap64 (Int.tmod a2_0 32)) (wrap64 (Int.tmod a2_1 32)) x11_19 x12_19 t322 t323 false t313 t314 t315 t316) else ((key_Meta.f kj19 l1).bind fun t335 => ((key_Meta.f kj19 l0).bind fun t336 => (rillbedlaw06_KeyRanges.j2 kj19 l0 l1 (wrap64 (Int.tmod a2_0 32)) (wrap64 (Int.tmod a2_1 32)) x11_19 x12_19 t322 t323 (Op.bytesLess t335.toList t336.toList) t313 t314 t315 t316)))) else (rillbedlaw06_KeyRanges.j2 kj19 l0 l1 (wrap64 (Int.tmod a2_0 32)) (wrap64 (Int.tmod a2_1 32)) x11_19 x12_19 t322 t323 true t313 t314 t315 t316))))))))) else (if (t329 != false) = true then (rillbedlaw06_KeyRanges.j2 kj19 l0 l1 (wrap64 (Int.tmod a2_0 32)) (wrap64 (Int.tmod a2_1 32)) x11_19 x12_19 t322 t323 true t313 t314 t315 t316) else ((key_Meta.f kj19 l0).bind fun t337 => ((key_Meta.f kj19 l1).bind fun t338 => (if ((t337.toList == t338.toList) != x12_19) = true then (rillbedlaw06_KeyRanges.j2 kj19 l0 l1 (wrap64 (Int.tmod a2_0 32)) (wrap64 (Int.tmod a2_1 32)) x11_19 x12_19 t322 t323 true t313 t314 t315 t316) else ((key_Meta.f kj19 l1).bind fun t339 => ((strings_Join.f l1 (⟨#[47]⟩ : ByteArray)).bind fun t340 => ((rillbedlaw06_takes.f kj19 t339 109 t340 0).bind fun t341 => (if t341 = true then (rillbedlaw06_KeyRanges.j2 kj19 l0 l1 (wrap64 (Int.tmod a2_0 32)) (wrap64 (Int.tmod a2_1 32)) x11_19 x12_19 t322 t323 false t313 t314 t315 t316) else (rillbedlaw06_KeyRanges.j2 kj19 l0 l1 (wrap64 (Int.tmod a2_0 32)) (wrap64 (Int.tmod a2_1 32)) x11_19 x12_19 t322 t323 true t313 t314 t315 t316))))))))))) = some true := H
        have A46 := Aside0.mk A460
        clear A460
        replace H := Option.bind_eq_some_iff.mp H
        obtain ⟨t329, A470, H⟩ := H
        replace H : (if x11_19 = true then (if (t329 != (!x12_19)) = true then (rillbedlaw06_KeyRanges.j2 kj19 l0 l1 (wrap64 (Int.tmod a2_0 32)) (wrap64 (Int.tmod a2_1 32)) x11_19 x12_19 t322 t323 true t313 t314 t315 t316) else ((key_Meta.f kj19 l0).bind fun t330 => ((key_Meta.f kj19 l1).bind fun t331 => (if ((t330.toList == t331.toList) != x12_19) = true then (rillbedlaw06_KeyRanges.j2 kj19 l0 l1 (wrap64 (Int.tmod a2_0 32)) (wrap64 (Int.tmod a2_1 32)) x11_19 x12_19 t322 t323 true t313 t314 t315 t316) else ((key_Meta.f kj19 l1).bind fun t332 => ((strings_Join.f l1 (⟨#[47]⟩ : ByteArray)).bind fun t333 => ((rillbedlaw06_takes.f kj19 t332 109 t333 0).bind fun t334 => (if t334 = true then (if x12_19 = true then (rillbedlaw06_KeyRanges.j2 kj19 l0 l1 (wrap64 (Int.tmod a2_0 32)) (wrap64 (Int.tmod a2_1 32)) x11_19 x12_19 t322 t323 false t313 t314 t315 t316) else ((key_Meta.f kj19 l1).bind fun t335 => ((key_Meta.f kj19 l0).bind fun t336 => (rillbedlaw06_KeyRanges.j2 kj19 l0 l1 (wrap64 (Int.tmod a2_0 32)) (wrap64 (Int.tmod a2_1 32)) x11_19 x12_19 t322 t323 (Op.bytesLess t335.toList t336.toList) t313 t314 t315 t316)))) else (rillbedlaw06_KeyRanges.j2 kj19 l0 l1 (wrap64 (Int.tmod a2_0 32)) (wrap64 (Int.tmod a2_1 32)) x11_19 x12_19 t322 t323 true t313 t314 t315 t316))))))))) else (if (t329 != false) = true then (rillbedlaw06_KeyRanges.j2 kj19 l0 l1 (wrap64 (Int.tmod a2_0 32)) (wrap64 (Int.tmod a2_1 32)) x11_19 x12_19 t322 t323 true t313 t314 t315 t316) else ((key_Meta.f kj19 l0).bind fun t337 => ((key_Meta.f kj19 l1).bind fun t338 => (if ((t337.toList == t338.toList) != x12_19) = true then (rillbedlaw06_KeyRanges.j2 kj19 l0 l1 (wrap64 (Int.tmod a2_0 32)) (wrap64 (Int.tmod a2_1 32)) x11_19 x12_19 t322 t323 true t313 t314 t315 t316) else ((key_Meta.f kj19 l1).bind fun t339 => ((strings_Join.f l1 (⟨#[47]⟩ : ByteArray)).bind fun t340 => ((rillbedlaw06_takes.f kj19 t339 109 t340 0).bind fun t341 => (if t341 = true then (rillbedlaw06_KeyRanges.j2 kj19 l0 l1 (wrap64 (Int.tmod a2_0 32)) (wrap64 (Int.tmod a2_1 32)) x11_19 x12_19 t322 t323 false t313 t314 t315 t316) else (rillbedlaw06_KeyRanges.j2 kj19 l0 l1 (wrap64 (Int.tmod a2_0 32)) (wrap64 (Int.tmod a2_1 32)) x11_19 x12_19 t322 t323 true t313 t314 t315 t316)))))))))) = some true := H
        have A47 := Aside0.mk A470
        clear A470
        by_cases c48 : x11_19 = true
        ·subst c48
         have H1 : (if (t329 != (!x12_19)) = true then (rillbedlaw06_KeyRanges.j2 kj19 l0 l1 (wrap64 (Int.tmod a2_0 32)) (wrap64 (Int.tmod a2_1 32)) true x12_19 t322 t323 true t313 t314 t315 t316) else ((key_Meta.f kj19 l0).bind fun t330 => ((key_Meta.f kj19 l1).bind fun t331 => (if ((t330.toList == t331.toList) != x12_19) = true then (rillbedlaw06_KeyRanges.j2 kj19 l0 l1 (wrap64 (Int.tmod a2_0 32)) (wrap64 (Int.tmod a2_1 32)) true x12_19 t322 t323 true t313 t314 t315 t316) else ((key_Meta.f kj19 l1).bind fun t332 => ((strings_Join.f l1 (⟨#[47]⟩ : ByteArray)).bind fun t333 => ((rillbedlaw06_takes.f kj19 t332 109 t333 0).bind fun t334 => (if t334 = true then (if x12_19 = true then (rillbedlaw06_KeyRanges.j2 kj19 l0 l1 (wrap64 (Int.tmod a2_0 32)) (wrap64 (Int.tmod a2_1 32)) true x12_19 t322 t323 false t313 t314 t315 t316) else ((key_Meta.f kj19 l1).bind fun t335 => ((key_Meta.f kj19 l0).bind fun t336 => (rillbedlaw06_KeyRanges.j2 kj19 l0 l1 (wrap64 (Int.tmod a2_0 32)) (wrap64 (Int.tmod a2_1 32)) true x12_19 t322 t323 (Op.bytesLess t335.toList t336.toList) t313 t314 t315 t316)))) else (rillbedlaw06_KeyRanges.j2 kj19 l0 l1 (wrap64 (Int.tmod a2_0 32)) (wrap64 (Int.tmod a2_1 32)) true x12_19 t322 t323 true t313 t314 t315 t316))))))))) = some true := by rw [if_pos rfl] at H; exact H
         clear H
         have H := H1
         clear H1
         by_cases c49 : (t329 != (!x12_19)) = true
         ·rw [if_pos c49] at H
          have c49b0 : (t329 != (!x12_19)) = true := c49
          (try (have c49b1 : decide (t329 = (!x12_19)) = false := by simpa using c49))
          (try (have c49b2 : (t329 == (!x12_19)) = false := by simpa using c49))
          (try (have c49b3 : ¬ (t329 = (!x12_19)) := by simpa using c49))
          clear c49
          exact absurd H (by cases kj19 <;> simp [rillbedlaw06_KeyRanges.j2])
         ·rw [if_neg c49] at H
          have c49b0 : (t329 != (!x12_19)) = false := by simpa using c49
          (try (have c49b1 : decide (t329 = (!x12_19)) = true := by simpa using c49))
          (try (have c49b2 : (t329 == (!x12_19)) = true := by simpa using c49))
          clear c49
          replace H := Option.bind_eq_some_iff.mp H
          obtain ⟨t330, A560, H⟩ := H
          replace H : ((key_Meta.f kj19 l1).bind fun t331 => (if ((t330.toList == t331.toList) != x12_19) = true then (rillbedlaw06_KeyRanges.j2 kj19 l0 l1 (wrap64 (Int.tmod a2_0 32)) (wrap64 (Int.tmod a2_1 32)) true x12_19 t322 t323 true t313 t314 t315 t316) else ((key_Meta.f kj19 l1).bind fun t332 => ((strings_Join.f l1 (⟨#[47]⟩ : ByteArray)).bind fun t333 => ((rillbedlaw06_takes.f kj19 t332 109 t333 0).bind fun t334 => (if t334 = true then (if x12_19 = true then (rillbedlaw06_KeyRanges.j2 kj19 l0 l1 (wrap64 (Int.tmod a2_0 32)) (wrap64 (Int.tmod a2_1 32)) true x12_19 t322 t323 false t313 t314 t315 t316) else ((key_Meta.f kj19 l1).bind fun t335 => ((key_Meta.f kj19 l0).bind fun t336 => (rillbedlaw06_KeyRanges.j2 kj19 l0 l1 (wrap64 (Int.tmod a2_0 32)) (wrap64 (Int.tmod a2_1 32)) true x12_19 t322 t323 (Op.bytesLess t335.toList t336.toList) t313 t314 t315 t316)))) else (rillbedlaw06_KeyRanges.j2 kj19 l0 l1 (wrap64 (Int.tmod a2_0 32)) (wrap64 (Int.tmod a2_1 32)) true x12_19 t322 t323 true t313 t314 t315 t316))))))) = some true := H
          have A56 := Aside0.mk A560
          clear A560
          replace H := Option.bind_eq_some_iff.mp H
          obtain ⟨t331, A570, H⟩ := H
          replace H : (if ((t330.toList == t331.toList) != x12_19) = true then (rillbedlaw06_KeyRanges.j2 kj19 l0 l1 (wrap64 (Int.tmod a2_0 32)) (wrap64 (Int.tmod a2_1 32)) true x12_19 t322 t323 true t313 t314 t315 t316) else ((key_Meta.f kj19 l1).bind fun t332 => ((strings_Join.f l1 (⟨#[47]⟩ : ByteArray)).bind fun t333 => ((rillbedlaw06_takes.f kj19 t332 109 t333 0).bind fun t334 => (if t334 = true then (if x12_19 = true then (rillbedlaw06_KeyRanges.j2 kj19 l0 l1 (wrap64 (Int.tmod a2_0 32)) (wrap64 (Int.tmod a2_1 32)) true x12_19 t322 t323 false t313 t314 t315 t316) else ((key_Meta.f kj19 l1).bind fun t335 => ((key_Meta.f kj19 l0).bind fun t336 => (rillbedlaw06_KeyRanges.j2 kj19 l0 l1 (wrap64 (Int.tmod a2_0 32)) (wrap64 (Int.tmod a2_1 32)) true x12_19 t322 t323 (Op.bytesLess t335.toList t336.toList) t313 t314 t315 t316)))) else (rillbedlaw06_KeyRanges.j2 kj19 l0 l1 (wrap64 (Int.tmod a2_0 32)) (wrap64 (Int.tmod a2_1 32)) true x12_19 t322 t323 true t313 t314 t315 t316)))))) = some true := H
          have A57 := Aside0.mk A570
          clear A570
          by_cases c58 : ((t330.toList == t331.toList) != x12_19) = true
          ·rw [if_pos c58] at H
           have c58b0 : ((t330.toList == t331.toList) != x12_19) = true := c58
           (try (have c58b1 : decide ((t330.toList == t331.toList) = x12_19) = false := by simpa using c58))
           (try (have c58b2 : ((t330.toList == t331.toList) == x12_19) = false := by simpa using c58))
           (try (have c58b3 : ¬ ((t330.toList == t331.toList) = x12_19) := by simpa using c58))
           clear c58
           exact absurd H (by cases kj19 <;> simp [rillbedlaw06_KeyRanges.j2])
          ·rw [if_neg c58] at H
           have c58b0 : ((t330.toList == t331.toList) != x12_19) = false := by simpa using c58
           (try (have c58b1 : decide ((t330.toList == t331.toList) = x12_19) = true := by simpa using c58))
           (try (have c58b2 : ((t330.toList == t331.toList) == x12_19) = true := by simpa using c58))
           clear c58
           replace H := Option.bind_eq_some_iff.mp H
           obtain ⟨t332, A670, H⟩ := H
           replace H : ((strings_Join.f l1 (⟨#[47]⟩ : ByteArray)).bind fun t333 => ((rillbedlaw06_takes.f kj19 t332 109 t333 0).bind fun t334 => (if t334 = true then (if x12_19 = true then (rillbedlaw06_KeyRanges.j2 kj19 l0 l1 (wrap64 (Int.tmod a2_0 32)) (wrap64 (Int.tmod a2_1 32)) true x12_19 t322 t323 false t313 t314 t315 t316) else ((key_Meta.f kj19 l1).bind fun t335 => ((key_Meta.f kj19 l0).bind fun t336 => (rillbedlaw06_KeyRanges.j2 kj19 l0 l1 (wrap64 (Int.tmod a2_0 32)) (wrap64 (Int.tmod a2_1 32)) true x12_19 t322 t323 (Op.bytesLess t335.toList t336.toList) t313 t314 t315 t316)))) else (rillbedlaw06_KeyRanges.j2 kj19 l0 l1 (wrap64 (Int.tmod a2_0 32)) (wrap64 (Int.tmod a2_1 32)) true x12_19 t322 t323 true t313 t314 t315 t316)))) = some true := H
           have A67 := Aside0.mk A670
           clear A670
           replace H := Option.bind_eq_some_iff.mp H
           obtain ⟨t333, A680, H⟩ := H
           replace H : ((rillbedlaw06_takes.f kj19 t332 109 t333 0).bind fun t334 => (if t334 = true then (if x12_19 = true then (rillbedlaw06_KeyRanges.j2 kj19 l0 l1 (wrap64 (Int.tmod a2_0 32)) (wrap64 (Int.tmod a2_1 32)) true x12_19 t322 t323 false t313 t314 t315 t316) else ((key_Meta.f kj19 l1).bind fun t335 => ((key_Meta.f kj19 l0).bind fun t336 => (rillbedlaw06_KeyRanges.j2 kj19 l0 l1 (wrap64 (Int.tmod a2_0 32)) (wrap64 (Int.tmod a2_1 32)) true x12_19 t322 t323 (Op.bytesLess t335.toList t336.toList) t313 t314 t315 t316)))) else (rillbedlaw06_KeyRanges.j2 kj19 l0 l1 (wrap64 (Int.tmod a2_0 32)) (wrap64 (Int.tmod a2_1 32)) true x12_19 t322 t323 true t313 t314 t315 t316))) = some true := H
           have A68 := Aside0.mk A680
           clear A680
           replace H := Option.bind_eq_some_iff.mp H
           obtain ⟨t334, A690, H⟩ := H
           replace H : (if t334 = true then (if x12_19 = true then (rillbedlaw06_KeyRanges.j2 kj19 l0 l1 (wrap64 (Int.tmod a2_0 32)) (wrap64 (Int.tmod a2_1 32)) true x12_19 t322 t323 false t313 t314 t315 t316) else ((key_Meta.f kj19 l1).bind fun t335 => ((key_Meta.f kj19 l0).bind fun t336 => (rillbedlaw06_KeyRanges.j2 kj19 l0 l1 (wrap64 (Int.tmod a2_0 32)) (wrap64 (Int.tmod a2_1 32)) true x12_19 t322 t323 (Op.bytesLess t335.toList t336.toList) t313 t314 t315 t316)))) else (rillbedlaw06_KeyRanges.j2 kj19 l0 l1 (wrap64 (Int.tmod a2_0 32)) (wrap64 (Int.tmod a2_1 32)) true x12_19 t322 t323 true t313 t314 t315 t316)) = some true := H
           have A69 := Aside0.mk A690
           clear A690
           by_cases c70 : t334 = true
           ·subst c70
            have H1 : (if x12_19 = true then (rillbedlaw06_KeyRanges.j2 kj19 l0 l1 (wrap64 (Int.tmod a2_0 32)) (wrap64 (Int.tmod a2_1 32)) true x12_19 t322 t323 false t313 t314 t315 t316) else ((key_Meta.f kj19 l1).bind fun t335 => ((key_Meta.f kj19 l0).bind fun t336 => (rillbedlaw06_KeyRanges.j2 kj19 l0 l1 (wrap64 (Int.tmod a2_0 32)) (wrap64 (Int.tmod a2_1 32)) true x12_19 t322 t323 (Op.bytesLess t335.toList t336.toList) t313 t314 t315 t316)))) = some true := by rw [if_pos rfl] at H; exact H
            clear H
            have H := H1
            clear H1
            by_cases c71 : x12_19 = true
            ·subst c71
             have g329 : t329 = false := by simpa using c49b0
             have g330 : (t330.toList == t331.toList) = true := by simpa using c58b0
             have H1 : (rillbedlaw06_KeyRanges.j2 kj19 l0 l1 (wrap64 (Int.tmod a2_0 32)) (wrap64 (Int.tmod a2_1 32)) true true t322 t323 false t313 t314 t315 t316) = some true := by rw [if_pos rfl] at H; exact H
             clear H
             have H := H1
             clear H1
             have H' := Aside0.mk H
             clear H
             try go_wp2
             have n0_ := Aside0.mk (blk_drew BK307.out)
             have n1_ := Aside0.mk (blk_drew BK317.out)
             have n2_ := Aside0.mk (blk_drew BK318.out)
             have n3_ := Aside0.mk (below_drew1 HB.out)
             clear BK307
             clear BK317
             clear BK318
             clear HB
             have BK307 := n0_
             have BK317 := n1_
             have BK318 := n2_
             have HB := n3_
             clear n0_ n1_ n2_ n3_
             refine start_ (n := 50) (S := fun w' => w'.cell? ⟨gb317, 0, none⟩ = some (.string t313) ∧ w'.cell? ⟨gb317, 1, none⟩ = some (.string t314)) (ds := []) KeyRanges.m0 (by kernel_rfl) rfl rfl ⟨(blk_cell BK317.out 0).trans rfl, (blk_cell BK317.out 1).trans rfl⟩ (fun hHeld => ?_); refine with_tabW rillbedlaw06_KeyRanges.tab7 rillbedlaw06_KeyRanges.bits7 (fun HT_ HW_ => ?_)
             generalize w38.drew = w72 at BK307 BK317 BK318 HB hHeld ⊢
             refine pure_ (i := 0) (N := some 64) (v := ?_) (a' := ?_) KeyRanges.m1 rfl rfl (any_of HT_.out (by kernel_rfl)) (fun _ _ _ h => h) (Or.inl ⟨by rfl, ?_⟩) ?_ ?_
             rotate_left
             ·intro w'
              go_simp
              with_reducible rfl
             rotate_left
             ·simp only [Act.put, List.setIfInBounds_toArray, List.set_cons_zero, List.set_cons_succ, i64_w, i32_w]
              rfl
             refine pure_ (i := 4) (N := some 68) (v := ?_) (a' := ?_) KeyRanges.m2 rfl rfl (any_of HT_.out (by kernel_rfl)) (fun _ _ _ h => h) (Or.inl ⟨by rfl, ?_⟩) ?_ ?_
             rotate_left
             ·intro w'
              go_simp
              with_reducible rfl
             rotate_left
             ·simp only [Act.put, List.setIfInBounds_toArray, List.set_cons_zero, List.set_cons_succ, i64_w, i32_w]
              rfl
             refine take_ (i := 2) (N := some 66) (v := ?_) (a' := ?_) KeyRanges.m3 rfl rfl (take_ofW HT_.out HW_.out (by kernel_rfl)) (fun _ _ _ h => h) (Or.inl ⟨by rfl, ?_⟩) hHeld ?_ ?_
             rotate_left
             ·rintro w' ⟨s0, s1⟩
              go_simp
              with_reducible rfl
             rotate_left
             ·simp only [Act.put, List.setIfInBounds_toArray, List.set_cons_zero, List.set_cons_succ, i64_w, i32_w]
              rfl
             refine one_ (i := 1) (N := some 65) KeyRanges.m4 rfl rfl (one_of HT_.out (by kernel_rfl)) (by decide) (fun K hK => ?_)
             refine goes_ Tryd.func28 (by kernel_rfl) rfl #[.slice A1 l1.length c1] (by rfl) rfl rfl (by (try simp only [List.map_toArray, List.map_cons, List.map_nil]); first | done | rfl | (simp only [List.length_drop, List.length_take]; rfl)) ?_
             with_reducible refine (key_Meta.calls kj19 _ _ l1 t324 _ ?side1 ?side2 A39.out).mono ?_
             (case side1 => repeat (first | exact (Kd.C_below HR1.out HB.out) | (with_reducible refine Kd.C_alloc ?_ _) | (with_reducible refine Kd.C_drewN ?_ _) | (with_reducible refine Kd.C_drew ?_)))
             (case side2 => exact HC1.out)
             rintro e w73 ⟨rfl, hb⟩
             refine ⟨_, rfl, ?_⟩
             have n0_ := Aside0.mk (blk_below (g := gb307) (o := .cells #[.int .u8 a2_0, .int .u8 a2_1] 65 (0, 0)) (by (with_reducible repeat (first | refine blk_drewN ?_ _ | refine blk_drew ?_ | refine blk_alloc ?_ _)); exact BK307.out) hb)
             have n1_ := Aside0.mk (blk_below (g := gb317) (o := .cells #[.string t313, .string t314] 49 (0, 0)) (by (with_reducible repeat (first | refine blk_drewN ?_ _ | refine blk_drew ?_ | refine blk_alloc ?_ _)); exact BK317.out) hb)
             have n2_ := Aside0.mk (blk_below (g := gb318) (o := .cells #[.string t315, .string t316] 49 (0, 0)) (by (with_reducible repeat (first | refine blk_drewN ?_ _ | refine blk_drew ?_ | refine blk_alloc ?_ _)); exact BK318.out) hb)
             have n3_ := Aside0.mk (below_step (by repeat (first | (with_reducible first | exact HB.out | apply below_alloc | apply pw_below_drewN | apply below_drew1 | refine below_set ?_ GE307.out | refine below_set ?_ GE317.out | refine below_set ?_ GE318.out) | exact HB.out)) hb)
             clear BK307
             clear BK317
             clear BK318
             clear HB
             have BK307 := n0_
             have BK317 := n1_
             have BK318 := n2_
             have HB := n3_
             clear n0_ n1_ n2_ n3_
             (try clear hb)
             (try clear hb2)
             (try clear hk)
             (try clear hi)
             refine hK.out _ _ ⟨(blk_cell BK317.out 0).trans rfl, (blk_cell BK317.out 1).trans rfl⟩ (fun hHeld => ?_)
             clear hK K
             refine norm_ (a' := ?_) ?_ ?_
             rotate_left
             ·show Act.put _ (some 65) _ = _
              simp only [Act.put, List.setIfInBounds_toArray, List.set_cons_zero, List.set_cons_succ, i64_w, i32_w]
              rfl
             refine one_ (i := 3) (N := some 67) KeyRanges.m5 rfl rfl (one_of HT_.out (by kernel_rfl)) (by decide) (fun K hK => ?_)
             refine goes_ Tryd.func43 (by kernel_rfl) rfl #[.string t324, .agg #[.string t313, .string t314]] (by rfl) rfl rfl (by (try simp only [List.map_toArray, List.map_cons, List.map_nil]); first | done | rfl | (simp only [List.length_drop, List.length_take]; rfl)) ?_
             with_reducible refine (rillbedlaw06_in.calls t324 t313 t314 t325 _ A40.out).mono ?_
             rintro e w74 ⟨rfl, hb⟩
             refine ⟨_, rfl, ?_⟩
             have n0_ := Aside0.mk (blk_below (g := gb307) (o := .cells #[.int .u8 a2_0, .int .u8 a2_1] 65 (0, 0)) (by (with_reducible repeat (first | refine blk_drewN ?_ _ | refine blk_drew ?_ | refine blk_alloc ?_ _)); exact BK307.out) hb)
             have n1_ := Aside0.mk (blk_below (g := gb317) (o := .cells #[.string t313, .string t314] 49 (0, 0)) (by (with_reducible repeat (first | refine blk_drewN ?_ _ | refine blk_drew ?_ | refine blk_alloc ?_ _)); exact BK317.out) hb)
             have n2_ := Aside0.mk (blk_below (g := gb318) (o := .cells #[.string t315, .string t316] 49 (0, 0)) (by (with_reducible repeat (first | refine blk_drewN ?_ _ | refine blk_drew ?_ | refine blk_alloc ?_ _)); exact BK318.out) hb)
             have n3_ := Aside0.mk (below_step (by repeat (first | (with_reducible first | exact HB.out | apply below_alloc | apply pw_below_drewN | apply below_drew1 | refine below_set ?_ GE307.out | refine below_set ?_ GE317.out | refine below_set ?_ GE318.out) | exact HB.out)) hb)
             clear BK307
             clear BK317
             clear BK318
             clear HB
             have BK307 := n0_
             have BK317 := n1_
             have BK318 := n2_
             have HB := n3_
             clear n0_ n1_ n2_ n3_
             (try clear hb)
             (try clear hb2)
             (try clear hk)
             (try clear hi)
             refine hK.out _ _ ⟨(blk_cell BK317.out 0).trans rfl, (blk_cell BK317.out 1).trans rfl⟩ (fun hHeld => ?_)
             clear hK K
             refine norm_ (a' := ?_) ?_ ?_
             rotate_left
             ·show Act.put _ (some 67) _ = _
              simp only [Act.put, List.setIfInBounds_toArray, List.set_cons_zero, List.set_cons_succ, i64_w, i32_w]
              rfl
             refine pure_ (i := 5) (N := some 69) (v := ?_) (a' := ?_) KeyRanges.m6 rfl rfl (any_of HT_.out (by kernel_rfl)) (fun _ _ _ h => h) (Or.inl ⟨by rfl, ?_⟩) ?_ ?_
             rotate_left
             ·intro w'
              go_simp
              with_reducible rfl
             rotate_left
             ·simp only [Act.put, List.setIfInBounds_toArray, List.set_cons_zero, List.set_cons_succ, i64_w, i32_w]
              rfl
             refine pure_ (i := 6) (N := some 70) (v := ?_) (a' := ?_) KeyRanges.m7 rfl rfl (any_of HT_.out (by kernel_rfl)) (fun _ _ _ h => h) (Or.inl ⟨by rfl, ?_⟩) ?_ ?_
             rotate_left
             ·intro w'
              go_simp
              with_reducible rfl
             rotate_left
             ·simp only [Act.put, List.setIfInBounds_toArray, List.set_cons_zero, List.set_cons_succ, i64_w, i32_w]
              rfl
             refine pure_ (i := 7) (N := some 71) (v := ?_) (a' := ?_) KeyRanges.m8 rfl rfl (any_of HT_.out (by kernel_rfl)) (fun _ _ _ h => h) (Or.inl ⟨by rfl, ?_⟩) ?_ ?_
             rotate_left
             ·intro w'
              go_simp
              with_reducible rfl
             rotate_left
             ·simp only [Act.put, List.setIfInBounds_toArray, List.set_cons_zero, List.set_cons_succ, i64_w, i32_w]
              rfl
             refine pure_ (i := 9) (N := some 73) (v := ?_) (a' := ?_) KeyRanges.m9 rfl rfl (any_of HT_.out (by kernel_rfl)) (fun _ _ _ h => h) (Or.inl ⟨by rfl, ?_⟩) ?_ ?_
             rotate_left
             ·intro w'
              go_simp
              with_reducible rfl
             rotate_left
             ·simp only [Act.put, List.setIfInBounds_toArray, List.set_cons_zero, List.set_cons_succ, i64_w, i32_w]
              rfl
             refine pure_ (i := 12) (N := some 76) (v := ?_) (a' := ?_) KeyRanges.m10 rfl rfl (any_of HT_.out (by kernel_rfl)) (fun _ _ _ h => h) (Or.inl ⟨by rfl, ?_⟩) ?_ ?_
             rotate_left
             ·intro w'
              go_simp
              with_reducible rfl
             rotate_left
             ·simp only [Act.put, List.setIfInBounds_toArray, List.set_cons_zero, List.set_cons_succ, i64_w, i32_w]
              rfl
             refine one_ (i := 8) (N := some 72) KeyRanges.m11 rfl rfl (one_of HT_.out (by kernel_rfl)) (by decide) (fun K hK => ?_)
             refine goes_ Tryd.func28 (by kernel_rfl) rfl #[.slice A1 l1.length c1] (by rfl) rfl rfl (by (try simp only [List.map_toArray, List.map_cons, List.map_nil]); first | done | rfl | (simp only [List.length_drop, List.length_take]; rfl)) ?_
             with_reducible refine (key_Meta.calls kj19 _ _ l1 t326 _ ?side1 ?side2 A45.out).mono ?_
             (case side1 => repeat (first | exact (Kd.C_below HR1.out HB.out) | (with_reducible refine Kd.C_alloc ?_ _) | (with_reducible refine Kd.C_drewN ?_ _) | (with_reducible refine Kd.C_drew ?_)))
             (case side2 => exact HC1.out)
             rintro e w75 ⟨rfl, hb⟩
             refine ⟨_, rfl, ?_⟩
             have n0_ := Aside0.mk (blk_below (g := gb307) (o := .cells #[.int .u8 a2_0, .int .u8 a2_1] 65 (0, 0)) (by (with_reducible repeat (first | refine blk_drewN ?_ _ | refine blk_drew ?_ | refine blk_alloc ?_ _)); exact BK307.out) hb)
             have n1_ := Aside0.mk (blk_below (g := gb317) (o := .cells #[.string t313, .string t314] 49 (0, 0)) (by (with_reducible repeat (first | refine blk_drewN ?_ _ | refine blk_drew ?_ | refine blk_alloc ?_ _)); exact BK317.out) hb)
             have n2_ := Aside0.mk (blk_below (g := gb318) (o := .cells #[.string t315, .string t316] 49 (0, 0)) (by (with_reducible repeat (first | refine blk_drewN ?_ _ | refine blk_drew ?_ | refine blk_alloc ?_ _)); exact BK318.out) hb)
             have n3_ := Aside0.mk (below_step (by repeat (first | (with_reducible first | exact HB.out | apply below_alloc | apply pw_below_drewN | apply below_drew1 | refine below_set ?_ GE307.out | refine below_set ?_ GE317.out | refine below_set ?_ GE318.out) | exact HB.out)) hb)
             clear BK307
             clear BK317
             clear BK318
             clear HB
             have BK307 := n0_
             have BK317 := n1_
             have BK318 := n2_
             have HB := n3_
             clear n0_ n1_ n2_ n3_
             (try clear hb)
             (try clear hb2)
             (try clear hk)
             (try clear hi)
             refine hK.out _ _ ⟨(blk_cell BK317.out 0).trans rfl, (blk_cell BK317.out 1).trans rfl⟩ (fun hHeld => ?_)
             clear hK K
             refine norm_ (a' := ?_) ?_ ?_
             rotate_left
             ·show Act.put _ (some 72) _ = _
              simp only [Act.put, List.setIfInBounds_toArray, List.set_cons_zero, List.set_cons_succ, i64_w, i32_w]
              rfl
             refine one_ (i := 10) (N := some 74) KeyRanges.m12 rfl rfl (one_of HT_.out (by kernel_rfl)) (by decide) (fun K hK => ?_)
             refine goes_ Tryd.func31 (by kernel_rfl) rfl #[.slice A0 l0.length c0] (by rfl) rfl rfl (by (try simp only [List.map_toArray, List.map_cons, List.map_nil]); first | done | rfl | (simp only [List.length_drop, List.length_take]; rfl)) ?_
             with_reducible refine (key_Below.calls kj19 _ _ l0 t327 t328 _ ?side1 ?side2 A46.out).mono ?_
             (case side1 => repeat (first | exact (Kd.C_below HR0.out HB.out) | (with_reducible refine Kd.C_alloc ?_ _) | (with_reducible refine Kd.C_drewN ?_ _) | (with_reducible refine Kd.C_drew ?_)))
             (case side2 => exact HC0.out)
             rintro e w76 ⟨rfl, hb⟩
             refine ⟨_, rfl, ?_⟩
             have n0_ := Aside0.mk (blk_below (g := gb307) (o := .cells #[.int .u8 a2_0, .int .u8 a2_1] 65 (0, 0)) (by (with_reducible repeat (first | refine blk_drewN ?_ _ | refine blk_drew ?_ | refine blk_alloc ?_ _)); exact BK307.out) hb)
             have n1_ := Aside0.mk (blk_below (g := gb317) (o := .cells #[.string t313, .string t314] 49 (0, 0)) (by (with_reducible repeat (first | refine blk_drewN ?_ _ | refine blk_drew ?_ | refine blk_alloc ?_ _)); exact BK317.out) hb)
             have n2_ := Aside0.mk (blk_below (g := gb318) (o := .cells #[.string t315, .string t316] 49 (0, 0)) (by (with_reducible repeat (first | refine blk_drewN ?_ _ | refine blk_drew ?_ | refine blk_alloc ?_ _)); exact BK318.out) hb)
             have n3_ := Aside0.mk (below_step (by repeat (first | (with_reducible first | exact HB.out | apply below_alloc | apply pw_below_drewN | apply below_drew1 | refine below_set ?_ GE307.out | refine below_set ?_ GE317.out | refine below_set ?_ GE318.out) | exact HB.out)) hb)
             clear BK307
             clear BK317
             clear BK318
             clear HB
             have BK307 := n0_
             have BK317 := n1_
             have BK318 := n2_
             have HB := n3_
             clear n0_ n1_ n2_ n3_
             (try clear hb)
             (try clear hb2)
             (try clear hk)
             (try clear hi)
             refine hK.out _ _ ⟨(blk_cell BK317.out 0).trans rfl, (blk_cell BK317.out 1).trans rfl⟩ (fun hHeld => ?_)
             clear hK K
             refine norm_ (a' := ?_) ?_ ?_
             rotate_left
             ·show Act.put _ (some 74) _ = _
              simp only [Act.put, List.setIfInBounds_toArray, List.set_cons_zero, List.set_cons_succ, i64_w, i32_w]
              rfl
             refine one_ (i := 11) (N := some 75) KeyRanges.m13 rfl rfl (one_of HT_.out (by kernel_rfl)) (by decide) (fun K hK => ?_)
             refine goes_ Tryd.func43 (by kernel_rfl) rfl #[.string t326, .agg #[.string t327, .string t328]] (by rfl) rfl rfl (by (try simp only [List.map_toArray, List.map_cons, List.map_nil]); first | done | rfl | (simp only [List.length_drop, List.length_take]; rfl)) ?_
             with_reducible refine (rillbedlaw06_in.calls t326 t327 t328 t329 _ A47.out).mono ?_
             rintro e w77 ⟨rfl, hb⟩
             refine ⟨_, rfl, ?_⟩
             have n0_ := Aside0.mk (blk_below (g := gb307) (o := .cells #[.int .u8 a2_0, .int .u8 a2_1] 65 (0, 0)) (by (with_reducible repeat (first | refine blk_drewN ?_ _ | refine blk_drew ?_ | refine blk_alloc ?_ _)); exact BK307.out) hb)
             have n1_ := Aside0.mk (blk_below (g := gb317) (o := .cells #[.string t313, .string t314] 49 (0, 0)) (by (with_reducible repeat (first | refine blk_drewN ?_ _ | refine blk_drew ?_ | refine blk_alloc ?_ _)); exact BK317.out) hb)
             have n2_ := Aside0.mk (blk_below (g := gb318) (o := .cells #[.string t315, .string t316] 49 (0, 0)) (by (with_reducible repeat (first | refine blk_drewN ?_ _ | refine blk_drew ?_ | refine blk_alloc ?_ _)); exact BK318.out) hb)
             have n3_ := Aside0.mk (below_step (by repeat (first | (with_reducible first | exact HB.out | apply below_alloc | apply pw_below_drewN | apply below_drew1 | refine below_set ?_ GE307.out | refine below_set ?_ GE317.out | refine below_set ?_ GE318.out) | exact HB.out)) hb)
             clear BK307
             clear BK317
             clear BK318
             clear HB
             have BK307 := n0_
             have BK317 := n1_
             have BK318 := n2_
             have HB := n3_
             clear n0_ n1_ n2_ n3_
             (try clear hb)
             (try clear hb2)
             (try clear hk)
             (try clear hi)
             refine hK.out _ _ ⟨(blk_cell BK317.out 0).trans rfl, (blk_cell BK317.out 1).trans rfl⟩ (fun hHeld => ?_)
             clear hK K
             refine norm_ (a' := ?_) ?_ ?_
             rotate_left
             ·show Act.put _ (some 75) _ = _
              simp only [Act.put, List.setIfInBounds_toArray, List.set_cons_zero, List.set_cons_succ, i64_w, i32_w]
              rfl
             refine pure_ (i := 13) (N := some 77) (v := ?_) (a' := ?_) KeyRanges.m14 rfl rfl (any_of HT_.out (by kernel_rfl)) (fun _ _ _ h => h) (Or.inl ⟨by rfl, ?_⟩) ?_ ?_
             rotate_left
             ·intro w'
              go_simp
              with_reducible rfl
             rotate_left
             ·simp only [Act.put, List.setIfInBounds_toArray, List.set_cons_zero, List.set_cons_succ, i64_w, i32_w]
              rfl
             refine pure_ (i := 14) (N := some 78) (v := ?_) (a' := ?_) KeyRanges.m15 rfl rfl (any_of HT_.out (by kernel_rfl)) (fun _ _ _ h => h) (Or.inl ⟨by rfl, ?_⟩) ?_ ?_
             rotate_left
             ·intro w'
              go_simp
              with_reducible rfl
             rotate_left
             ·simp only [Act.put, List.setIfInBounds_toArray, List.set_cons_zero, List.set_cons_succ, i64_w, i32_w]
              rfl
             refine pure_ (i := 15) (N := some 79) (v := ?_) (a' := ?_) KeyRanges.m16 rfl rfl (any_of HT_.out (by kernel_rfl)) (fun _ _ _ h => h) (Or.inl ⟨by rfl, ?_⟩) ?_ ?_
             rotate_left
             ·intro w'
              go_simp
              with_reducible rfl
             rotate_left
             ·simp only [Act.put, List.setIfInBounds_toArray, List.set_cons_zero, List.set_cons_succ, i64_w, i32_w]
              rfl
             refine pure_ (i := 16) (N := some 80) (v := ?_) (a' := ?_) KeyRanges.m17 rfl rfl (any_of HT_.out (by kernel_rfl)) (fun _ _ _ h => h) (Or.inl ⟨by rfl, ?_⟩) ?_ ?_
             rotate_left
             ·intro w'
              go_simp
              with_reducible rfl
             rotate_left
             ·simp only [Act.put, List.setIfInBounds_toArray, List.set_cons_zero, List.set_cons_succ, i64_w, i32_w]
              rfl
             refine pure_ (i := 17) (N := some 81) (v := ?_) (a' := ?_) KeyRanges.m18 rfl rfl (any_of HT_.out (by kernel_rfl)) (fun _ _ _ h => h) (Or.inl ⟨by rfl, ?_⟩) ?_ ?_
             rotate_left
             ·intro w'
              go_simp
              with_reducible rfl
             rotate_left
             ·simp only [Act.put, List.setIfInBounds_toArray, List.set_cons_zero, List.set_cons_succ, i64_w, i32_w]
              rfl
             refine pure_ (i := 18) (N := some 82) (v := ?_) (a' := ?_) KeyRanges.m19 rfl rfl (any_of HT_.out (by kernel_rfl)) (fun _ _ _ h => h) (Or.inl ⟨by rfl, ?_⟩) ?_ ?_
             rotate_left
             ·intro w'
              go_simp
              with_reducible rfl
             rotate_left
             ·simp only [Act.put, List.setIfInBounds_toArray, List.set_cons_zero, List.set_cons_succ, i64_w, i32_w]
              rfl
             refine pure_ (i := 19) (N := some 83) (v := ?_) (a' := ?_) KeyRanges.m20 rfl rfl (any_of HT_.out (by kernel_rfl)) (fun _ _ _ h => h) (Or.inl ⟨by rfl, ?_⟩) ?_ ?_
             rotate_left
             ·intro w'
              go_simp
              with_reducible rfl
             rotate_left
             ·simp only [Act.put, List.setIfInBounds_toArray, List.set_cons_zero, List.set_cons_succ, i64_w, i32_w]
              rfl
             refine pure_ (i := 20) (N := some 84) (v := ?_) (a' := ?_) KeyRanges.m21 rfl rfl (any_of HT_.out (by kernel_rfl)) (fun _ _ _ h => h) (Or.inl ⟨by rfl, ?_⟩) ?_ ?_
             rotate_left
             ·intro w'
              go_simp
              with_reducible rfl
             rotate_left
             ·simp only [Act.put, List.setIfInBounds_toArray, List.set_cons_zero, List.set_cons_succ, i64_w, i32_w]
              rfl
             refine pure_ (i := 22) (N := some 86) (v := ?_) (a' := ?_) KeyRanges.m22 rfl rfl (any_of HT_.out (by kernel_rfl)) (fun _ _ _ h => h) (Or.inl ⟨by rfl, ?_⟩) ?_ ?_
             rotate_left
             ·intro w'
              go_simp
              with_reducible rfl
             rotate_left
             ·simp only [Act.put, List.setIfInBounds_toArray, List.set_cons_zero, List.set_cons_succ, i64_w, i32_w]
              rfl
             refine pure_ (i := 25) (N := some 89) (v := ?_) (a' := ?_) KeyRanges.m23 rfl rfl (any_of HT_.out (by kernel_rfl)) (fun _ _ _ h => h) (Or.inl ⟨by rfl, ?_⟩) ?_ ?_
             rotate_left
             ·intro w'
              go_simp
              with_reducible rfl
             rotate_left
             ·simp only [Act.put, List.setIfInBounds_toArray, List.set_cons_zero, List.set_cons_succ, i64_w, i32_w]
              rfl
             refine one_ (i := 21) (N := some 85) KeyRanges.m24 rfl rfl (one_of HT_.out (by kernel_rfl)) (by decide) (fun K hK => ?_)
             refine goes_ Tryd.func28 (by kernel_rfl) rfl #[.slice A0 l0.length c0] (by rfl) rfl rfl (by (try simp only [List.map_toArray, List.map_cons, List.map_nil]); first | done | rfl | (simp only [List.length_drop, List.length_take]; rfl)) ?_
             with_reducible refine (key_Meta.calls kj19 _ _ l0 t330 _ ?side1 ?side2 A56.out).mono ?_
             (case side1 => repeat (first | exact (Kd.C_below HR0.out HB.out) | (with_reducible refine Kd.C_alloc ?_ _) | (with_reducible refine Kd.C_drewN ?_ _) | (with_reducible refine Kd.C_drew ?_)))
             (case side2 => exact HC0.out)
             rintro e w78 ⟨rfl, hb⟩
             refine ⟨_, rfl, ?_⟩
             have n0_ := Aside0.mk (blk_below (g := gb307) (o := .cells #[.int .u8 a2_0, .int .u8 a2_1] 65 (0, 0)) (by (with_reducible repeat (first | refine blk_drewN ?_ _ | refine blk_drew ?_ | refine blk_alloc ?_ _)); exact BK307.out) hb)
             have n1_ := Aside0.mk (blk_below (g := gb317) (o := .cells #[.string t313, .string t314] 49 (0, 0)) (by (with_reducible repeat (first | refine blk_drewN ?_ _ | refine blk_drew ?_ | refine blk_alloc ?_ _)); exact BK317.out) hb)
             have n2_ := Aside0.mk (blk_below (g := gb318) (o := .cells #[.string t315, .string t316] 49 (0, 0)) (by (with_reducible repeat (first | refine blk_drewN ?_ _ | refine blk_drew ?_ | refine blk_alloc ?_ _)); exact BK318.out) hb)
             have n3_ := Aside0.mk (below_step (by repeat (first | (with_reducible first | exact HB.out | apply below_alloc | apply pw_below_drewN | apply below_drew1 | refine below_set ?_ GE307.out | refine below_set ?_ GE317.out | refine below_set ?_ GE318.out) | exact HB.out)) hb)
             clear BK307
             clear BK317
             clear BK318
             clear HB
             have BK307 := n0_
             have BK317 := n1_
             have BK318 := n2_
             have HB := n3_
             clear n0_ n1_ n2_ n3_
             (try clear hb)
             (try clear hb2)
             (try clear hk)
             (try clear hi)
             refine hK.out _ _ ⟨(blk_cell BK317.out 0).trans rfl, (blk_cell BK317.out 1).trans rfl⟩ (fun hHeld => ?_)
             clear hK K
             refine norm_ (a' := ?_) ?_ ?_
             rotate_left
             ·show Act.put _ (some 85) _ = _
              simp only [Act.put, List.setIfInBounds_toArray, List.set_cons_zero, List.set_cons_succ, i64_w, i32_w]
              rfl
             refine one_ (i := 23) (N := some 87) KeyRanges.m25 rfl rfl (one_of HT_.out (by kernel_rfl)) (by decide) (fun K hK => ?_)
             refine goes_ Tryd.func28 (by kernel_rfl) rfl #[.slice A1 l1.length c1] (by rfl) rfl rfl (by (try simp only [List.map_toArray, List.map_cons, List.map_nil]); first | done | rfl | (simp only [List.length_drop, List.length_take]; rfl)) ?_
             with_reducible refine (key_Meta.calls kj19 _ _ l1 t331 _ ?side1 ?side2 A57.out).mono ?_
             (case side1 => repeat (first | exact (Kd.C_below HR1.out HB.out) | (with_reducible refine Kd.C_alloc ?_ _) | (with_reducible refine Kd.C_drewN ?_ _) | (with_reducible refine Kd.C_drew ?_)))
             (case side2 => exact HC1.out)
             rintro e w79 ⟨rfl, hb⟩
             refine ⟨_, rfl, ?_⟩
             have n0_ := Aside0.mk (blk_below (g := gb307) (o := .cells #[.int .u8 a2_0, .int .u8 a2_1] 65 (0, 0)) (by (with_reducible repeat (first | refine blk_drewN ?_ _ | refine blk_drew ?_ | refine blk_alloc ?_ _)); exact BK307.out) hb)
             have n1_ := Aside0.mk (blk_below (g := gb317) (o := .cells #[.string t313, .string t314] 49 (0, 0)) (by (with_reducible repeat (first | refine blk_drewN ?_ _ | refine blk_drew ?_ | refine blk_alloc ?_ _)); exact BK317.out) hb)
             have n2_ := Aside0.mk (blk_below (g := gb318) (o := .cells #[.string t315, .string t316] 49 (0, 0)) (by (with_reducible repeat (first | refine blk_drewN ?_ _ | refine blk_drew ?_ | refine blk_alloc ?_ _)); exact BK318.out) hb)
             have n3_ := Aside0.mk (below_step (by repeat (first | (with_reducible first | exact HB.out | apply below_alloc | apply pw_below_drewN | apply below_drew1 | refine below_set ?_ GE307.out | refine below_set ?_ GE317.out | refine below_set ?_ GE318.out) | exact HB.out)) hb)
             clear BK307
             clear BK317
             clear BK318
             clear HB
             have BK307 := n0_
             have BK317 := n1_
             have BK318 := n2_
             have HB := n3_
             clear n0_ n1_ n2_ n3_
             (try clear hb)
             (try clear hb2)
             (try clear hk)
             (try clear hi)
             refine hK.out _ _ ⟨(blk_cell BK317.out 0).trans rfl, (blk_cell BK317.out 1).trans rfl⟩ (fun hHeld => ?_)
             clear hK K
             refine norm_ (a' := ?_) ?_ ?_
             rotate_left
             ·show Act.put _ (some 87) _ = _
              simp only [Act.put, List.setIfInBounds_toArray, List.set_cons_zero, List.set_cons_succ, i64_w, i32_w]
              rfl
             refine pure_ (i := 24) (N := some 88) (v := ?_) (a' := ?_) KeyRanges.m26 rfl rfl (any_of HT_.out (by kernel_rfl)) (fun _ _ _ h => h) (Or.inl ⟨by rfl, ?_⟩) ?_ ?_
             rotate_left
             ·intro w'
              go_simp
              with_reducible rfl
             rotate_left
             ·simp only [Act.put, List.setIfInBounds_toArray, List.set_cons_zero, List.set_cons_succ, i64_w, i32_w]
              rfl
             refine pure_ (i := 26) (N := some 90) (v := ?_) (a' := ?_) KeyRanges.m27 rfl rfl (any_of HT_.out (by kernel_rfl)) (fun _ _ _ h => h) (Or.inl ⟨by rfl, ?_⟩) ?_ ?_
             rotate_left
             ·intro w'
              go_simp
              with_reducible rfl
             rotate_left
             ·simp only [Act.put, List.setIfInBounds_toArray, List.set_cons_zero, List.set_cons_succ, i64_w, i32_w]
              rfl
             refine pure_ (i := 27) (N := some 91) (v := ?_) (a' := ?_) KeyRanges.m28 rfl rfl (any_of HT_.out (by kernel_rfl)) (fun _ _ _ h => h) (Or.inl ⟨by rfl, ?_⟩) ?_ ?_
             rotate_left
             ·intro w'
              go_simp
              with_reducible rfl
             rotate_left
             ·simp only [Act.put, List.setIfInBounds_toArray, List.set_cons_zero, List.set_cons_succ, i64_w, i32_w]
              rfl
             refine pure_ (i := 28) (N := some 92) (v := ?_) (a' := ?_) KeyRanges.m29 rfl rfl (any_of HT_.out (by kernel_rfl)) (fun _ _ _ h => h) (Or.inl ⟨by rfl, ?_⟩) ?_ ?_
             rotate_left
             ·intro w'
              go_simp
              with_reducible rfl
             rotate_left
             ·simp only [Act.put, List.setIfInBounds_toArray, List.set_cons_zero, List.set_cons_succ, i64_w, i32_w]
              rfl
             refine pure_ (i := 29) (N := some 93) (v := ?_) (a' := ?_) KeyRanges.m30 rfl rfl (any_of HT_.out (by kernel_rfl)) (fun _ _ _ h => h) (Or.inl ⟨by rfl, ?_⟩) ?_ ?_
             rotate_left
             ·intro w'
              go_simp
              with_reducible rfl
             rotate_left
             ·simp only [Act.put, List.setIfInBounds_toArray, List.set_cons_zero, List.set_cons_succ, i64_w, i32_w]
              rfl
             refine pure_ (i := 31) (N := some 95) (v := ?_) (a' := ?_) KeyRanges.m31 rfl rfl (any_of HT_.out (by kernel_rfl)) (fun _ _ _ h => h) (Or.inl ⟨by rfl, ?_⟩) ?_ ?_
             rotate_left
             ·intro w'
              go_simp
              with_reducible rfl
             rotate_left
             ·simp only [Act.put, List.setIfInBounds_toArray, List.set_cons_zero, List.set_cons_succ, i64_w, i32_w]
              rfl
             refine one_ (i := 30) (N := some 94) KeyRanges.m32 rfl rfl (one_of HT_.out (by kernel_rfl)) (by decide) (fun K hK => ?_)
             refine goes_ Tryd.func28 (by kernel_rfl) rfl #[.slice A1 l1.length c1] (by rfl) rfl rfl (by (try simp only [List.map_toArray, List.map_cons, List.map_nil]); first | done | rfl | (simp only [List.length_drop, List.length_take]; rfl)) ?_
             with_reducible refine (key_Meta.calls kj19 _ _ l1 t332 _ ?side1 ?side2 A67.out).mono ?_
             (case side1 => repeat (first | exact (Kd.C_below HR1.out HB.out) | (with_reducible refine Kd.C_alloc ?_ _) | (with_reducible refine Kd.C_drewN ?_ _) | (with_reducible refine Kd.C_drew ?_)))
             (case side2 => exact HC1.out)
             rintro e w80 ⟨rfl, hb⟩
             refine ⟨_, rfl, ?_⟩
             have n0_ := Aside0.mk (blk_below (g := gb307) (o := .cells #[.int .u8 a2_0, .int .u8 a2_1] 65 (0, 0)) (by (with_reducible repeat (first | refine blk_drewN ?_ _ | refine blk_drew ?_ | refine blk_alloc ?_ _)); exact BK307.out) hb)
             have n1_ := Aside0.mk (blk_below (g := gb317) (o := .cells #[.string t313, .string t314] 49 (0, 0)) (by (with_reducible repeat (first | refine blk_drewN ?_ _ | refine blk_drew ?_ | refine blk_alloc ?_ _)); exact BK317.out) hb)
             have n2_ := Aside0.mk (blk_below (g := gb318) (o := .cells #[.string t315, .string t316] 49 (0, 0)) (by (with_reducible repeat (first | refine blk_drewN ?_ _ | refine blk_drew ?_ | refine blk_alloc ?_ _)); exact BK318.out) hb)
             have n3_ := Aside0.mk (below_step (by repeat (first | (with_reducible first | exact HB.out | apply below_alloc | apply pw_below_drewN | apply below_drew1 | refine below_set ?_ GE307.out | refine below_set ?_ GE317.out | refine below_set ?_ GE318.out) | exact HB.out)) hb)
             clear BK307
             clear BK317
             clear BK318
             clear HB
             have BK307 := n0_
             have BK317 := n1_
             have BK318 := n2_
             have HB := n3_
             clear n0_ n1_ n2_ n3_
             (try clear hb)
             (try clear hb2)
             (try clear hk)
             (try clear hi)
             refine hK.out _ _ ⟨(blk_cell BK317.out 0).trans rfl, (blk_cell BK317.out 1).trans rfl⟩ (fun hHeld => ?_)
             clear hK K
             refine norm_ (a' := ?_) ?_ ?_
             rotate_left
             ·show Act.put _ (some 94) _ = _
              simp only [Act.put, List.setIfInBounds_toArray, List.set_cons_zero, List.set_cons_succ, i64_w, i32_w]
              rfl
             refine one_ (i := 32) (N := some 96) KeyRanges.m33 rfl rfl (one_of HT_.out (by kernel_rfl)) (by decide) (fun K hK => ?_)
             refine goes_ Tryd.func16 (by kernel_rfl) rfl #[.slice A1 l1.length c1, .string (⟨#[47]⟩ : ByteArray)] (by rfl) rfl rfl (by (try simp only [List.map_toArray, List.map_cons, List.map_nil]); first | done | rfl | (simp only [List.length_drop, List.length_take]; rfl)) ?_
             with_reducible refine (strings_Join.calls _ _ l1 (⟨#[47]⟩ : ByteArray) t333 _ ?side1 ?side2 A68.out).mono ?_
             (case side1 => repeat (first | exact (Kd.C_below HR1.out HB.out) | (with_reducible refine Kd.C_alloc ?_ _) | (with_reducible refine Kd.C_drewN ?_ _) | (with_reducible refine Kd.C_drew ?_)))
             (case side2 => exact HC1.out)
             rintro e w81 ⟨rfl, hb⟩
             refine ⟨_, rfl, ?_⟩
             have n0_ := Aside0.mk (blk_below (g := gb307) (o := .cells #[.int .u8 a2_0, .int .u8 a2_1] 65 (0, 0)) (by (with_reducible repeat (first | refine blk_drewN ?_ _ | refine blk_drew ?_ | refine blk_alloc ?_ _)); exact BK307.out) hb)
             have n1_ := Aside0.mk (blk_below (g := gb317) (o := .cells #[.string t313, .string t314] 49 (0, 0)) (by (with_reducible repeat (first | refine blk_drewN ?_ _ | refine blk_drew ?_ | refine blk_alloc ?_ _)); exact BK317.out) hb)
             have n2_ := Aside0.mk (blk_below (g := gb318) (o := .cells #[.string t315, .string t316] 49 (0, 0)) (by (with_reducible repeat (first | refine blk_drewN ?_ _ | refine blk_drew ?_ | refine blk_alloc ?_ _)); exact BK318.out) hb)
             have n3_ := Aside0.mk (below_step (by repeat (first | (with_reducible first | exact HB.out | apply below_alloc | apply pw_below_drewN | apply below_drew1 | refine below_set ?_ GE307.out | refine below_set ?_ GE317.out | refine below_set ?_ GE318.out) | exact HB.out)) hb)
             clear BK307
             clear BK317
             clear BK318
             clear HB
             have BK307 := n0_
             have BK317 := n1_
             have BK318 := n2_
             have HB := n3_
             clear n0_ n1_ n2_ n3_
             (try clear hb)
             (try clear hb2)
             (try clear hk)
             (try clear hi)
             refine hK.out _ _ ⟨(blk_cell BK317.out 0).trans rfl, (blk_cell BK317.out 1).trans rfl⟩ (fun hHeld => ?_)
             clear hK K
             refine norm_ (a' := ?_) ?_ ?_
             rotate_left
             ·show Act.put _ (some 96) _ = _
              simp only [Act.put, List.setIfInBounds_toArray, List.set_cons_zero, List.set_cons_succ, i64_w, i32_w]
              rfl
             refine one_ (i := 33) (N := some 97) KeyRanges.m34 rfl rfl (one_of HT_.out (by kernel_rfl)) (by decide) (fun K hK => ?_)
             refine goes_ Tryd.func36 (by kernel_rfl) rfl #[.string t332, .int .u8 109, .string t333, .int .i64 0] (by rfl) rfl rfl (by (try simp only [List.map_toArray, List.map_cons, List.map_nil]); first | done | rfl | (simp only [List.length_drop, List.length_take]; rfl)) ?_
             with_reducible refine (rillbedlaw06_takes.calls kj19 t332 109 t333 0 true _ A69.out).mono ?_
             rintro e w82 ⟨rfl, hb⟩
             refine ⟨_, rfl, ?_⟩
             have n0_ := Aside0.mk (blk_below (g := gb307) (o := .cells #[.int .u8 a2_0, .int .u8 a2_1] 65 (0, 0)) (by (with_reducible repeat (first | refine blk_drewN ?_ _ | refine blk_drew ?_ | refine blk_alloc ?_ _)); exact BK307.out) hb)
             have n1_ := Aside0.mk (blk_below (g := gb317) (o := .cells #[.string t313, .string t314] 49 (0, 0)) (by (with_reducible repeat (first | refine blk_drewN ?_ _ | refine blk_drew ?_ | refine blk_alloc ?_ _)); exact BK317.out) hb)
             have n2_ := Aside0.mk (blk_below (g := gb318) (o := .cells #[.string t315, .string t316] 49 (0, 0)) (by (with_reducible repeat (first | refine blk_drewN ?_ _ | refine blk_drew ?_ | refine blk_alloc ?_ _)); exact BK318.out) hb)
             have n3_ := Aside0.mk (below_step (by repeat (first | (with_reducible first | exact HB.out | apply below_alloc | apply pw_below_drewN | apply below_drew1 | refine below_set ?_ GE307.out | refine below_set ?_ GE317.out | refine below_set ?_ GE318.out) | exact HB.out)) hb)
             clear BK307
             clear BK317
             clear BK318
             clear HB
             have BK307 := n0_
             have BK317 := n1_
             have BK318 := n2_
             have HB := n3_
             clear n0_ n1_ n2_ n3_
             (try clear hb)
             (try clear hb2)
             (try clear hk)
             (try clear hi)
             refine hK.out _ _ ⟨(blk_cell BK317.out 0).trans rfl, (blk_cell BK317.out 1).trans rfl⟩ (fun hHeld => ?_)
             clear hK K
             refine norm_ (a' := ?_) ?_ ?_
             rotate_left
             ·show Act.put _ (some 97) _ = _
              simp only [Act.put, List.setIfInBounds_toArray, List.set_cons_zero, List.set_cons_succ, i64_w, i32_w]
              rfl
             refine pure_ (i := 34) (N := some 98) (v := ?_) (a' := ?_) KeyRanges.m35 rfl rfl (any_of HT_.out (by kernel_rfl)) (fun _ _ _ h => h) (Or.inl ⟨by rfl, ?_⟩) ?_ ?_
             rotate_left
             ·intro w'
              go_simp
              with_reducible rfl
             rotate_left
             ·simp only [Act.put, List.setIfInBounds_toArray, List.set_cons_zero, List.set_cons_succ, i64_w, i32_w]
              rfl
             refine pure_ (i := 35) (N := some 99) (v := ?_) (a' := ?_) KeyRanges.m36 rfl rfl (any_of HT_.out (by kernel_rfl)) (fun _ _ _ h => h) (Or.inl ⟨by rfl, ?_⟩) ?_ ?_
             rotate_left
             ·intro w'
              go_simp
              with_reducible rfl
             rotate_left
             ·simp only [Act.put, List.setIfInBounds_toArray, List.set_cons_zero, List.set_cons_succ, i64_w, i32_w]
              rfl
             refine pure_ (i := 36) (N := some 100) (v := ?_) (a' := ?_) KeyRanges.m37 rfl rfl (any_of HT_.out (by kernel_rfl)) (fun _ _ _ h => h) (Or.inl ⟨by rfl, ?_⟩) ?_ ?_
             rotate_left
             ·intro w'
              go_simp
              with_reducible rfl
             rotate_left
             ·simp only [Act.put, List.setIfInBounds_toArray, List.set_cons_zero, List.set_cons_succ, i64_w, i32_w]
              rfl
             refine pure_ (i := 37) (N := some 101) (v := ?_) (a' := ?_) KeyRanges.m38 rfl rfl (any_of HT_.out (by kernel_rfl)) (fun _ _ _ h => h) (Or.inl ⟨by rfl, ?_⟩) ?_ ?_
             rotate_left
             ·intro w'
              go_simp
              with_reducible rfl
             rotate_left
             ·simp only [Act.put, List.setIfInBounds_toArray, List.set_cons_zero, List.set_cons_succ, i64_w, i32_w]
              rfl
             refine pure_ (i := 38) (N := some 102) (v := ?_) (a' := ?_) KeyRanges.m39 rfl rfl (any_of HT_.out (by kernel_rfl)) (fun _ _ _ h => h) (Or.inl ⟨by rfl, ?_⟩) ?_ ?_
             rotate_left
             ·intro w'
              go_simp
              with_reducible rfl
             rotate_left
             ·simp only [Act.put, List.setIfInBounds_toArray, List.set_cons_zero, List.set_cons_succ, i64_w, i32_w]
              rfl
             refine pure_ (i := 39) (N := some 103) (v := ?_) (a' := ?_) KeyRanges.m40 rfl rfl (any_of HT_.out (by kernel_rfl)) (fun _ _ _ h => h) (Or.inl ⟨by rfl, ?_⟩) ?_ ?_
             rotate_left
             ·intro w'
              go_simp
              with_reducible rfl
             rotate_left
             ·simp only [Act.put, List.setIfInBounds_toArray, List.set_cons_zero, List.set_cons_succ, i64_w, i32_w]
              rfl
             refine pure_ (i := 40) (N := some 104) (v := ?_) (a' := ?_) KeyRanges.m41 rfl rfl (any_of HT_.out (by kernel_rfl)) (fun _ _ _ h => h) (Or.inl ⟨by rfl, ?_⟩) ?_ ?_
             rotate_left
             ·intro w'
              go_simp
              with_reducible rfl
             rotate_left
             ·simp only [Act.put, List.setIfInBounds_toArray, List.set_cons_zero, List.set_cons_succ, i64_w, i32_w]
              rfl
             refine pure_ (i := 41) (N := some 105) (v := ?_) (a' := ?_) KeyRanges.m42 rfl rfl (any_of HT_.out (by kernel_rfl)) (fun _ _ _ h => h) (Or.inl ⟨by rfl, ?_⟩) ?_ ?_
             rotate_left
             ·intro w'
              go_simp
              with_reducible rfl
             rotate_left
             ·simp only [Act.put, List.setIfInBounds_toArray, List.set_cons_zero, List.set_cons_succ, i64_w, i32_w]
              rfl
             refine pure_ (i := 42) (N := some 106) (v := ?_) (a' := ?_) KeyRanges.m43 rfl rfl (any_of HT_.out (by kernel_rfl)) (fun _ _ _ h => h) (Or.inl ⟨by rfl, ?_⟩) ?_ ?_
             rotate_left
             ·intro w'
              go_simp
              with_reducible rfl
             rotate_left
             ·simp only [Act.put, List.setIfInBounds_toArray, List.set_cons_zero, List.set_cons_succ, i64_w, i32_w]
              rfl
             refine pure_ (i := 43) (N := some 107) (v := undef) (a' := ?_) KeyRanges.m44 rfl rfl (any_of HT_.out (by kernel_rfl)) (fun _ _ _ h => h) (Or.inr ⟨by rfl, rfl⟩) ?_ ?_
             rotate_left
             ·simp only [Act.put, List.setIfInBounds_toArray, List.set_cons_zero, List.set_cons_succ, i64_w, i32_w]
              rfl
             refine pure_ (i := 44) (N := some 108) (v := undef) (a' := ?_) KeyRanges.m45 rfl rfl (any_of HT_.out (by kernel_rfl)) (fun _ _ _ h => h) (Or.inr ⟨by rfl, rfl⟩) ?_ ?_
             rotate_left
             ·simp only [Act.put, List.setIfInBounds_toArray, List.set_cons_zero, List.set_cons_succ, i64_w, i32_w]
              rfl
             refine pure_ (i := 45) (N := some 109) (v := undef) (a' := ?_) KeyRanges.m46 rfl rfl (any_of HT_.out (by kernel_rfl)) (fun _ _ _ h => h) (Or.inr ⟨by rfl, rfl⟩) ?_ ?_
             rotate_left
             ·simp only [Act.put, List.setIfInBounds_toArray, List.set_cons_zero, List.set_cons_succ, i64_w, i32_w]
              rfl
             refine pure_ (i := 46) (N := some 110) (v := undef) (a' := ?_) KeyRanges.m47 rfl rfl (any_of HT_.out (by kernel_rfl)) (fun _ _ _ h => h) (Or.inr ⟨by rfl, rfl⟩) ?_ ?_
             rotate_left
             ·simp only [Act.put, List.setIfInBounds_toArray, List.set_cons_zero, List.set_cons_succ, i64_w, i32_w]
              rfl
             refine pure_ (i := 47) (N := some 111) (v := undef) (a' := ?_) KeyRanges.m48 rfl rfl (any_of HT_.out (by kernel_rfl)) (fun _ _ _ h => h) (Or.inr ⟨by rfl, rfl⟩) ?_ ?_
             rotate_left
             ·simp only [Act.put, List.setIfInBounds_toArray, List.set_cons_zero, List.set_cons_succ, i64_w, i32_w]
              rfl
             refine pure_ (i := 48) (N := some 112) (v := ?_) (a' := ?_) KeyRanges.m49 rfl rfl (any_of HT_.out (by kernel_rfl)) (fun _ _ _ h => h) (Or.inl ⟨by rfl, ?_⟩) ?_ ?_
             rotate_left
             ·intro w'
              go_simp
              with_reducible rfl
             rotate_left
             ·simp only [Act.put, List.setIfInBounds_toArray, List.set_cons_zero, List.set_cons_succ, i64_w, i32_w]
              rfl
             refine pure_ (i := 49) (N := some 113) (v := ?_) (a' := ?_) KeyRanges.m50 rfl rfl (any_of HT_.out (by kernel_rfl)) (fun _ _ _ h => h) (Or.inl ⟨by rfl, ?_⟩) ?_ ?_
             rotate_left
             ·intro w'
              go_simp
              with_reducible rfl
             rotate_left
             ·simp only [Act.put, List.setIfInBounds_toArray, List.set_cons_zero, List.set_cons_succ, i64_w, i32_w]
              rfl
             refine done_ (done_of HT_.out (by kernel_rfl)) ?_
             try go_wp2
             go_meet
             case rel => exact ⟨_, (false), (by first | rfl | (simp; done) | (simp [*]; done)), H', ⟨by have := HJ3.out; have := HJ19.out; first | omega | exact Nat.le_refl _⟩, ⟨by (with_reducible repeat (first | refine blk_drewN ?_ _ | refine blk_drew ?_ | refine blk_alloc ?_ _)); exact BK307.out⟩, ⟨by (with_reducible repeat (first | refine blk_drewN ?_ _ | refine blk_drew ?_ | refine blk_alloc ?_ _)); exact BK317.out⟩, ⟨by (with_reducible repeat (first | refine blk_drewN ?_ _ | refine blk_drew ?_ | refine blk_alloc ?_ _)); exact BK318.out⟩, ⟨by repeat (first | (with_reducible first | exact HB.out | apply below_alloc | apply pw_below_drewN | apply below_drew1 | refine below_set ?_ GE307.out | refine below_set ?_ GE317.out | refine below_set ?_ GE318.out) | exact HB.out)⟩⟩
            ·replace c71 := Bool.eq_false_iff.mpr c71
             subst c71
             have g329 : t329 = true := by simpa using c49b0
             have g330 : (t330.toList == t331.toList) = false := by simpa using c58b0
             have H1 : ((key_Meta.f kj19 l1).bind fun t335 => ((key_Meta.f kj19 l0).bind fun t336 => (rillbedlaw06_KeyRanges.j2 kj19 l0 l1 (wrap64 (Int.tmod a2_0 32)) (wrap64 (Int.tmod a2_1 32)) true false t322 t323 (Op.bytesLess t335.toList t336.toList) t313 t314 t315 t316))) = some true := by rw [if_neg (show ¬ (false = true) by decide)] at H; exact H
             clear H
             have H := H1
             clear H1
             replace H := Option.bind_eq_some_iff.mp H
             obtain ⟨t335, A830, H⟩ := H
             replace H : ((key_Meta.f kj19 l0).bind fun t336 => (rillbedlaw06_KeyRanges.j2 kj19 l0 l1 (wrap64 (Int.tmod a2_0 32)) (wrap64 (Int.tmod a2_1 32)) true false t322 t323 (Op.bytesLess t335.toList t336.toList) t313 t314 t315 t316)) = some true := H
             have A83 := Aside0.mk A830
             clear A830
             replace H := Option.bind_eq_some_iff.mp H
             obtain ⟨t336, A840, H⟩ := H
             replace H : (rillbedlaw06_KeyRanges.j2 kj19 l0 l1 (wrap64 (Int.tmod a2_0 32)) (wrap64 (Int.tmod a2_1 32)) true false t322 t323 (Op.bytesLess t335.toList t336.toList) t313 t314 t315 t316) = some true := H
             have A84 := Aside0.mk A840
             clear A840
             have H' := Aside0.mk H
             clear H
             try go_wp2
             have n0_ := Aside0.mk (blk_drew BK307.out)
             have n1_ := Aside0.mk (blk_drew BK317.out)
             have n2_ := Aside0.mk (blk_drew BK318.out)
             have n3_ := Aside0.mk (below_drew1 HB.out)
             clear BK307
             clear BK317
             clear BK318
             clear HB
             have BK307 := n0_
             have BK317 := n1_
             have BK318 := n2_
             have HB := n3_
             clear n0_ n1_ n2_ n3_
             refine start_ (n := 50) (S := fun w' => w'.cell? ⟨gb317, 0, none⟩ = some (.string t313) ∧ w'.cell? ⟨gb317, 1, none⟩ = some (.string t314)) (ds := []) KeyRanges.m0 (by kernel_rfl) rfl rfl ⟨(blk_cell BK317.out 0).trans rfl, (blk_cell BK317.out 1).trans rfl⟩ (fun hHeld => ?_); refine with_tabW rillbedlaw06_KeyRanges.tab7 rillbedlaw06_KeyRanges.bits7 (fun HT_ HW_ => ?_)
             generalize w38.drew = w85 at BK307 BK317 BK318 HB hHeld ⊢
             refine pure_ (i := 0) (N := some 64) (v := ?_) (a' := ?_) KeyRanges.m1 rfl rfl (any_of HT_.out (by kernel_rfl)) (fun _ _ _ h => h) (Or.inl ⟨by rfl, ?_⟩) ?_ ?_
             rotate_left
             ·intro w'
              go_simp
              with_reducible rfl
             rotate_left
             ·simp only [Act.put, List.setIfInBounds_toArray, List.set_cons_zero, List.set_cons_succ, i64_w, i32_w]
              rfl
             refine pure_ (i := 4) (N := some 68) (v := ?_) (a' := ?_) KeyRanges.m2 rfl rfl (any_of HT_.out (by kernel_rfl)) (fun _ _ _ h => h) (Or.inl ⟨by rfl, ?_⟩) ?_ ?_
             rotate_left
             ·intro w'
              go_simp
              with_reducible rfl
             rotate_left
             ·simp only [Act.put, List.setIfInBounds_toArray, List.set_cons_zero, List.set_cons_succ, i64_w, i32_w]
              rfl
             refine take_ (i := 2) (N := some 66) (v := ?_) (a' := ?_) KeyRanges.m3 rfl rfl (take_ofW HT_.out HW_.out (by kernel_rfl)) (fun _ _ _ h => h) (Or.inl ⟨by rfl, ?_⟩) hHeld ?_ ?_
             rotate_left
             ·rintro w' ⟨s0, s1⟩
              go_simp
              with_reducible rfl
             rotate_left
             ·simp only [Act.put, List.setIfInBounds_toArray, List.set_cons_zero, List.set_cons_succ, i64_w, i32_w]
              rfl
             refine one_ (i := 1) (N := some 65) KeyRanges.m4 rfl rfl (one_of HT_.out (by kernel_rfl)) (by decide) (fun K hK => ?_)
             refine goes_ Tryd.func28 (by kernel_rfl) rfl #[.slice A1 l1.length c1] (by rfl) rfl rfl (by (try simp only [List.map_toArray, List.map_cons, List.map_nil]); first | done | rfl | (simp only [List.length_drop, List.length_take]; rfl)) ?_
             with_reducible refine (key_Meta.calls kj19 _ _ l1 t324 _ ?side1 ?side2 A39.out).mono ?_
             (case side1 => repeat (first | exact (Kd.C_below HR1.out HB.out) | (with_reducible refine Kd.C_alloc ?_ _) | (with_reducible refine Kd.C_drewN ?_ _) | (with_reducible refine Kd.C_drew ?_)))
             (case side2 => exact HC1.out)
             rintro e w86 ⟨rfl, hb⟩
             refine ⟨_, rfl, ?_⟩
             have n0_ := Aside0.mk (blk_below (g := gb307) (o := .cells #[.int .u8 a2_0, .int .u8 a2_1] 65 (0, 0)) (by (with_reducible repeat (first | refine blk_drewN ?_ _ | refine blk_drew ?_ | refine blk_alloc ?_ _)); exact BK307.out) hb)
             have n1_ := Aside0.mk (blk_below (g := gb317) (o := .cells #[.string t313, .string t314] 49 (0, 0)) (by (with_reducible repeat (first | refine blk_drewN ?_ _ | refine blk_drew ?_ | refine blk_alloc ?_ _)); exact BK317.out) hb)
             have n2_ := Aside0.mk (blk_below (g := gb318) (o := .cells #[.string t315, .string t316] 49 (0, 0)) (by (with_reducible repeat (first | refine blk_drewN ?_ _ | refine blk_drew ?_ | refine blk_alloc ?_ _)); exact BK318.out) hb)
             have n3_ := Aside0.mk (below_step (by repeat (first | (with_reducible first | exact HB.out | apply below_alloc | apply pw_below_drewN | apply below_drew1 | refine below_set ?_ GE307.out | refine below_set ?_ GE317.out | refine below_set ?_ GE318.out) | exact HB.out)) hb)
             clear BK307
             clear BK317
             clear BK318
             clear HB
             have BK307 := n0_
             have BK317 := n1_
             have BK318 := n2_
             have HB := n3_
             clear n0_ n1_ n2_ n3_
             (try clear hb)
             (try clear hb2)
             (try clear hk)
             (try clear hi)
             refine hK.out _ _ ⟨(blk_cell BK317.out 0).trans rfl, (blk_cell BK317.out 1).trans rfl⟩ (fun hHeld => ?_)
             clear hK K
             refine norm_ (a' := ?_) ?_ ?_
             rotate_left
             ·show Act.put _ (some 65) _ = _
              simp only [Act.put, List.setIfInBounds_toArray, List.set_cons_zero, List.set_cons_succ, i64_w, i32_w]
              rfl
             refine one_ (i := 3) (N := some 67) KeyRanges.m5 rfl rfl (one_of HT_.out (by kernel_rfl)) (by decide) (fun K hK => ?_)
             refine goes_ Tryd.func43 (by kernel_rfl) rfl #[.string t324, .agg #[.string t313, .string t314]] (by rfl) rfl rfl (by (try simp only [List.map_toArray, List.map_cons, List.map_nil]); first | done | rfl | (simp only [List.length_drop, List.length_take]; rfl)) ?_
             with_reducible refine (rillbedlaw06_in.calls t324 t313 t314 t325 _ A40.out).mono ?_
             rintro e w87 ⟨rfl, hb⟩
             refine ⟨_, rfl, ?_⟩
             have n0_ := Aside0.mk (blk_below (g := gb307) (o := .cells #[.int .u8 a2_0, .int .u8 a2_1] 65 (0, 0)) (by (with_reducible repeat (first | refine blk_drewN ?_ _ | refine blk_drew ?_ | refine blk_alloc ?_ _)); exact BK307.out) hb)
             have n1_ := Aside0.mk (blk_below (g := gb317) (o := .cells #[.string t313, .string t314] 49 (0, 0)) (by (with_reducible repeat (first | refine blk_drewN ?_ _ | refine blk_drew ?_ | refine blk_alloc ?_ _)); exact BK317.out) hb)
             have n2_ := Aside0.mk (blk_below (g := gb318) (o := .cells #[.string t315, .string t316] 49 (0, 0)) (by (with_reducible repeat (first | refine blk_drewN ?_ _ | refine blk_drew ?_ | refine blk_alloc ?_ _)); exact BK318.out) hb)
             have n3_ := Aside0.mk (below_step (by repeat (first | (with_reducible first | exact HB.out | apply below_alloc | apply pw_below_drewN | apply below_drew1 | refine below_set ?_ GE307.out | refine below_set ?_ GE317.out | refine below_set ?_ GE318.out) | exact HB.out)) hb)
             clear BK307
             clear BK317
             clear BK318
             clear HB
             have BK307 := n0_
             have BK317 := n1_
             have BK318 := n2_
             have HB := n3_
             clear n0_ n1_ n2_ n3_
             (try clear hb)
             (try clear hb2)
             (try clear hk)
             (try clear hi)
             refine hK.out _ _ ⟨(blk_cell BK317.out 0).trans rfl, (blk_cell BK317.out 1).trans rfl⟩ (fun hHeld => ?_)
             clear hK K
             refine norm_ (a' := ?_) ?_ ?_
             rotate_left
             ·show Act.put _ (some 67) _ = _
              simp only [Act.put, List.setIfInBounds_toArray, List.set_cons_zero, List.set_cons_succ, i64_w, i32_w]
              rfl
             refine pure_ (i := 5) (N := some 69) (v := ?_) (a' := ?_) KeyRanges.m6 rfl rfl (any_of HT_.out (by kernel_rfl)) (fun _ _ _ h => h) (Or.inl ⟨by rfl, ?_⟩) ?_ ?_
             rotate_left
             ·intro w'
              go_simp
              with_reducible rfl
             rotate_left
             ·simp only [Act.put, List.setIfInBounds_toArray, List.set_cons_zero, List.set_cons_succ, i64_w, i32_w]
              rfl
             refine pure_ (i := 6) (N := some 70) (v := ?_) (a' := ?_) KeyRanges.m7 rfl rfl (any_of HT_.out (by kernel_rfl)) (fun _ _ _ h => h) (Or.inl ⟨by rfl, ?_⟩) ?_ ?_
             rotate_left
             ·intro w'
              go_simp
              with_reducible rfl
             rotate_left
             ·simp only [Act.put, List.setIfInBounds_toArray, List.set_cons_zero, List.set_cons_succ, i64_w, i32_w]
              rfl
             refine pure_ (i := 7) (N := some 71) (v := ?_) (a' := ?_) KeyRanges.m8 rfl rfl (any_of HT_.out (by kernel_rfl)) (fun _ _ _ h => h) (Or.inl ⟨by rfl, ?_⟩) ?_ ?_
             rotate_left
             ·intro w'
              go_simp
              with_reducible rfl
             rotate_left
             ·simp only [Act.put, List.setIfInBounds_toArray, List.set_cons_zero, List.set_cons_succ, i64_w, i32_w]
              rfl
             refine pure_ (i := 9) (N := some 73) (v := ?_) (a' := ?_) KeyRanges.m9 rfl rfl (any_of HT_.out (by kernel_rfl)) (fun _ _ _ h => h) (Or.inl ⟨by rfl, ?_⟩) ?_ ?_
             rotate_left
             ·intro w'
              go_simp
              with_reducible rfl
             rotate_left
             ·simp only [Act.put, List.setIfInBounds_toArray, List.set_cons_zero, List.set_cons_succ, i64_w, i32_w]
              rfl
             refine pure_ (i := 12) (N := some 76) (v := ?_) (a' := ?_) KeyRanges.m10 rfl rfl (any_of HT_.out (by kernel_rfl)) (fun _ _ _ h => h) (Or.inl ⟨by rfl, ?_⟩) ?_ ?_
             rotate_left
             ·intro w'
              go_simp
              with_reducible rfl
             rotate_left
             ·simp only [Act.put, List.setIfInBounds_toArray, List.set_cons_zero, List.set_cons_succ, i64_w, i32_w]
              rfl
             refine one_ (i := 8) (N := some 72) KeyRanges.m11 rfl rfl (one_of HT_.out (by kernel_rfl)) (by decide) (fun K hK => ?_)
             refine goes_ Tryd.func28 (by kernel_rfl) rfl #[.slice A1 l1.length c1] (by rfl) rfl rfl (by (try simp only [List.map_toArray, List.map_cons, List.map_nil]); first | done | rfl | (simp only [List.length_drop, List.length_take]; rfl)) ?_
             with_reducible refine (key_Meta.calls kj19 _ _ l1 t326 _ ?side1 ?side2 A45.out).mono ?_
             (case side1 => repeat (first | exact (Kd.C_below HR1.out HB.out) | (with_reducible refine Kd.C_alloc ?_ _) | (with_reducible refine Kd.C_drewN ?_ _) | (with_reducible refine Kd.C_drew ?_)))
             (case side2 => exact HC1.out)
             rintro e w88 ⟨rfl, hb⟩
             refine ⟨_, rfl, ?_⟩
             have n0_ := Aside0.mk (blk_below (g := gb307) (o := .cells #[.int .u8 a2_0, .int .u8 a2_1] 65 (0, 0)) (by (with_reducible repeat (first | refine blk_drewN ?_ _ | refine blk_drew ?_ | refine blk_alloc ?_ _)); exact BK307.out) hb)
             have n1_ := Aside0.mk (blk_below (g := gb317) (o := .cells #[.string t313, .string t314] 49 (0, 0)) (by (with_reducible repeat (first | refine blk_drewN ?_ _ | refine blk_drew ?_ | refine blk_alloc ?_ _)); exact BK317.out) hb)
             have n2_ := Aside0.mk (blk_below (g := gb318) (o := .cells #[.string t315, .string t316] 49 (0, 0)) (by (with_reducible repeat (first | refine blk_drewN ?_ _ | refine blk_drew ?_ | refine blk_alloc ?_ _)); exact BK318.out) hb)
             have n3_ := Aside0.mk (below_step (by repeat (first | (with_reducible first | exact HB.out | apply below_alloc | apply pw_below_drewN | apply below_drew1 | refine below_set ?_ GE307.out | refine below_set ?_ GE317.out | refine below_set ?_ GE318.out) | exact HB.out)) hb)
             clear BK307
             clear BK317
             clear BK318
             clear HB
             have BK307 := n0_
             have BK317 := n1_
             have BK318 := n2_
             have HB := n3_
             clear n0_ n1_ n2_ n3_
             (try clear hb)
             (try clear hb2)
             (try clear hk)
             (try clear hi)
             refine hK.out _ _ ⟨(blk_cell BK317.out 0).trans rfl, (blk_cell BK317.out 1).trans rfl⟩ (fun hHeld => ?_)
             clear hK K
             refine norm_ (a' := ?_) ?_ ?_
             rotate_left
             ·show Act.put _ (some 72) _ = _
              simp only [Act.put, List.setIfInBounds_toArray, List.set_cons_zero, List.set_cons_succ, i64_w, i32_w]
              rfl
             refine one_ (i := 10) (N := some 74) KeyRanges.m12 rfl rfl (one_of HT_.out (by kernel_rfl)) (by decide) (fun K hK => ?_)
             refine goes_ Tryd.func31 (by kernel_rfl) rfl #[.slice A0 l0.length c0] (by rfl) rfl rfl (by (try simp only [List.map_toArray, List.map_cons, List.map_nil]); first | done | rfl | (simp only [List.length_drop, List.length_take]; rfl)) ?_
             with_reducible refine (key_Below.calls kj19 _ _ l0 t327 t328 _ ?side1 ?side2 A46.out).mono ?_
             (case side1 => repeat (first | exact (Kd.C_below HR0.out HB.out) | (with_reducible refine Kd.C_alloc ?_ _) | (with_reducible refine Kd.C_drewN ?_ _) | (with_reducible refine Kd.C_drew ?_)))
             (case side2 => exact HC0.out)
             rintro e w89 ⟨rfl, hb⟩
             refine ⟨_, rfl, ?_⟩
             have n0_ := Aside0.mk (blk_below (g := gb307) (o := .cells #[.int .u8 a2_0, .int .u8 a2_1] 65 (0, 0)) (by (with_reducible repeat (first | refine blk_drewN ?_ _ | refine blk_drew ?_ | refine blk_alloc ?_ _)); exact BK307.out) hb)
             have n1_ := Aside0.mk (blk_below (g := gb317) (o := .cells #[.string t313, .string t314] 49 (0, 0)) (by (with_reducible repeat (first | refine blk_drewN ?_ _ | refine blk_drew ?_ | refine blk_alloc ?_ _)); exact BK317.out) hb)
             have n2_ := Aside0.mk (blk_below (g := gb318) (o := .cells #[.string t315, .string t316] 49 (0, 0)) (by (with_reducible repeat (first | refine blk_drewN ?_ _ | refine blk_drew ?_ | refine blk_alloc ?_ _)); exact BK318.out) hb)
             have n3_ := Aside0.mk (below_step (by repeat (first | (with_reducible first | exact HB.out | apply below_alloc | apply pw_below_drewN | apply below_drew1 | refine below_set ?_ GE307.out | refine below_set ?_ GE317.out | refine below_set ?_ GE318.out) | exact HB.out)) hb)
             clear BK307
             clear BK317
             clear BK318
             clear HB
             have BK307 := n0_
             have BK317 := n1_
             have BK318 := n2_
             have HB := n3_
             clear n0_ n1_ n2_ n3_
             (try clear hb)
             (try clear hb2)
             (try clear hk)
             (try clear hi)
             refine hK.out _ _ ⟨(blk_cell BK317.out 0).trans rfl, (blk_cell BK317.out 1).trans rfl⟩ (fun hHeld => ?_)
             clear hK K
             refine norm_ (a' := ?_) ?_ ?_
             rotate_left
             ·show Act.put _ (some 74) _ = _
              simp only [Act.put, List.setIfInBounds_toArray, List.set_cons_zero, List.set_cons_succ, i64_w, i32_w]
              rfl
             refine one_ (i := 11) (N := some 75) KeyRanges.m13 rfl rfl (one_of HT_.out (by kernel_rfl)) (by decide) (fun K hK => ?_)
             refine goes_ Tryd.func43 (by kernel_rfl) rfl #[.string t326, .agg #[.string t327, .string t328]] (by rfl) rfl rfl (by (try simp only [List.map_toArray, List.map_cons, List.map_nil]); first | done | rfl | (simp only [List.length_drop, List.length_take]; rfl)) ?_
             with_reducible refine (rillbedlaw06_in.calls t326 t327 t328 t329 _ A47.out).mono ?_
             rintro e w90 ⟨rfl, hb⟩
             refine ⟨_, rfl, ?_⟩
             have n0_ := Aside0.mk (blk_below (g := gb307) (o := .cells #[.int .u8 a2_0, .int .u8 a2_1] 65 (0, 0)) (by (with_reducible repeat (first | refine blk_drewN ?_ _ | refine blk_drew ?_ | refine blk_alloc ?_ _)); exact BK307.out) hb)
             have n1_ := Aside0.mk (blk_below (g := gb317) (o := .cells #[.string t313, .string t314] 49 (0, 0)) (by (with_reducible repeat (first | refine blk_drewN ?_ _ | refine blk_drew ?_ | refine blk_alloc ?_ _)); exact BK317.out) hb)
             have n2_ := Aside0.mk (blk_below (g := gb318) (o := .cells #[.string t315, .string t316] 49 (0, 0)) (by (with_reducible repeat (first | refine blk_drewN ?_ _ | refine blk_drew ?_ | refine blk_alloc ?_ _)); exact BK318.out) hb)
             have n3_ := Aside0.mk (below_step (by repeat (first | (with_reducible first | exact HB.out | apply below_alloc | apply pw_below_drewN | apply below_drew1 | refine below_set ?_ GE307.out | refine below_set ?_ GE317.out | refine below_set ?_ GE318.out) | exact HB.out)) hb)
             clear BK307
             clear BK317
             clear BK318
             clear HB
             have BK307 := n0_
             have BK317 := n1_
             have BK318 := n2_
             have HB := n3_
             clear n0_ n1_ n2_ n3_
             (try clear hb)
             (try clear hb2)
             (try clear hk)
             (try clear hi)
             refine hK.out _ _ ⟨(blk_cell BK317.out 0).trans rfl, (blk_cell BK317.out 1).trans rfl⟩ (fun hHeld => ?_)
             clear hK K
             refine norm_ (a' := ?_) ?_ ?_
             rotate_left
             ·show Act.put _ (some 75) _ = _
              simp only [Act.put, List.setIfInBounds_toArray, List.set_cons_zero, List.set_cons_succ, i64_w, i32_w]
              rfl
             refine pure_ (i := 13) (N := some 77) (v := ?_) (a' := ?_) KeyRanges.m14 rfl rfl (any_of HT_.out (by kernel_rfl)) (fun _ _ _ h => h) (Or.inl ⟨by rfl, ?_⟩) ?_ ?_
             rotate_left
             ·intro w'
              go_simp
              with_reducible rfl
             rotate_left
             ·simp only [Act.put, List.setIfInBounds_toArray, List.set_cons_zero, List.set_cons_succ, i64_w, i32_w]
              rfl
             refine pure_ (i := 14) (N := some 78) (v := ?_) (a' := ?_) KeyRanges.m15 rfl rfl (any_of HT_.out (by kernel_rfl)) (fun _ _ _ h => h) (Or.inl ⟨by rfl, ?_⟩) ?_ ?_
             rotate_left
             ·intro w'
              go_simp
              with_reducible rfl
             rotate_left
             ·simp only [Act.put, List.setIfInBounds_toArray, List.set_cons_zero, List.set_cons_succ, i64_w, i32_w]
              rfl
             refine pure_ (i := 15) (N := some 79) (v := ?_) (a' := ?_) KeyRanges.m16 rfl rfl (any_of HT_.out (by kernel_rfl)) (fun _ _ _ h => h) (Or.inl ⟨by rfl, ?_⟩) ?_ ?_
             rotate_left
             ·intro w'
              go_simp
              with_reducible rfl
             rotate_left
             ·simp only [Act.put, List.setIfInBounds_toArray, List.set_cons_zero, List.set_cons_succ, i64_w, i32_w]
              rfl
             refine pure_ (i := 16) (N := some 80) (v := ?_) (a' := ?_) KeyRanges.m17 rfl rfl (any_of HT_.out (by kernel_rfl)) (fun _ _ _ h => h) (Or.inl ⟨by rfl, ?_⟩) ?_ ?_
             rotate_left
             ·intro w'
              go_simp
              with_reducible rfl
             rotate_left
             ·simp only [Act.put, List.setIfInBounds_toArray, List.set_cons_zero, List.set_cons_succ, i64_w, i32_w]
              rfl
             refine pure_ (i := 17) (N := some 81) (v := ?_) (a' := ?_) KeyRanges.m18 rfl rfl (any_of HT_.out (by kernel_rfl)) (fun _ _ _ h => h) (Or.inl ⟨by rfl, ?_⟩) ?_ ?_
             rotate_left
             ·intro w'
              go_simp
              with_reducible rfl
             rotate_left
             ·simp only [Act.put, List.setIfInBounds_toArray, List.set_cons_zero, List.set_cons_succ, i64_w, i32_w]
              rfl
             refine pure_ (i := 18) (N := some 82) (v := ?_) (a' := ?_) KeyRanges.m19 rfl rfl (any_of HT_.out (by kernel_rfl)) (fun _ _ _ h => h) (Or.inl ⟨by rfl, ?_⟩) ?_ ?_
             rotate_left
             ·intro w'
              go_simp
              with_reducible rfl
             rotate_left
             ·simp only [Act.put, List.setIfInBounds_toArray, List.set_cons_zero, List.set_cons_succ, i64_w, i32_w]
              rfl
             refine pure_ (i := 19) (N := some 83) (v := ?_) (a' := ?_) KeyRanges.m20 rfl rfl (any_of HT_.out (by kernel_rfl)) (fun _ _ _ h => h) (Or.inl ⟨by rfl, ?_⟩) ?_ ?_
             rotate_left
             ·intro w'
              go_simp
              with_reducible rfl
             rotate_left
             ·simp only [Act.put, List.setIfInBounds_toArray, List.set_cons_zero, List.set_cons_succ, i64_w, i32_w]
              rfl
             refine pure_ (i := 20) (N := some 84) (v := ?_) (a' := ?_) KeyRanges.m21 rfl rfl (any_of HT_.out (by kernel_rfl)) (fun _ _ _ h => h) (Or.inl ⟨by rfl, ?_⟩) ?_ ?_
             rotate_left
             ·intro w'
              go_simp
              with_reducible rfl
             rotate_left
             ·simp only [Act.put, List.setIfInBounds_toArray, List.set_cons_zero, List.set_cons_succ, i64_w, i32_w]
              rfl
             refine pure_ (i := 22) (N := some 86) (v := ?_) (a' := ?_) KeyRanges.m22 rfl rfl (any_of HT_.out (by kernel_rfl)) (fun _ _ _ h => h) (Or.inl ⟨by rfl, ?_⟩) ?_ ?_
             rotate_left
             ·intro w'
              go_simp
              with_reducible rfl
             rotate_left
             ·simp only [Act.put, List.setIfInBounds_toArray, List.set_cons_zero, List.set_cons_succ, i64_w, i32_w]
              rfl
             refine pure_ (i := 25) (N := some 89) (v := ?_) (a' := ?_) KeyRanges.m23 rfl rfl (any_of HT_.out (by kernel_rfl)) (fun _ _ _ h => h) (Or.inl ⟨by rfl, ?_⟩) ?_ ?_
             rotate_left
             ·intro w'
              go_simp
              with_reducible rfl
             rotate_left
             ·simp only [Act.put, List.setIfInBounds_toArray, List.set_cons_zero, List.set_cons_succ, i64_w, i32_w]
              rfl
             refine one_ (i := 21) (N := some 85) KeyRanges.m24 rfl rfl (one_of HT_.out (by kernel_rfl)) (by decide) (fun K hK => ?_)
             refine goes_ Tryd.func28 (by kernel_rfl) rfl #[.slice A0 l0.length c0] (by rfl) rfl rfl (by (try simp only [List.map_toArray, List.map_cons, List.map_nil]); first | done | rfl | (simp only [List.length_drop, List.length_take]; rfl)) ?_
             with_reducible refine (key_Meta.calls kj19 _ _ l0 t330 _ ?side1 ?side2 A56.out).mono ?_
             (case side1 => repeat (first | exact (Kd.C_below HR0.out HB.out) | (with_reducible refine Kd.C_alloc ?_ _) | (with_reducible refine Kd.C_drewN ?_ _) | (with_reducible refine Kd.C_drew ?_)))
             (case side2 => exact HC0.out)
             rintro e w91 ⟨rfl, hb⟩
             refine ⟨_, rfl, ?_⟩
             have n0_ := Aside0.mk (blk_below (g := gb307) (o := .cells #[.int .u8 a2_0, .int .u8 a2_1] 65 (0, 0)) (by (with_reducible repeat (first | refine blk_drewN ?_ _ | refine blk_drew ?_ | refine blk_alloc ?_ _)); exact BK307.out) hb)
             have n1_ := Aside0.mk (blk_below (g := gb317) (o := .cells #[.string t313, .string t314] 49 (0, 0)) (by (with_reducible repeat (first | refine blk_drewN ?_ _ | refine blk_drew ?_ | refine blk_alloc ?_ _)); exact BK317.out) hb)
             have n2_ := Aside0.mk (blk_below (g := gb318) (o := .cells #[.string t315, .string t316] 49 (0, 0)) (by (with_reducible repeat (first | refine blk_drewN ?_ _ | refine blk_drew ?_ | refine blk_alloc ?_ _)); exact BK318.out) hb)
             have n3_ := Aside0.mk (below_step (by repeat (first | (with_reducible first | exact HB.out | apply below_alloc | apply pw_below_drewN | apply below_drew1 | refine below_set ?_ GE307.out | refine below_set ?_ GE317.out | refine below_set ?_ GE318.out) | exact HB.out)) hb)
             clear BK307
             clear BK317
             clear BK318
             clear HB
             have BK307 := n0_
             have BK317 := n1_
             have BK318 := n2_
             have HB := n3_
             clear n0_ n1_ n2_ n3_
             (try clear hb)
             (try clear hb2)
             (try clear hk)
             (try clear hi)
             refine hK.out _ _ ⟨(blk_cell BK317.out 0).trans rfl, (blk_cell BK317.out 1).trans rfl⟩ (fun hHeld => ?_)
             clear hK K
             refine norm_ (a' := ?_) ?_ ?_
             rotate_left
             ·show Act.put _ (some 85) _ = _
              simp only [Act.put, List.setIfInBounds_toArray, List.set_cons_zero, List.set_cons_succ, i64_w, i32_w]
              rfl
             refine one_ (i := 23) (N := some 87) KeyRanges.m25 rfl rfl (one_of HT_.out (by kernel_rfl)) (by decide) (fun K hK => ?_)
             refine goes_ Tryd.func28 (by kernel_rfl) rfl #[.slice A1 l1.length c1] (by rfl) rfl rfl (by (try simp only [List.map_toArray, List.map_cons, List.map_nil]); first | done | rfl | (simp only [List.length_drop, List.length_take]; rfl)) ?_
             with_reducible refine (key_Meta.calls kj19 _ _ l1 t331 _ ?side1 ?side2 A57.out).mono ?_
             (case side1 => repeat (first | exact (Kd.C_below HR1.out HB.out) | (with_reducible refine Kd.C_alloc ?_ _) | (with_reducible refine Kd.C_drewN ?_ _) | (with_reducible refine Kd.C_drew ?_)))
             (case side2 => exact HC1.out)
             rintro e w92 ⟨rfl, hb⟩
             refine ⟨_, rfl, ?_⟩
             have n0_ := Aside0.mk (blk_below (g := gb307) (o := .cells #[.int .u8 a2_0, .int .u8 a2_1] 65 (0, 0)) (by (with_reducible repeat (first | refine blk_drewN ?_ _ | refine blk_drew ?_ | refine blk_alloc ?_ _)); exact BK307.out) hb)
             have n1_ := Aside0.mk (blk_below (g := gb317) (o := .cells #[.string t313, .string t314] 49 (0, 0)) (by (with_reducible repeat (first | refine blk_drewN ?_ _ | refine blk_drew ?_ | refine blk_alloc ?_ _)); exact BK317.out) hb)
             have n2_ := Aside0.mk (blk_below (g := gb318) (o := .cells #[.string t315, .string t316] 49 (0, 0)) (by (with_reducible repeat (first | refine blk_drewN ?_ _ | refine blk_drew ?_ | refine blk_alloc ?_ _)); exact BK318.out) hb)
             have n3_ := Aside0.mk (below_step (by repeat (first | (with_reducible first | exact HB.out | apply below_alloc | apply pw_below_drewN | apply below_drew1 | refine below_set ?_ GE307.out | refine below_set ?_ GE317.out | refine below_set ?_ GE318.out) | exact HB.out)) hb)
             clear BK307
             clear BK317
             clear BK318
             clear HB
             have BK307 := n0_
             have BK317 := n1_
             have BK318 := n2_
             have HB := n3_
             clear n0_ n1_ n2_ n3_
             (try clear hb)
             (try clear hb2)
             (try clear hk)
             (try clear hi)
             refine hK.out _ _ ⟨(blk_cell BK317.out 0).trans rfl, (blk_cell BK317.out 1).trans rfl⟩ (fun hHeld => ?_)
             clear hK K
             refine norm_ (a' := ?_) ?_ ?_
             rotate_left
             ·show Act.put _ (some 87) _ = _
              simp only [Act.put, List.setIfInBounds_toArray, List.set_cons_zero, List.set_cons_succ, i64_w, i32_w]
              rfl
             refine pure_ (i := 24) (N := some 88) (v := ?_) (a' := ?_) KeyRanges.m26 rfl rfl (any_of HT_.out (by kernel_rfl)) (fun _ _ _ h => h) (Or.inl ⟨by rfl, ?_⟩) ?_ ?_
             rotate_left
             ·intro w'
              go_simp
              with_reducible rfl
             rotate_left
             ·simp only [Act.put, List.setIfInBounds_toArray, List.set_cons_zero, List.set_cons_succ, i64_w, i32_w]
              rfl
             refine pure_ (i := 26) (N := some 90) (v := ?_) (a' := ?_) KeyRanges.m27 rfl rfl (any_of HT_.out (by kernel_rfl)) (fun _ _ _ h => h) (Or.inl ⟨by rfl, ?_⟩) ?_ ?_
             rotate_left
             ·intro w'
              go_simp
              with_reducible rfl
             rotate_left
             ·simp only [Act.put, List.setIfInBounds_toArray, List.set_cons_zero, List.set_cons_succ, i64_w, i32_w]
              rfl
             refine pure_ (i := 27) (N := some 91) (v := ?_) (a' := ?_) KeyRanges.m28 rfl rfl (any_of HT_.out (by kernel_rfl)) (fun _ _ _ h => h) (Or.inl ⟨by rfl, ?_⟩) ?_ ?_
             rotate_left
             ·intro w'
              go_simp
              with_reducible rfl
             rotate_left
             ·simp only [Act.put, List.setIfInBounds_toArray, List.set_cons_zero, List.set_cons_succ, i64_w, i32_w]
              rfl
             refine pure_ (i := 28) (N := some 92) (v := ?_) (a' := ?_) KeyRanges.m29 rfl rfl (any_of HT_.out (by kernel_rfl)) (fun _ _ _ h => h) (Or.inl ⟨by rfl, ?_⟩) ?_ ?_
             rotate_left
             ·intro w'
              go_simp
              with_reducible rfl
             rotate_left
             ·simp only [Act.put, List.setIfInBounds_toArray, List.set_cons_zero, List.set_cons_succ, i64_w, i32_w]
              rfl
             refine pure_ (i := 29) (N := some 93) (v := ?_) (a' := ?_) KeyRanges.m30 rfl rfl (any_of HT_.out (by kernel_rfl)) (fun _ _ _ h => h) (Or.inl ⟨by rfl, ?_⟩) ?_ ?_
             rotate_left
             ·intro w'
              go_simp
              with_reducible rfl
             rotate_left
             ·simp only [Act.put, List.setIfInBounds_toArray, List.set_cons_zero, List.set_cons_succ, i64_w, i32_w]
              rfl
             refine pure_ (i := 31) (N := some 95) (v := ?_) (a' := ?_) KeyRanges.m31 rfl rfl (any_of HT_.out (by kernel_rfl)) (fun _ _ _ h => h) (Or.inl ⟨by rfl, ?_⟩) ?_ ?_
             rotate_left
             ·intro w'
              go_simp
              with_reducible rfl
             rotate_left
             ·simp only [Act.put, List.setIfInBounds_toArray, List.set_cons_zero, List.set_cons_succ, i64_w, i32_w]
              rfl
             refine one_ (i := 30) (N := some 94) KeyRanges.m32 rfl rfl (one_of HT_.out (by kernel_rfl)) (by decide) (fun K hK => ?_)
             refine goes_ Tryd.func28 (by kernel_rfl) rfl #[.slice A1 l1.length c1] (by rfl) rfl rfl (by (try simp only [List.map_toArray, List.map_cons, List.map_nil]); first | done | rfl | (simp only [List.length_drop, List.length_take]; rfl)) ?_
             with_reducible refine (key_Meta.calls kj19 _ _ l1 t332 _ ?side1 ?side2 A67.out).mono ?_
             (case side1 => repeat (first | exact (Kd.C_below HR1.out HB.out) | (with_reducible refine Kd.C_alloc ?_ _) | (with_reducible refine Kd.C_drewN ?_ _) | (with_reducible refine Kd.C_drew ?_)))
             (case side2 => exact HC1.out)
             rintro e w93 ⟨rfl, hb⟩
             refine ⟨_, rfl, ?_⟩
             have n0_ := Aside0.mk (blk_below (g := gb307) (o := .cells #[.int .u8 a2_0, .int .u8 a2_1] 65 (0, 0)) (by (with_reducible repeat (first | refine blk_drewN ?_ _ | refine blk_drew ?_ | refine blk_alloc ?_ _)); exact BK307.out) hb)
             have n1_ := Aside0.mk (blk_below (g := gb317) (o := .cells #[.string t313, .string t314] 49 (0, 0)) (by (with_reducible repeat (first | refine blk_drewN ?_ _ | refine blk_drew ?_ | refine blk_alloc ?_ _)); exact BK317.out) hb)
             have n2_ := Aside0.mk (blk_below (g := gb318) (o := .cells #[.string t315, .string t316] 49 (0, 0)) (by (with_reducible repeat (first | refine blk_drewN ?_ _ | refine blk_drew ?_ | refine blk_alloc ?_ _)); exact BK318.out) hb)
             have n3_ := Aside0.mk (below_step (by repeat (first | (with_reducible first | exact HB.out | apply below_alloc | apply pw_below_drewN | apply below_drew1 | refine below_set ?_ GE307.out | refine below_set ?_ GE317.out | refine below_set ?_ GE318.out) | exact HB.out)) hb)
             clear BK307
             clear BK317
             clear BK318
             clear HB
             have BK307 := n0_
             have BK317 := n1_
             have BK318 := n2_
             have HB := n3_
             clear n0_ n1_ n2_ n3_
             (try clear hb)
             (try clear hb2)
             (try clear hk)
             (try clear hi)
             refine hK.out _ _ ⟨(blk_cell BK317.out 0).trans rfl, (blk_cell BK317.out 1).trans rfl⟩ (fun hHeld => ?_)
             clear hK K
             refine norm_ (a' := ?_) ?_ ?_
             rotate_left
             ·show Act.put _ (some 94) _ = _
              simp only [Act.put, List.setIfInBounds_toArray, List.set_cons_zero, List.set_cons_succ, i64_w, i32_w]
              rfl
             refine one_ (i := 32) (N := some 96) KeyRanges.m33 rfl rfl (one_of HT_.out (by kernel_rfl)) (by decide) (fun K hK => ?_)
             refine goes_ Tryd.func16 (by kernel_rfl) rfl #[.slice A1 l1.length c1, .string (⟨#[47]⟩ : ByteArray)] (by rfl) rfl rfl (by (try simp only [List.map_toArray, List.map_cons, List.map_nil]); first | done | rfl | (simp only [List.length_drop, List.length_take]; rfl)) ?_
             with_reducible refine (strings_Join.calls _ _ l1 (⟨#[47]⟩ : ByteArray) t333 _ ?side1 ?side2 A68.out).mono ?_
             (case side1 => repeat (first | exact (Kd.C_below HR1.out HB.out) | (with_reducible refine Kd.C_alloc ?_ _) | (with_reducible refine Kd.C_drewN ?_ _) | (with_reducible refine Kd.C_drew ?_)))
             (case side2 => exact HC1.out)
             rintro e w94 ⟨rfl, hb⟩
             refine ⟨_, rfl, ?_⟩
             have n0_ := Aside0.mk (blk_below (g := gb307) (o := .cells #[.int .u8 a2_0, .int .u8 a2_1] 65 (0, 0)) (by (with_reducible repeat (first | refine blk_drewN ?_ _ | refine blk_drew ?_ | refine blk_alloc ?_ _)); exact BK307.out) hb)
             have n1_ := Aside0.mk (blk_below (g := gb317) (o := .cells #[.string t313, .string t314] 49 (0, 0)) (by (with_reducible repeat (first | refine blk_drewN ?_ _ | refine blk_drew ?_ | refine blk_alloc ?_ _)); exact BK317.out) hb)
             have n2_ := Aside0.mk (blk_below (g := gb318) (o := .cells #[.string t315, .string t316] 49 (0, 0)) (by (with_reducible repeat (first | refine blk_drewN ?_ _ | refine blk_drew ?_ | refine blk_alloc ?_ _)); exact BK318.out) hb)
             have n3_ := Aside0.mk (below_step (by repeat (first | (with_reducible first | exact HB.out | apply below_alloc | apply pw_below_drewN | apply below_drew1 | refine below_set ?_ GE307.out | refine below_set ?_ GE317.out | refine below_set ?_ GE318.out) | exact HB.out)) hb)
             clear BK307
             clear BK317
             clear BK318
             clear HB
             have BK307 := n0_
             have BK317 := n1_
             have BK318 := n2_
             have HB := n3_
             clear n0_ n1_ n2_ n3_
             (try clear hb)
             (try clear hb2)
             (try clear hk)
             (try clear hi)
             refine hK.out _ _ ⟨(blk_cell BK317.out 0).trans rfl, (blk_cell BK317.out 1).trans rfl⟩ (fun hHeld => ?_)
             clear hK K
             refine norm_ (a' := ?_) ?_ ?_
             rotate_left
             ·show Act.put _ (some 96) _ = _
              simp only [Act.put, List.setIfInBounds_toArray, List.set_cons_zero, List.set_cons_succ, i64_w, i32_w]
              rfl
             refine one_ (i := 33) (N := some 97) KeyRanges.m34 rfl rfl (one_of HT_.out (by kernel_rfl)) (by decide) (fun K hK => ?_)
             refine goes_ Tryd.func36 (by kernel_rfl) rfl #[.string t332, .int .u8 109, .string t333, .int .i64 0] (by rfl) rfl rfl (by (try simp only [List.map_toArray, List.map_cons, List.map_nil]); first | done | rfl | (simp only [List.length_drop, List.length_take]; rfl)) ?_
             with_reducible refine (rillbedlaw06_takes.calls kj19 t332 109 t333 0 true _ A69.out).mono ?_
             rintro e w95 ⟨rfl, hb⟩
             refine ⟨_, rfl, ?_⟩
             have n0_ := Aside0.mk (blk_below (g := gb307) (o := .cells #[.int .u8 a2_0, .int .u8 a2_1] 65 (0, 0)) (by (with_reducible repeat (first | refine blk_drewN ?_ _ | refine blk_drew ?_ | refine blk_alloc ?_ _)); exact BK307.out) hb)
             have n1_ := Aside0.mk (blk_below (g := gb317) (o := .cells #[.string t313, .string t314] 49 (0, 0)) (by (with_reducible repeat (first | refine blk_drewN ?_ _ | refine blk_drew ?_ | refine blk_alloc ?_ _)); exact BK317.out) hb)
             have n2_ := Aside0.mk (blk_below (g := gb318) (o := .cells #[.string t315, .string t316] 49 (0, 0)) (by (with_reducible repeat (first | refine blk_drewN ?_ _ | refine blk_drew ?_ | refine blk_alloc ?_ _)); exact BK318.out) hb)
             have n3_ := Aside0.mk (below_step (by repeat (first | (with_reducible first | exact HB.out | apply below_alloc | apply pw_below_drewN | apply below_drew1 | refine below_set ?_ GE307.out | refine below_set ?_ GE317.out | refine below_set ?_ GE318.out) | exact HB.out)) hb)
             clear BK307
             clear BK317
             clear BK318
             clear HB
             have BK307 := n0_
             have BK317 := n1_
             have BK318 := n2_
             have HB := n3_
             clear n0_ n1_ n2_ n3_
             (try clear hb)
             (try clear hb2)
             (try clear hk)
             (try clear hi)
             refine hK.out _ _ ⟨(blk_cell BK317.out 0).trans rfl, (blk_cell BK317.out 1).trans rfl⟩ (fun hHeld => ?_)
             clear hK K
             refine norm_ (a' := ?_) ?_ ?_
             rotate_left
             ·show Act.put _ (some 97) _ = _
              simp only [Act.put, List.setIfInBounds_toArray, List.set_cons_zero, List.set_cons_succ, i64_w, i32_w]
              rfl
             refine pure_ (i := 34) (N := some 98) (v := ?_) (a' := ?_) KeyRanges.m35 rfl rfl (any_of HT_.out (by kernel_rfl)) (fun _ _ _ h => h) (Or.inl ⟨by rfl, ?_⟩) ?_ ?_
             rotate_left
             ·intro w'
              go_simp
              with_reducible rfl
             rotate_left
             ·simp only [Act.put, List.setIfInBounds_toArray, List.set_cons_zero, List.set_cons_succ, i64_w, i32_w]
              rfl
             refine pure_ (i := 35) (N := some 99) (v := ?_) (a' := ?_) KeyRanges.m36 rfl rfl (any_of HT_.out (by kernel_rfl)) (fun _ _ _ h => h) (Or.inl ⟨by rfl, ?_⟩) ?_ ?_
             rotate_left
             ·intro w'
              go_simp
              with_reducible rfl
             rotate_left
             ·simp only [Act.put, List.setIfInBounds_toArray, List.set_cons_zero, List.set_cons_succ, i64_w, i32_w]
              rfl
             refine pure_ (i := 36) (N := some 100) (v := ?_) (a' := ?_) KeyRanges.m37 rfl rfl (any_of HT_.out (by kernel_rfl)) (fun _ _ _ h => h) (Or.inl ⟨by rfl, ?_⟩) ?_ ?_
             rotate_left
             ·intro w'
              go_simp
              with_reducible rfl
             rotate_left
             ·simp only [Act.put, List.setIfInBounds_toArray, List.set_cons_zero, List.set_cons_succ, i64_w, i32_w]
              rfl
             refine pure_ (i := 37) (N := some 101) (v := ?_) (a' := ?_) KeyRanges.m38 rfl rfl (any_of HT_.out (by kernel_rfl)) (fun _ _ _ h => h) (Or.inl ⟨by rfl, ?_⟩) ?_ ?_
             rotate_left
             ·intro w'
              go_simp
              with_reducible rfl
             rotate_left
             ·simp only [Act.put, List.setIfInBounds_toArray, List.set_cons_zero, List.set_cons_succ, i64_w, i32_w]
              rfl
             refine pure_ (i := 38) (N := some 102) (v := ?_) (a' := ?_) KeyRanges.m39 rfl rfl (any_of HT_.out (by kernel_rfl)) (fun _ _ _ h => h) (Or.inl ⟨by rfl, ?_⟩) ?_ ?_
             rotate_left
             ·intro w'
              go_simp
              with_reducible rfl
             rotate_left
             ·simp only [Act.put, List.setIfInBounds_toArray, List.set_cons_zero, List.set_cons_succ, i64_w, i32_w]
              rfl
             refine pure_ (i := 39) (N := some 103) (v := ?_) (a' := ?_) KeyRanges.m40 rfl rfl (any_of HT_.out (by kernel_rfl)) (fun _ _ _ h => h) (Or.inl ⟨by rfl, ?_⟩) ?_ ?_
             rotate_left
             ·intro w'
              go_simp
              with_reducible rfl
             rotate_left
             ·simp only [Act.put, List.setIfInBounds_toArray, List.set_cons_zero, List.set_cons_succ, i64_w, i32_w]
              rfl
             refine pure_ (i := 40) (N := some 104) (v := ?_) (a' := ?_) KeyRanges.m41 rfl rfl (any_of HT_.out (by kernel_rfl)) (fun _ _ _ h => h) (Or.inl ⟨by rfl, ?_⟩) ?_ ?_
             rotate_left
             ·intro w'
              go_simp
              with_reducible rfl
             rotate_left
             ·simp only [Act.put, List.setIfInBounds_toArray, List.set_cons_zero, List.set_cons_succ, i64_w, i32_w]
              rfl
             refine pure_ (i := 41) (N := some 105) (v := ?_) (a' := ?_) KeyRanges.m42 rfl rfl (any_of HT_.out (by kernel_rfl)) (fun _ _ _ h => h) (Or.inl ⟨by rfl, ?_⟩) ?_ ?_
             rotate_left
             ·intro w'
              go_simp
              with_reducible rfl
             rotate_left
             ·simp only [Act.put, List.setIfInBounds_toArray, List.set_cons_zero, List.set_cons_succ, i64_w, i32_w]
              rfl
             refine pure_ (i := 42) (N := some 106) (v := ?_) (a' := ?_) KeyRanges.m43 rfl rfl (any_of HT_.out (by kernel_rfl)) (fun _ _ _ h => h) (Or.inl ⟨by rfl, ?_⟩) ?_ ?_
             rotate_left
             ·intro w'
              go_simp
              with_reducible rfl
             rotate_left
             ·simp only [Act.put, List.setIfInBounds_toArray, List.set_cons_zero, List.set_cons_succ, i64_w, i32_w]
              rfl
             refine pure_ (i := 43) (N := some 107) (v := ?_) (a' := ?_) KeyRanges.m44 rfl rfl (any_of HT_.out (by kernel_rfl)) (fun _ _ _ h => h) (Or.inl ⟨by rfl, ?_⟩) ?_ ?_
             rotate_left
             ·intro w'
              go_simp
              with_reducible rfl
             rotate_left
             ·simp only [Act.put, List.setIfInBounds_toArray, List.set_cons_zero, List.set_cons_succ, i64_w, i32_w]
              rfl
             refine pure_ (i := 45) (N := some 109) (v := ?_) (a' := ?_) KeyRanges.m51 rfl rfl (any_of HT_.out (by kernel_rfl)) (fun _ _ _ h => h) (Or.inl ⟨by rfl, ?_⟩) ?_ ?_
             rotate_left
             ·intro w'
              go_simp
              with_reducible rfl
             rotate_left
             ·simp only [Act.put, List.setIfInBounds_toArray, List.set_cons_zero, List.set_cons_succ, i64_w, i32_w]
              rfl
             refine one_ (i := 44) (N := some 108) KeyRanges.m46 rfl rfl (one_of HT_.out (by kernel_rfl)) (by decide) (fun K hK => ?_)
             refine goes_ Tryd.func28 (by kernel_rfl) rfl #[.slice A1 l1.length c1] (by rfl) rfl rfl (by (try simp only [List.map_toArray, List.map_cons, List.map_nil]); first | done | rfl | (simp only [List.length_drop, List.length_take]; rfl)) ?_
             with_reducible refine (key_Meta.calls kj19 _ _ l1 t335 _ ?side1 ?side2 A83.out).mono ?_
             (case side1 => repeat (first | exact (Kd.C_below HR1.out HB.out) | (with_reducible refine Kd.C_alloc ?_ _) | (with_reducible refine Kd.C_drewN ?_ _) | (with_reducible refine Kd.C_drew ?_)))
             (case side2 => exact HC1.out)
             rintro e w96 ⟨rfl, hb⟩
             refine ⟨_, rfl, ?_⟩
             have n0_ := Aside0.mk (blk_below (g := gb307) (o := .cells #[.int .u8 a2_0, .int .u8 a2_1] 65 (0, 0)) (by (with_reducible repeat (first | refine blk_drewN ?_ _ | refine blk_drew ?_ | refine blk_alloc ?_ _)); exact BK307.out) hb)
             have n1_ := Aside0.mk (blk_below (g := gb317) (o := .cells #[.string t313, .string t314] 49 (0, 0)) (by (with_reducible repeat (first | refine blk_drewN ?_ _ | refine blk_drew ?_ | refine blk_alloc ?_ _)); exact BK317.out) hb)
             have n2_ := Aside0.mk (blk_below (g := gb318) (o := .cells #[.string t315, .string t316] 49 (0, 0)) (by (with_reducible repeat (first | refine blk_drewN ?_ _ | refine blk_drew ?_ | refine blk_alloc ?_ _)); exact BK318.out) hb)
             have n3_ := Aside0.mk (below_step (by repeat (first | (with_reducible first | exact HB.out | apply below_alloc | apply pw_below_drewN | apply below_drew1 | refine below_set ?_ GE307.out | refine below_set ?_ GE317.out | refine below_set ?_ GE318.out) | exact HB.out)) hb)
             clear BK307
             clear BK317
             clear BK318
             clear HB
             have BK307 := n0_
             have BK317 := n1_
             have BK318 := n2_
             have HB := n3_
             clear n0_ n1_ n2_ n3_
             (try clear hb)
             (try clear hb2)
             (try clear hk)
             (try clear hi)
             refine hK.out _ _ ⟨(blk_cell BK317.out 0).trans rfl, (blk_cell BK317.out 1).trans rfl⟩ (fun hHeld => ?_)
             clear hK K
             refine norm_ (a' := ?_) ?_ ?_
             rotate_left
             ·show Act.put _ (some 108) _ = _
              simp only [Act.put, List.setIfInBounds_toArray, List.set_cons_zero, List.set_cons_succ, i64_w, i32_w]
              rfl
             refine one_ (i := 46) (N := some 110) KeyRanges.m47 rfl rfl (one_of HT_.out (by kernel_rfl)) (by decide) (fun K hK => ?_)
             refine goes_ Tryd.func28 (by kernel_rfl) rfl #[.slice A0 l0.length c0] (by rfl) rfl rfl (by (try simp only [List.map_toArray, List.map_cons, List.map_nil]); first | done | rfl | (simp only [List.length_drop, List.length_take]; rfl)) ?_
             with_reducible refine (key_Meta.calls kj19 _ _ l0 t336 _ ?side1 ?side2 A84.out).mono ?_
             (case side1 => repeat (first | exact (Kd.C_below HR0.out HB.out) | (with_reducible refine Kd.C_alloc ?_ _) | (with_reducible refine Kd.C_drewN ?_ _) | (with_reducible refine Kd.C_drew ?_)))
             (case side2 => exact HC0.out)
             rintro e w97 ⟨rfl, hb⟩
             refine ⟨_, rfl, ?_⟩
             have n0_ := Aside0.mk (blk_below (g := gb307) (o := .cells #[.int .u8 a2_0, .int .u8 a2_1] 65 (0, 0)) (by (with_reducible repeat (first | refine blk_drewN ?_ _ | refine blk_drew ?_ | refine blk_alloc ?_ _)); exact BK307.out) hb)
             have n1_ := Aside0.mk (blk_below (g := gb317) (o := .cells #[.string t313, .string t314] 49 (0, 0)) (by (with_reducible repeat (first | refine blk_drewN ?_ _ | refine blk_drew ?_ | refine blk_alloc ?_ _)); exact BK317.out) hb)
             have n2_ := Aside0.mk (blk_below (g := gb318) (o := .cells #[.string t315, .string t316] 49 (0, 0)) (by (with_reducible repeat (first | refine blk_drewN ?_ _ | refine blk_drew ?_ | refine blk_alloc ?_ _)); exact BK318.out) hb)
             have n3_ := Aside0.mk (below_step (by repeat (first | (with_reducible first | exact HB.out | apply below_alloc | apply pw_below_drewN | apply below_drew1 | refine below_set ?_ GE307.out | refine below_set ?_ GE317.out | refine below_set ?_ GE318.out) | exact HB.out)) hb)
             clear BK307
             clear BK317
             clear BK318
             clear HB
             have BK307 := n0_
             have BK317 := n1_
             have BK318 := n2_
             have HB := n3_
             clear n0_ n1_ n2_ n3_
             (try clear hb)
             (try clear hb2)
             (try clear hk)
             (try clear hi)
             refine hK.out _ _ ⟨(blk_cell BK317.out 0).trans rfl, (blk_cell BK317.out 1).trans rfl⟩ (fun hHeld => ?_)
             clear hK K
             refine norm_ (a' := ?_) ?_ ?_
             rotate_left
             ·show Act.put _ (some 110) _ = _
              simp only [Act.put, List.setIfInBounds_toArray, List.set_cons_zero, List.set_cons_succ, i64_w, i32_w]
              rfl
             refine pure_ (i := 47) (N := some 111) (v := ?_) (a' := ?_) KeyRanges.m48 rfl rfl (any_of HT_.out (by kernel_rfl)) (fun _ _ _ h => h) (Or.inl ⟨by rfl, ?_⟩) ?_ ?_
             rotate_left
             ·intro w'
              go_simp
              with_reducible rfl
             rotate_left
             ·simp only [Act.put, List.setIfInBounds_toArray, List.set_cons_zero, List.set_cons_succ, i64_w, i32_w]
              rfl
             refine pure_ (i := 48) (N := some 112) (v := ?_) (a' := ?_) KeyRanges.m49 rfl rfl (any_of HT_.out (by kernel_rfl)) (fun _ _ _ h => h) (Or.inl ⟨by rfl, ?_⟩) ?_ ?_
             rotate_left
             ·intro w'
              go_simp
              with_reducible rfl
             rotate_left
             ·simp only [Act.put, List.setIfInBounds_toArray, List.set_cons_zero, List.set_cons_succ, i64_w, i32_w]
              rfl
             refine pure_ (i := 49) (N := some 113) (v := ?_) (a' := ?_) KeyRanges.m50 rfl rfl (any_of HT_.out (by kernel_rfl)) (fun _ _ _ h => h) (Or.inl ⟨by rfl, ?_⟩) ?_ ?_
             rotate_left
             ·intro w'
              go_simp
              with_reducible rfl
             rotate_left
             ·simp only [Act.put, List.setIfInBounds_toArray, List.set_cons_zero, List.set_cons_succ, i64_w, i32_w]
              rfl
             refine done_ (done_of HT_.out (by kernel_rfl)) ?_
             try go_wp2
             go_meet
             case rel => exact ⟨_, ((Op.bytesLess t335.toList t336.toList)), (by first | rfl | (simp; done) | (simp [*]; done)), H', ⟨by have := HJ3.out; have := HJ19.out; first | omega | exact Nat.le_refl _⟩, ⟨by (with_reducible repeat (first | refine blk_drewN ?_ _ | refine blk_drew ?_ | refine blk_alloc ?_ _)); exact BK307.out⟩, ⟨by (with_reducible repeat (first | refine blk_drewN ?_ _ | refine blk_drew ?_ | refine blk_alloc ?_ _)); exact BK317.out⟩, ⟨by (with_reducible repeat (first | refine blk_drewN ?_ _ | refine blk_drew ?_ | refine blk_alloc ?_ _)); exact BK318.out⟩, ⟨by repeat (first | (with_reducible first | exact HB.out | apply below_alloc | apply pw_below_drewN | apply below_drew1 | refine below_set ?_ GE307.out | refine below_set ?_ GE317.out | refine below_set ?_ GE318.out) | exact HB.out)⟩⟩
           ·replace c70 := Bool.eq_false_iff.mpr c70
            subst c70
            have H1 : (rillbedlaw06_KeyRanges.j2 kj19 l0 l1 (wrap64 (Int.tmod a2_0 32)) (wrap64 (Int.tmod a2_1 32)) true x12_19 t322 t323 true t313 t314 t315 t316) = some true := by rw [if_neg (show ¬ (false = true) by decide)] at H; exact H
            clear H
            have H := H1
            clear H1
            exact absurd H (by cases kj19 <;> simp [rillbedlaw06_KeyRanges.j2])
        ·replace c48 := Bool.eq_false_iff.mpr c48
         subst c48
         have H1 : (if (t329 != false) = true then (rillbedlaw06_KeyRanges.j2 kj19 l0 l1 (wrap64 (Int.tmod a2_0 32)) (wrap64 (Int.tmod a2_1 32)) false x12_19 t322 t323 true t313 t314 t315 t316) else ((key_Meta.f kj19 l0).bind fun t337 => ((key_Meta.f kj19 l1).bind fun t338 => (if ((t337.toList == t338.toList) != x12_19) = true then (rillbedlaw06_KeyRanges.j2 kj19 l0 l1 (wrap64 (Int.tmod a2_0 32)) (wrap64 (Int.tmod a2_1 32)) false x12_19 t322 t323 true t313 t314 t315 t316) else ((key_Meta.f kj19 l1).bind fun t339 => ((strings_Join.f l1 (⟨#[47]⟩ : ByteArray)).bind fun t340 => ((rillbedlaw06_takes.f kj19 t339 109 t340 0).bind fun t341 => (if t341 = true then (rillbedlaw06_KeyRanges.j2 kj19 l0 l1 (wrap64 (Int.tmod a2_0 32)) (wrap64 (Int.tmod a2_1 32)) false x12_19 t322 t323 false t313 t314 t315 t316) else (rillbedlaw06_KeyRanges.j2 kj19 l0 l1 (wrap64 (Int.tmod a2_0 32)) (wrap64 (Int.tmod a2_1 32)) false x12_19 t322 t323 true t313 t314 t315 t316))))))))) = some true := by rw [if_neg (show ¬ (false = true) by decide)] at H; exact H
         clear H
         have H := H1
         clear H1
         by_cases c109 : (t329 != false) = true
         ·rw [if_pos c109] at H
          have c109b0 : (t329 != false) = true := c109
          (try (have c109b1 : decide (t329 = false) = false := by simpa using c109))
          (try (have c109b2 : (t329 == false) = false := by simpa using c109))
          (try (have c109b3 : ¬ (t329 = false) := by simpa using c109))
          clear c109
          exact absurd H (by cases kj19 <;> simp [rillbedlaw06_KeyRanges.j2])
         ·rw [if_neg c109] at H
          have c109b0 : (t329 != false) = false := by simpa using c109
          have g329 : t329 = false := by simpa using c109
          (try (have c109b1 : decide (t329 = false) = true := by simpa using c109))
          (try (have c109b2 : (t329 == false) = true := by simpa using c109))
          clear c109
          replace H := Option.bind_eq_some_iff.mp H
          obtain ⟨t337, A1160, H⟩ := H
          replace H : ((key_Meta.f kj19 l1).bind fun t338 => (if ((t337.toList == t338.toList) != x12_19) = true then (rillbedlaw06_KeyRanges.j2 kj19 l0 l1 (wrap64 (Int.tmod a2_0 32)) (wrap64 (Int.tmod a2_1 32)) false x12_19 t322 t323 true t313 t314 t315 t316) else ((key_Meta.f kj19 l1).bind fun t339 => ((strings_Join.f l1 (⟨#[47]⟩ : ByteArray)).bind fun t340 => ((rillbedlaw06_takes.f kj19 t339 109 t340 0).bind fun t341 => (if t341 = true then (rillbedlaw06_KeyRanges.j2 kj19 l0 l1 (wrap64 (Int.tmod a2_0 32)) (wrap64 (Int.tmod a2_1 32)) false x12_19 t322 t323 false t313 t314 t315 t316) else (rillbedlaw06_KeyRanges.j2 kj19 l0 l1 (wrap64 (Int.tmod a2_0 32)) (wrap64 (Int.tmod a2_1 32)) false x12_19 t322 t323 true t313 t314 t315 t316))))))) = some true := H
          have A116 := Aside0.mk A1160
          clear A1160
          replace H := Option.bind_eq_some_iff.mp H
          obtain ⟨t338, A1170, H⟩ := H
          replace H : (if ((t337.toList == t338.toList) != x12_19) = true then (rillbedlaw06_KeyRanges.j2 kj19 l0 l1 (wrap64 (Int.tmod a2_0 32)) (wrap64 (Int.tmod a2_1 32)) false x12_19 t322 t323 true t313 t314 t315 t316) else ((key_Meta.f kj19 l1).bind fun t339 => ((strings_Join.f l1 (⟨#[47]⟩ : ByteArray)).bind fun t340 => ((rillbedlaw06_takes.f kj19 t339 109 t340 0).bind fun t341 => (if t341 = true then (rillbedlaw06_KeyRanges.j2 kj19 l0 l1 (wrap64 (Int.tmod a2_0 32)) (wrap64 (Int.tmod a2_1 32)) false x12_19 t322 t323 false t313 t314 t315 t316) else (rillbedlaw06_KeyRanges.j2 kj19 l0 l1 (wrap64 (Int.tmod a2_0 32)) (wrap64 (Int.tmod a2_1 32)) false x12_19 t322 t323 true t313 t314 t315 t316)))))) = some true := H
          have A117 := Aside0.mk A1170
          clear A1170
          by_cases c118 : ((t337.toList == t338.toList) != x12_19) = true
          ·rw [if_pos c118] at H
           have c118b0 : ((t337.toList == t338.toList) != x12_19) = true := c118
           (try (have c118b1 : decide ((t337.toList == t338.toList) = x12_19) = false := by simpa using c118))
           (try (have c118b2 : ((t337.toList == t338.toList) == x12_19) = false := by simpa using c118))
           (try (have c118b3 : ¬ ((t337.toList == t338.toList) = x12_19) := by simpa using c118))
           clear c118
           exact absurd H (by cases kj19 <;> simp [rillbedlaw06_KeyRanges.j2])
          ·rw [if_neg c118] at H
           have c118b0 : ((t337.toList == t338.toList) != x12_19) = false := by simpa using c118
           (try (have c118b1 : decide ((t337.toList == t338.toList) = x12_19) = true := by simpa using c118))
           (try (have c118b2 : ((t337.toList == t338.toList) == x12_19) = true := by simpa using c118))
           clear c118
           replace H := Option.bind_eq_some_iff.mp H
           obtain ⟨t339, A1270, H⟩ := H
           replace H : ((strings_Join.f l1 (⟨#[47]⟩ : ByteArray)).bind fun t340 => ((rillbedlaw06_takes.f kj19 t339 109 t340 0).bind fun t341 => (if t341 = true then (rillbedlaw06_KeyRanges.j2 kj19 l0 l1 (wrap64 (Int.tmod a2_0 32)) (wrap64 (Int.tmod a2_1 32)) false x12_19 t322 t323 false t313 t314 t315 t316) else (rillbedlaw06_KeyRanges.j2 kj19 l0 l1 (wrap64 (Int.tmod a2_0 32)) (wrap64 (Int.tmod a2_1 32)) false x12_19 t322 t323 true t313 t314 t315 t316)))) = some true := H
           have A127 := Aside0.mk A1270
           clear A1270
           replace H := Option.bind_eq_some_iff.mp H
           obtain ⟨t340, A1280, H⟩ := H
           replace H : ((rillbedlaw06_takes.f kj19 t339 109 t340 0).bind fun t341 => (if t341 = true then (rillbedlaw06_KeyRanges.j2 kj19 l0 l1 (wrap64 (Int.tmod a2_0 32)) (wrap64 (Int.tmod a2_1 32)) false x12_19 t322 t323 false t313 t314 t315 t316) else (rillbedlaw06_KeyRanges.j2 kj19 l0 l1 (wrap64 (Int.tmod a2_0 32)) (wrap64 (Int.tmod a2_1 32)) false x12_19 t322 t323 true t313 t314 t315 t316))) = some true := H
           have A128 := Aside0.mk A1280
           clear A1280
           replace H := Option.bind_eq_some_iff.mp H
           obtain ⟨t341, A1290, H⟩ := H
           replace H : (if t341 = true then (rillbedlaw06_KeyRanges.j2 kj19 l0 l1 (wrap64 (Int.tmod a2_0 32)) (wrap64 (Int.tmod a2_1 32)) false x12_19 t322 t323 false t313 t314 t315 t316) else (rillbedlaw06_KeyRanges.j2 kj19 l0 l1 (wrap64 (Int.tmod a2_0 32)) (wrap64 (Int.tmod a2_1 32)) false x12_19 t322 t323 true t313 t314 t315 t316)) = some true := H
           have A129 := Aside0.mk A1290
           clear A1290
           by_cases c130 : t341 = true
           ·subst c130
            have H1 : (rillbedlaw06_KeyRanges.j2 kj19 l0 l1 (wrap64 (Int.tmod a2_0 32)) (wrap64 (Int.tmod a2_1 32)) false x12_19 t322 t323 false t313 t314 t315 t316) = some true := by rw [if_pos rfl] at H; exact H
            clear H
            have H := H1
            clear H1
            have H' := Aside0.mk H
            clear H
            try go_wp2
            have n0_ := Aside0.mk (blk_drew BK307.out)
            have n1_ := Aside0.mk (blk_drew BK317.out)
            have n2_ := Aside0.mk (blk_drew BK318.out)
            have n3_ := Aside0.mk (below_drew1 HB.out)
            clear BK307
            clear BK317
            clear BK318
            clear HB
            have BK307 := n0_
            have BK317 := n1_
            have BK318 := n2_
            have HB := n3_
            clear n0_ n1_ n2_ n3_
            refine start_ (n := 50) (S := fun w' => w'.cell? ⟨gb317, 0, none⟩ = some (.string t313) ∧ w'.cell? ⟨gb317, 1, none⟩ = some (.string t314)) (ds := []) KeyRanges.m0 (by kernel_rfl) rfl rfl ⟨(blk_cell BK317.out 0).trans rfl, (blk_cell BK317.out 1).trans rfl⟩ (fun hHeld => ?_); refine with_tabW rillbedlaw06_KeyRanges.tab7 rillbedlaw06_KeyRanges.bits7 (fun HT_ HW_ => ?_)
            generalize w38.drew = w131 at BK307 BK317 BK318 HB hHeld ⊢
            refine pure_ (i := 0) (N := some 64) (v := ?_) (a' := ?_) KeyRanges.m1 rfl rfl (any_of HT_.out (by kernel_rfl)) (fun _ _ _ h => h) (Or.inl ⟨by rfl, ?_⟩) ?_ ?_
            rotate_left
            ·intro w'
             go_simp
             with_reducible rfl
            rotate_left
            ·simp only [Act.put, List.setIfInBounds_toArray, List.set_cons_zero, List.set_cons_succ, i64_w, i32_w]
             rfl
            refine pure_ (i := 4) (N := some 68) (v := ?_) (a' := ?_) KeyRanges.m2 rfl rfl (any_of HT_.out (by kernel_rfl)) (fun _ _ _ h => h) (Or.inl ⟨by rfl, ?_⟩) ?_ ?_
            rotate_left
            ·intro w'
             go_simp
             with_reducible rfl
            rotate_left
            ·simp only [Act.put, List.setIfInBounds_toArray, List.set_cons_zero, List.set_cons_succ, i64_w, i32_w]
             rfl
            refine take_ (i := 2) (N := some 66) (v := ?_) (a' := ?_) KeyRanges.m3 rfl rfl (take_ofW HT_.out HW_.out (by kernel_rfl)) (fun _ _ _ h => h) (Or.inl ⟨by rfl, ?_⟩) hHeld ?_ ?_
            rotate_left
            ·rintro w' ⟨s0, s1⟩
             go_simp
             with_reducible rfl
            rotate_left
            ·simp only [Act.put, List.setIfInBounds_toArray, List.set_cons_zero, List.set_cons_succ, i64_w, i32_w]
             rfl
            refine one_ (i := 1) (N := some 65) KeyRanges.m4 rfl rfl (one_of HT_.out (by kernel_rfl)) (by decide) (fun K hK => ?_)
            refine goes_ Tryd.func28 (by kernel_rfl) rfl #[.slice A1 l1.length c1] (by rfl) rfl rfl (by (try simp only [List.map_toArray, List.map_cons, List.map_nil]); first | done | rfl | (simp only [List.length_drop, List.length_take]; rfl)) ?_
            with_reducible refine (key_Meta.calls kj19 _ _ l1 t324 _ ?side1 ?side2 A39.out).mono ?_
            (case side1 => repeat (first | exact (Kd.C_below HR1.out HB.out) | (with_reducible refine Kd.C_alloc ?_ _) | (with_reducible refine Kd.C_drewN ?_ _) | (with_reducible refine Kd.C_drew ?_)))
            (case side2 => exact HC1.out)
            rintro e w132 ⟨rfl, hb⟩
            refine ⟨_, rfl, ?_⟩
            have n0_ := Aside0.mk (blk_below (g := gb307) (o := .cells #[.int .u8 a2_0, .int .u8 a2_1] 65 (0, 0)) (by (with_reducible repeat (first | refine blk_drewN ?_ _ | refine blk_drew ?_ | refine blk_alloc ?_ _)); exact BK307.out) hb)
            have n1_ := Aside0.mk (blk_below (g := gb317) (o := .cells #[.string t313, .string t314] 49 (0, 0)) (by (with_reducible repeat (first | refine blk_drewN ?_ _ | refine blk_drew ?_ | refine blk_alloc ?_ _)); exact BK317.out) hb)
            have n2_ := Aside0.mk (blk_below (g := gb318) (o := .cells #[.string t315, .string t316] 49 (0, 0)) (by (with_reducible repeat (first | refine blk_drewN ?_ _ | refine blk_drew ?_ | refine blk_alloc ?_ _)); exact BK318.out) hb)
            have n3_ := Aside0.mk (below_step (by repeat (first | (with_reducible first | exact HB.out | apply below_alloc | apply pw_below_drewN | apply below_drew1 | refine below_set ?_ GE307.out | refine below_set ?_ GE317.out | refine below_set ?_ GE318.out) | exact HB.out)) hb)
            clear BK307
            clear BK317
            clear BK318
            clear HB
            have BK307 := n0_
            have BK317 := n1_
            have BK318 := n2_
            have HB := n3_
            clear n0_ n1_ n2_ n3_
            (try clear hb)
            (try clear hb2)
            (try clear hk)
            (try clear hi)
            refine hK.out _ _ ⟨(blk_cell BK317.out 0).trans rfl, (blk_cell BK317.out 1).trans rfl⟩ (fun hHeld => ?_)
            clear hK K
            refine norm_ (a' := ?_) ?_ ?_
            rotate_left
            ·show Act.put _ (some 65) _ = _
             simp only [Act.put, List.setIfInBounds_toArray, List.set_cons_zero, List.set_cons_succ, i64_w, i32_w]
             rfl
            refine one_ (i := 3) (N := some 67) KeyRanges.m5 rfl rfl (one_of HT_.out (by kernel_rfl)) (by decide) (fun K hK => ?_)
            refine goes_ Tryd.func43 (by kernel_rfl) rfl #[.string t324, .agg #[.string t313, .string t314]] (by rfl) rfl rfl (by (try simp only [List.map_toArray, List.map_cons, List.map_nil]); first | done | rfl | (simp only [List.length_drop, List.length_take]; rfl)) ?_
            with_reducible refine (rillbedlaw06_in.calls t324 t313 t314 t325 _ A40.out).mono ?_
            rintro e w133 ⟨rfl, hb⟩
            refine ⟨_, rfl, ?_⟩
            have n0_ := Aside0.mk (blk_below (g := gb307) (o := .cells #[.int .u8 a2_0, .int .u8 a2_1] 65 (0, 0)) (by (with_reducible repeat (first | refine blk_drewN ?_ _ | refine blk_drew ?_ | refine blk_alloc ?_ _)); exact BK307.out) hb)
            have n1_ := Aside0.mk (blk_below (g := gb317) (o := .cells #[.string t313, .string t314] 49 (0, 0)) (by (with_reducible repeat (first | refine blk_drewN ?_ _ | refine blk_drew ?_ | refine blk_alloc ?_ _)); exact BK317.out) hb)
            have n2_ := Aside0.mk (blk_below (g := gb318) (o := .cells #[.string t315, .string t316] 49 (0, 0)) (by (with_reducible repeat (first | refine blk_drewN ?_ _ | refine blk_drew ?_ | refine blk_alloc ?_ _)); exact BK318.out) hb)
            have n3_ := Aside0.mk (below_step (by repeat (first | (with_reducible first | exact HB.out | apply below_alloc | apply pw_below_drewN | apply below_drew1 | refine below_set ?_ GE307.out | refine below_set ?_ GE317.out | refine below_set ?_ GE318.out) | exact HB.out)) hb)
            clear BK307
            clear BK317
            clear BK318
            clear HB
            have BK307 := n0_
            have BK317 := n1_
            have BK318 := n2_
            have HB := n3_
            clear n0_ n1_ n2_ n3_
            (try clear hb)
            (try clear hb2)
            (try clear hk)
            (try clear hi)
            refine hK.out _ _ ⟨(blk_cell BK317.out 0).trans rfl, (blk_cell BK317.out 1).trans rfl⟩ (fun hHeld => ?_)
            clear hK K
            refine norm_ (a' := ?_) ?_ ?_
            rotate_left
            ·show Act.put _ (some 67) _ = _
             simp only [Act.put, List.setIfInBounds_toArray, List.set_cons_zero, List.set_cons_succ, i64_w, i32_w]
             rfl
            refine pure_ (i := 5) (N := some 69) (v := ?_) (a' := ?_) KeyRanges.m6 rfl rfl (any_of HT_.out (by kernel_rfl)) (fun _ _ _ h => h) (Or.inl ⟨by rfl, ?_⟩) ?_ ?_
            rotate_left
            ·intro w'
             go_simp
             with_reducible rfl
            rotate_left
            ·simp only [Act.put, List.setIfInBounds_toArray, List.set_cons_zero, List.set_cons_succ, i64_w, i32_w]
             rfl
            refine pure_ (i := 6) (N := some 70) (v := ?_) (a' := ?_) KeyRanges.m7 rfl rfl (any_of HT_.out (by kernel_rfl)) (fun _ _ _ h => h) (Or.inl ⟨by rfl, ?_⟩) ?_ ?_
            rotate_left
            ·intro w'
             go_simp
             with_reducible rfl
            rotate_left
            ·simp only [Act.put, List.setIfInBounds_toArray, List.set_cons_zero, List.set_cons_succ, i64_w, i32_w]
             rfl
            refine pure_ (i := 7) (N := some 71) (v := ?_) (a' := ?_) KeyRanges.m8 rfl rfl (any_of HT_.out (by kernel_rfl)) (fun _ _ _ h => h) (Or.inl ⟨by rfl, ?_⟩) ?_ ?_
            rotate_left
            ·intro w'
             go_simp
             with_reducible rfl
            rotate_left
            ·simp only [Act.put, List.setIfInBounds_toArray, List.set_cons_zero, List.set_cons_succ, i64_w, i32_w]
             rfl
            refine pure_ (i := 9) (N := some 73) (v := ?_) (a' := ?_) KeyRanges.m9 rfl rfl (any_of HT_.out (by kernel_rfl)) (fun _ _ _ h => h) (Or.inl ⟨by rfl, ?_⟩) ?_ ?_
            rotate_left
            ·intro w'
             go_simp
             with_reducible rfl
            rotate_left
            ·simp only [Act.put, List.setIfInBounds_toArray, List.set_cons_zero, List.set_cons_succ, i64_w, i32_w]
             rfl
            refine pure_ (i := 12) (N := some 76) (v := ?_) (a' := ?_) KeyRanges.m10 rfl rfl (any_of HT_.out (by kernel_rfl)) (fun _ _ _ h => h) (Or.inl ⟨by rfl, ?_⟩) ?_ ?_
            rotate_left
            ·intro w'
             go_simp
             with_reducible rfl
            rotate_left
            ·simp only [Act.put, List.setIfInBounds_toArray, List.set_cons_zero, List.set_cons_succ, i64_w, i32_w]
             rfl
            refine one_ (i := 8) (N := some 72) KeyRanges.m11 rfl rfl (one_of HT_.out (by kernel_rfl)) (by decide) (fun K hK => ?_)
            refine goes_ Tryd.func28 (by kernel_rfl) rfl #[.slice A1 l1.length c1] (by rfl) rfl rfl (by (try simp only [List.map_toArray, List.map_cons, List.map_nil]); first | done | rfl | (simp only [List.length_drop, List.length_take]; rfl)) ?_
            with_reducible refine (key_Meta.calls kj19 _ _ l1 t326 _ ?side1 ?side2 A45.out).mono ?_
            (case side1 => repeat (first | exact (Kd.C_below HR1.out HB.out) | (with_reducible refine Kd.C_alloc ?_ _) | (with_reducible refine Kd.C_drewN ?_ _) | (with_reducible refine Kd.C_drew ?_)))
            (case side2 => exact HC1.out)
            rintro e w134 ⟨rfl, hb⟩
            refine ⟨_, rfl, ?_⟩
            have n0_ := Aside0.mk (blk_below (g := gb307) (o := .cells #[.int .u8 a2_0, .int .u8 a2_1] 65 (0, 0)) (by (with_reducible repeat (first | refine blk_drewN ?_ _ | refine blk_drew ?_ | refine blk_alloc ?_ _)); exact BK307.out) hb)
            have n1_ := Aside0.mk (blk_below (g := gb317) (o := .cells #[.string t313, .string t314] 49 (0, 0)) (by (with_reducible repeat (first | refine blk_drewN ?_ _ | refine blk_drew ?_ | refine blk_alloc ?_ _)); exact BK317.out) hb)
            have n2_ := Aside0.mk (blk_below (g := gb318) (o := .cells #[.string t315, .string t316] 49 (0, 0)) (by (with_reducible repeat (first | refine blk_drewN ?_ _ | refine blk_drew ?_ | refine blk_alloc ?_ _)); exact BK318.out) hb)
            have n3_ := Aside0.mk (below_step (by repeat (first | (with_reducible first | exact HB.out | apply below_alloc | apply pw_below_drewN | apply below_drew1 | refine below_set ?_ GE307.out | refine below_set ?_ GE317.out | refine below_set ?_ GE318.out) | exact HB.out)) hb)
            clear BK307
            clear BK317
            clear BK318
            clear HB
            have BK307 := n0_
            have BK317 := n1_
            have BK318 := n2_
            have HB := n3_
            clear n0_ n1_ n2_ n3_
            (try clear hb)
            (try clear hb2)
            (try clear hk)
            (try clear hi)
            refine hK.out _ _ ⟨(blk_cell BK317.out 0).trans rfl, (blk_cell BK317.out 1).trans rfl⟩ (fun hHeld => ?_)
            clear hK K
            refine norm_ (a' := ?_) ?_ ?_
            rotate_left
            ·show Act.put _ (some 72) _ = _
             simp only [Act.put, List.setIfInBounds_toArray, List.set_cons_zero, List.set_cons_succ, i64_w, i32_w]
             rfl
            refine one_ (i := 10) (N := some 74) KeyRanges.m12 rfl rfl (one_of HT_.out (by kernel_rfl)) (by decide) (fun K hK => ?_)
            refine goes_ Tryd.func31 (by kernel_rfl) rfl #[.slice A0 l0.length c0] (by rfl) rfl rfl (by (try simp only [List.map_toArray, List.map_cons, List.map_nil]); first | done | rfl | (simp only [List.length_drop, List.length_take]; rfl)) ?_
            with_reducible refine (key_Below.calls kj19 _ _ l0 t327 t328 _ ?side1 ?side2 A46.out).mono ?_
            (case side1 => repeat (first | exact (Kd.C_below HR0.out HB.out) | (with_reducible refine Kd.C_alloc ?_ _) | (with_reducible refine Kd.C_drewN ?_ _) | (with_reducible refine Kd.C_drew ?_)))
            (case side2 => exact HC0.out)
            rintro e w135 ⟨rfl, hb⟩
            refine ⟨_, rfl, ?_⟩
            have n0_ := Aside0.mk (blk_below (g := gb307) (o := .cells #[.int .u8 a2_0, .int .u8 a2_1] 65 (0, 0)) (by (with_reducible repeat (first | refine blk_drewN ?_ _ | refine blk_drew ?_ | refine blk_alloc ?_ _)); exact BK307.out) hb)
            have n1_ := Aside0.mk (blk_below (g := gb317) (o := .cells #[.string t313, .string t314] 49 (0, 0)) (by (with_reducible repeat (first | refine blk_drewN ?_ _ | refine blk_drew ?_ | refine blk_alloc ?_ _)); exact BK317.out) hb)
            have n2_ := Aside0.mk (blk_below (g := gb318) (o := .cells #[.string t315, .string t316] 49 (0, 0)) (by (with_reducible repeat (first | refine blk_drewN ?_ _ | refine blk_drew ?_ | refine blk_alloc ?_ _)); exact BK318.out) hb)
            have n3_ := Aside0.mk (below_step (by repeat (first | (with_reducible first | exact HB.out | apply below_alloc | apply pw_below_drewN | apply below_drew1 | refine below_set ?_ GE307.out | refine below_set ?_ GE317.out | refine below_set ?_ GE318.out) | exact HB.out)) hb)
            clear BK307
            clear BK317
            clear BK318
            clear HB
            have BK307 := n0_
            have BK317 := n1_
            have BK318 := n2_
            have HB := n3_
            clear n0_ n1_ n2_ n3_
            (try clear hb)
            (try clear hb2)
            (try clear hk)
            (try clear hi)
            refine hK.out _ _ ⟨(blk_cell BK317.out 0).trans rfl, (blk_cell BK317.out 1).trans rfl⟩ (fun hHeld => ?_)
            clear hK K
            refine norm_ (a' := ?_) ?_ ?_
            rotate_left
            ·show Act.put _ (some 74) _ = _
             simp only [Act.put, List.setIfInBounds_toArray, List.set_cons_zero, List.set_cons_succ, i64_w, i32_w]
             rfl
            refine one_ (i := 11) (N := some 75) KeyRanges.m13 rfl rfl (one_of HT_.out (by kernel_rfl)) (by decide) (fun K hK => ?_)
            refine goes_ Tryd.func43 (by kernel_rfl) rfl #[.string t326, .agg #[.string t327, .string t328]] (by rfl) rfl rfl (by (try simp only [List.map_toArray, List.map_cons, List.map_nil]); first | done | rfl | (simp only [List.length_drop, List.length_take]; rfl)) ?_
            with_reducible refine (rillbedlaw06_in.calls t326 t327 t328 t329 _ A47.out).mono ?_
            rintro e w136 ⟨rfl, hb⟩
            refine ⟨_, rfl, ?_⟩
            have n0_ := Aside0.mk (blk_below (g := gb307) (o := .cells #[.int .u8 a2_0, .int .u8 a2_1] 65 (0, 0)) (by (with_reducible repeat (first | refine blk_drewN ?_ _ | refine blk_drew ?_ | refine blk_alloc ?_ _)); exact BK307.out) hb)
            have n1_ := Aside0.mk (blk_below (g := gb317) (o := .cells #[.string t313, .string t314] 49 (0, 0)) (by (with_reducible repeat (first | refine blk_drewN ?_ _ | refine blk_drew ?_ | refine blk_alloc ?_ _)); exact BK317.out) hb)
            have n2_ := Aside0.mk (blk_below (g := gb318) (o := .cells #[.string t315, .string t316] 49 (0, 0)) (by (with_reducible repeat (first | refine blk_drewN ?_ _ | refine blk_drew ?_ | refine blk_alloc ?_ _)); exact BK318.out) hb)
            have n3_ := Aside0.mk (below_step (by repeat (first | (with_reducible first | exact HB.out | apply below_alloc | apply pw_below_drewN | apply below_drew1 | refine below_set ?_ GE307.out | refine below_set ?_ GE317.out | refine below_set ?_ GE318.out) | exact HB.out)) hb)
            clear BK307
            clear BK317
            clear BK318
            clear HB
            have BK307 := n0_
            have BK317 := n1_
            have BK318 := n2_
            have HB := n3_
            clear n0_ n1_ n2_ n3_
            (try clear hb)
            (try clear hb2)
            (try clear hk)
            (try clear hi)
            refine hK.out _ _ ⟨(blk_cell BK317.out 0).trans rfl, (blk_cell BK317.out 1).trans rfl⟩ (fun hHeld => ?_)
            clear hK K
            refine norm_ (a' := ?_) ?_ ?_
            rotate_left
            ·show Act.put _ (some 75) _ = _
             simp only [Act.put, List.setIfInBounds_toArray, List.set_cons_zero, List.set_cons_succ, i64_w, i32_w]
             rfl
            refine pure_ (i := 13) (N := some 77) (v := ?_) (a' := ?_) KeyRanges.m14 rfl rfl (any_of HT_.out (by kernel_rfl)) (fun _ _ _ h => h) (Or.inl ⟨by rfl, ?_⟩) ?_ ?_
            rotate_left
            ·intro w'
             go_simp
             with_reducible rfl
            rotate_left
            ·simp only [Act.put, List.setIfInBounds_toArray, List.set_cons_zero, List.set_cons_succ, i64_w, i32_w]
             rfl
            refine pure_ (i := 14) (N := some 78) (v := undef) (a' := ?_) KeyRanges.m15 rfl rfl (any_of HT_.out (by kernel_rfl)) (fun _ _ _ h => h) (Or.inr ⟨by rfl, rfl⟩) ?_ ?_
            rotate_left
            ·simp only [Act.put, List.setIfInBounds_toArray, List.set_cons_zero, List.set_cons_succ, i64_w, i32_w]
             rfl
            refine pure_ (i := 15) (N := some 79) (v := undef) (a' := ?_) KeyRanges.m16 rfl rfl (any_of HT_.out (by kernel_rfl)) (fun _ _ _ h => h) (Or.inr ⟨by rfl, rfl⟩) ?_ ?_
            rotate_left
            ·simp only [Act.put, List.setIfInBounds_toArray, List.set_cons_zero, List.set_cons_succ, i64_w, i32_w]
             rfl
            refine pure_ (i := 16) (N := some 80) (v := ?_) (a' := ?_) KeyRanges.m17 rfl rfl (any_of HT_.out (by kernel_rfl)) (fun _ _ _ h => h) (Or.inl ⟨by rfl, ?_⟩) ?_ ?_
            rotate_left
            ·intro w'
             go_simp
             with_reducible rfl
            rotate_left
            ·simp only [Act.put, List.setIfInBounds_toArray, List.set_cons_zero, List.set_cons_succ, i64_w, i32_w]
             rfl
            refine pure_ (i := 17) (N := some 81) (v := ?_) (a' := ?_) KeyRanges.m18 rfl rfl (any_of HT_.out (by kernel_rfl)) (fun _ _ _ h => h) (Or.inl ⟨by rfl, ?_⟩) ?_ ?_
            rotate_left
            ·intro w'
             go_simp
             with_reducible rfl
            rotate_left
            ·simp only [Act.put, List.setIfInBounds_toArray, List.set_cons_zero, List.set_cons_succ, i64_w, i32_w]
             rfl
            refine pure_ (i := 18) (N := some 82) (v := ?_) (a' := ?_) KeyRanges.m19 rfl rfl (any_of HT_.out (by kernel_rfl)) (fun _ _ _ h => h) (Or.inl ⟨by rfl, ?_⟩) ?_ ?_
            rotate_left
            ·intro w'
             go_simp
             with_reducible rfl
            rotate_left
            ·simp only [Act.put, List.setIfInBounds_toArray, List.set_cons_zero, List.set_cons_succ, i64_w, i32_w]
             rfl
            refine pure_ (i := 19) (N := some 83) (v := ?_) (a' := ?_) KeyRanges.m20 rfl rfl (any_of HT_.out (by kernel_rfl)) (fun _ _ _ h => h) (Or.inl ⟨by rfl, ?_⟩) ?_ ?_
            rotate_left
            ·intro w'
             go_simp
             with_reducible rfl
            rotate_left
            ·simp only [Act.put, List.setIfInBounds_toArray, List.set_cons_zero, List.set_cons_succ, i64_w, i32_w]
             rfl
            refine pure_ (i := 20) (N := some 84) (v := ?_) (a' := ?_) KeyRanges.m21 rfl rfl (any_of HT_.out (by kernel_rfl)) (fun _ _ _ h => h) (Or.inl ⟨by rfl, ?_⟩) ?_ ?_
            rotate_left
            ·intro w'
             go_simp
             with_reducible rfl
            rotate_left
            ·simp only [Act.put, List.setIfInBounds_toArray, List.set_cons_zero, List.set_cons_succ, i64_w, i32_w]
             rfl
            refine pure_ (i := 22) (N := some 86) (v := ?_) (a' := ?_) KeyRanges.m22 rfl rfl (any_of HT_.out (by kernel_rfl)) (fun _ _ _ h => h) (Or.inl ⟨by rfl, ?_⟩) ?_ ?_
            rotate_left
            ·intro w'
             go_simp
             with_reducible rfl
            rotate_left
            ·simp only [Act.put, List.setIfInBounds_toArray, List.set_cons_zero, List.set_cons_succ, i64_w, i32_w]
             rfl
            refine pure_ (i := 25) (N := some 89) (v := ?_) (a' := ?_) KeyRanges.m23 rfl rfl (any_of HT_.out (by kernel_rfl)) (fun _ _ _ h => h) (Or.inl ⟨by rfl, ?_⟩) ?_ ?_
            rotate_left
            ·intro w'
             go_simp
             with_reducible rfl
            rotate_left
            ·simp only [Act.put, List.setIfInBounds_toArray, List.set_cons_zero, List.set_cons_succ, i64_w, i32_w]
             rfl
            refine one_ (i := 21) (N := some 85) KeyRanges.m24 rfl rfl (one_of HT_.out (by kernel_rfl)) (by decide) (fun K hK => ?_)
            refine goes_ Tryd.func28 (by kernel_rfl) rfl #[.slice A0 l0.length c0] (by rfl) rfl rfl (by (try simp only [List.map_toArray, List.map_cons, List.map_nil]); first | done | rfl | (simp only [List.length_drop, List.length_take]; rfl)) ?_
            with_reducible refine (key_Meta.calls kj19 _ _ l0 t337 _ ?side1 ?side2 A116.out).mono ?_
            (case side1 => repeat (first | exact (Kd.C_below HR0.out HB.out) | (with_reducible refine Kd.C_alloc ?_ _) | (with_reducible refine Kd.C_drewN ?_ _) | (with_reducible refine Kd.C_drew ?_)))
            (case side2 => exact HC0.out)
            rintro e w137 ⟨rfl, hb⟩
            refine ⟨_, rfl, ?_⟩
            have n0_ := Aside0.mk (blk_below (g := gb307) (o := .cells #[.int .u8 a2_0, .int .u8 a2_1] 65 (0, 0)) (by (with_reducible repeat (first | refine blk_drewN ?_ _ | refine blk_drew ?_ | refine blk_alloc ?_ _)); exact BK307.out) hb)
            have n1_ := Aside0.mk (blk_below (g := gb317) (o := .cells #[.string t313, .string t314] 49 (0, 0)) (by (with_reducible repeat (first | refine blk_drewN ?_ _ | refine blk_drew ?_ | refine blk_alloc ?_ _)); exact BK317.out) hb)
            have n2_ := Aside0.mk (blk_below (g := gb318) (o := .cells #[.string t315, .string t316] 49 (0, 0)) (by (with_reducible repeat (first | refine blk_drewN ?_ _ | refine blk_drew ?_ | refine blk_alloc ?_ _)); exact BK318.out) hb)
            have n3_ := Aside0.mk (below_step (by repeat (first | (with_reducible first | exact HB.out | apply below_alloc | apply pw_below_drewN | apply below_drew1 | refine below_set ?_ GE307.out | refine below_set ?_ GE317.out | refine below_set ?_ GE318.out) | exact HB.out)) hb)
            clear BK307
            clear BK317
            clear BK318
            clear HB
            have BK307 := n0_
            have BK317 := n1_
            have BK318 := n2_
            have HB := n3_
            clear n0_ n1_ n2_ n3_
            (try clear hb)
            (try clear hb2)
            (try clear hk)
            (try clear hi)
            refine hK.out _ _ ⟨(blk_cell BK317.out 0).trans rfl, (blk_cell BK317.out 1).trans rfl⟩ (fun hHeld => ?_)
            clear hK K
            refine norm_ (a' := ?_) ?_ ?_
            rotate_left
            ·show Act.put _ (some 85) _ = _
             simp only [Act.put, List.setIfInBounds_toArray, List.set_cons_zero, List.set_cons_succ, i64_w, i32_w]
             rfl
            refine one_ (i := 23) (N := some 87) KeyRanges.m25 rfl rfl (one_of HT_.out (by kernel_rfl)) (by decide) (fun K hK => ?_)
            refine goes_ Tryd.func28 (by kernel_rfl) rfl #[.slice A1 l1.length c1] (by rfl) rfl rfl (by (try simp only [List.map_toArray, List.map_cons, List.map_nil]); first | done | rfl | (simp only [List.length_drop, List.length_take]; rfl)) ?_
            with_reducible refine (key_Meta.calls kj19 _ _ l1 t338 _ ?side1 ?side2 A117.out).mono ?_
            (case side1 => repeat (first | exact (Kd.C_below HR1.out HB.out) | (with_reducible refine Kd.C_alloc ?_ _) | (with_reducible refine Kd.C_drewN ?_ _) | (with_reducible refine Kd.C_drew ?_)))
            (case side2 => exact HC1.out)
            rintro e w138 ⟨rfl, hb⟩
            refine ⟨_, rfl, ?_⟩
            have n0_ := Aside0.mk (blk_below (g := gb307) (o := .cells #[.int .u8 a2_0, .int .u8 a2_1] 65 (0, 0)) (by (with_reducible repeat (first | refine blk_drewN ?_ _ | refine blk_drew ?_ | refine blk_alloc ?_ _)); exact BK307.out) hb)
            have n1_ := Aside0.mk (blk_below (g := gb317) (o := .cells #[.string t313, .string t314] 49 (0, 0)) (by (with_reducible repeat (first | refine blk_drewN ?_ _ | refine blk_drew ?_ | refine blk_alloc ?_ _)); exact BK317.out) hb)
            have n2_ := Aside0.mk (blk_below (g := gb318) (o := .cells #[.string t315, .string t316] 49 (0, 0)) (by (with_reducible repeat (first | refine blk_drewN ?_ _ | refine blk_drew ?_ | refine blk_alloc ?_ _)); exact BK318.out) hb)
            have n3_ := Aside0.mk (below_step (by repeat (first | (with_reducible first | exact HB.out | apply below_alloc | apply pw_below_drewN | apply below_drew1 | refine below_set ?_ GE307.out | refine below_set ?_ GE317.out | refine below_set ?_ GE318.out) | exact HB.out)) hb)
            clear BK307
            clear BK317
            clear BK318
            clear HB
            have BK307 := n0_
            have BK317 := n1_
            have BK318 := n2_
            have HB := n3_
            clear n0_ n1_ n2_ n3_
            (try clear hb)
            (try clear hb2)
            (try clear hk)
            (try clear hi)
            refine hK.out _ _ ⟨(blk_cell BK317.out 0).trans rfl, (blk_cell BK317.out 1).trans rfl⟩ (fun hHeld => ?_)
            clear hK K
            refine norm_ (a' := ?_) ?_ ?_
            rotate_left
            ·show Act.put _ (some 87) _ = _
             simp only [Act.put, List.setIfInBounds_toArray, List.set_cons_zero, List.set_cons_succ, i64_w, i32_w]
             rfl
            refine pure_ (i := 24) (N := some 88) (v := ?_) (a' := ?_) KeyRanges.m26 rfl rfl (any_of HT_.out (by kernel_rfl)) (fun _ _ _ h => h) (Or.inl ⟨by rfl, ?_⟩) ?_ ?_
            rotate_left
            ·intro w'
             go_simp
             with_reducible rfl
            rotate_left
            ·simp only [Act.put, List.setIfInBounds_toArray, List.set_cons_zero, List.set_cons_succ, i64_w, i32_w]
             rfl
            refine pure_ (i := 26) (N := some 90) (v := ?_) (a' := ?_) KeyRanges.m27 rfl rfl (any_of HT_.out (by kernel_rfl)) (fun _ _ _ h => h) (Or.inl ⟨by rfl, ?_⟩) ?_ ?_
            rotate_left
            ·intro w'
             go_simp
             with_reducible rfl
            rotate_left
            ·simp only [Act.put, List.setIfInBounds_toArray, List.set_cons_zero, List.set_cons_succ, i64_w, i32_w]
             rfl
            refine pure_ (i := 27) (N := some 91) (v := ?_) (a' := ?_) KeyRanges.m28 rfl rfl (any_of HT_.out (by kernel_rfl)) (fun _ _ _ h => h) (Or.inl ⟨by rfl, ?_⟩) ?_ ?_
            rotate_left
            ·intro w'
             go_simp
             with_reducible rfl
            rotate_left
            ·simp only [Act.put, List.setIfInBounds_toArray, List.set_cons_zero, List.set_cons_succ, i64_w, i32_w]
             rfl
            refine pure_ (i := 28) (N := some 92) (v := ?_) (a' := ?_) KeyRanges.m29 rfl rfl (any_of HT_.out (by kernel_rfl)) (fun _ _ _ h => h) (Or.inl ⟨by rfl, ?_⟩) ?_ ?_
            rotate_left
            ·intro w'
             go_simp
             with_reducible rfl
            rotate_left
            ·simp only [Act.put, List.setIfInBounds_toArray, List.set_cons_zero, List.set_cons_succ, i64_w, i32_w]
             rfl
            refine pure_ (i := 29) (N := some 93) (v := ?_) (a' := ?_) KeyRanges.m30 rfl rfl (any_of HT_.out (by kernel_rfl)) (fun _ _ _ h => h) (Or.inl ⟨by rfl, ?_⟩) ?_ ?_
            rotate_left
            ·intro w'
             go_simp
             with_reducible rfl
            rotate_left
            ·simp only [Act.put, List.setIfInBounds_toArray, List.set_cons_zero, List.set_cons_succ, i64_w, i32_w]
             rfl
            refine pure_ (i := 31) (N := some 95) (v := ?_) (a' := ?_) KeyRanges.m31 rfl rfl (any_of HT_.out (by kernel_rfl)) (fun _ _ _ h => h) (Or.inl ⟨by rfl, ?_⟩) ?_ ?_
            rotate_left
            ·intro w'
             go_simp
             with_reducible rfl
            rotate_left
            ·simp only [Act.put, List.setIfInBounds_toArray, List.set_cons_zero, List.set_cons_succ, i64_w, i32_w]
             rfl
            refine one_ (i := 30) (N := some 94) KeyRanges.m32 rfl rfl (one_of HT_.out (by kernel_rfl)) (by decide) (fun K hK => ?_)
            refine goes_ Tryd.func28 (by kernel_rfl) rfl #[.slice A1 l1.length c1] (by rfl) rfl rfl (by (try simp only [List.map_toArray, List.map_cons, List.map_nil]); first | done | rfl | (simp only [List.length_drop, List.length_take]; rfl)) ?_
            with_reducible refine (key_Meta.calls kj19 _ _ l1 t339 _ ?side1 ?side2 A127.out).mono ?_
            (case side1 => repeat (first | exact (Kd.C_below HR1.out HB.out) | (with_reducible refine Kd.C_alloc ?_ _) | (with_reducible refine Kd.C_drewN ?_ _) | (with_reducible refine Kd.C_drew ?_)))
            (case side2 => exact HC1.out)
            rintro e w139 ⟨rfl, hb⟩
            refine ⟨_, rfl, ?_⟩
            have n0_ := Aside0.mk (blk_below (g := gb307) (o := .cells #[.int .u8 a2_0, .int .u8 a2_1] 65 (0, 0)) (by (with_reducible repeat (first | refine blk_drewN ?_ _ | refine blk_drew ?_ | refine blk_alloc ?_ _)); exact BK307.out) hb)
            have n1_ := Aside0.mk (blk_below (g := gb317) (o := .cells #[.string t313, .string t314] 49 (0, 0)) (by (with_reducible repeat (first | refine blk_drewN ?_ _ | refine blk_drew ?_ | refine blk_alloc ?_ _)); exact BK317.out) hb)
            have n2_ := Aside0.mk (blk_below (g := gb318) (o := .cells #[.string t315, .string t316] 49 (0, 0)) (by (with_reducible repeat (first | refine blk_drewN ?_ _ | refine blk_drew ?_ | refine blk_alloc ?_ _)); exact BK318.out) hb)
            have n3_ := Aside0.mk (below_step (by repeat (first | (with_reducible first | exact HB.out | apply below_alloc | apply pw_below_drewN | apply below_drew1 | refine below_set ?_ GE307.out | refine below_set ?_ GE317.out | refine below_set ?_ GE318.out) | exact HB.out)) hb)
            clear BK307
            clear BK317
            clear BK318
            clear HB
            have BK307 := n0_
            have BK317 := n1_
            have BK318 := n2_
            have HB := n3_
            clear n0_ n1_ n2_ n3_
            (try clear hb)
            (try clear hb2)
            (try clear hk)
            (try clear hi)
            refine hK.out _ _ ⟨(blk_cell BK317.out 0).trans rfl, (blk_cell BK317.out 1).trans rfl⟩ (fun hHeld => ?_)
            clear hK K
            refine norm_ (a' := ?_) ?_ ?_
            rotate_left
            ·show Act.put _ (some 94) _ = _
             simp only [Act.put, List.setIfInBounds_toArray, List.set_cons_zero, List.set_cons_succ, i64_w, i32_w]
             rfl
            refine one_ (i := 32) (N := some 96) KeyRanges.m33 rfl rfl (one_of HT_.out (by kernel_rfl)) (by decide) (fun K hK => ?_)
            refine goes_ Tryd.func16 (by kernel_rfl) rfl #[.slice A1 l1.length c1, .string (⟨#[47]⟩ : ByteArray)] (by rfl) rfl rfl (by (try simp only [List.map_toArray, List.map_cons, List.map_nil]); first | done | rfl | (simp only [List.length_drop, List.length_take]; rfl)) ?_
            with_reducible refine (strings_Join.calls _ _ l1 (⟨#[47]⟩ : ByteArray) t340 _ ?side1 ?side2 A128.out).mono ?_
            (case side1 => repeat (first | exact (Kd.C_below HR1.out HB.out) | (with_reducible refine Kd.C_alloc ?_ _) | (with_reducible refine Kd.C_drewN ?_ _) | (with_reducible refine Kd.C_drew ?_)))
            (case side2 => exact HC1.out)
            rintro e w140 ⟨rfl, hb⟩
            refine ⟨_, rfl, ?_⟩
            have n0_ := Aside0.mk (blk_below (g := gb307) (o := .cells #[.int .u8 a2_0, .int .u8 a2_1] 65 (0, 0)) (by (with_reducible repeat (first | refine blk_drewN ?_ _ | refine blk_drew ?_ | refine blk_alloc ?_ _)); exact BK307.out) hb)
            have n1_ := Aside0.mk (blk_below (g := gb317) (o := .cells #[.string t313, .string t314] 49 (0, 0)) (by (with_reducible repeat (first | refine blk_drewN ?_ _ | refine blk_drew ?_ | refine blk_alloc ?_ _)); exact BK317.out) hb)
            have n2_ := Aside0.mk (blk_below (g := gb318) (o := .cells #[.string t315, .string t316] 49 (0, 0)) (by (with_reducible repeat (first | refine blk_drewN ?_ _ | refine blk_drew ?_ | refine blk_alloc ?_ _)); exact BK318.out) hb)
            have n3_ := Aside0.mk (below_step (by repeat (first | (with_reducible first | exact HB.out | apply below_alloc | apply pw_below_drewN | apply below_drew1 | refine below_set ?_ GE307.out | refine below_set ?_ GE317.out | refine below_set ?_ GE318.out) | exact HB.out)) hb)
            clear BK307
            clear BK317
            clear BK318
            clear HB
            have BK307 := n0_
            have BK317 := n1_
            have BK318 := n2_
            have HB := n3_
            clear n0_ n1_ n2_ n3_
            (try clear hb)
            (try clear hb2)
            (try clear hk)
            (try clear hi)
            refine hK.out _ _ ⟨(blk_cell BK317.out 0).trans rfl, (blk_cell BK317.out 1).trans rfl⟩ (fun hHeld => ?_)
            clear hK K
            refine norm_ (a' := ?_) ?_ ?_
            rotate_left
            ·show Act.put _ (some 96) _ = _
             simp only [Act.put, List.setIfInBounds_toArray, List.set_cons_zero, List.set_cons_succ, i64_w, i32_w]
             rfl
            refine one_ (i := 33) (N := some 97) KeyRanges.m34 rfl rfl (one_of HT_.out (by kernel_rfl)) (by decide) (fun K hK => ?_)
            refine goes_ Tryd.func36 (by kernel_rfl) rfl #[.string t339, .int .u8 109, .string t340, .int .i64 0] (by rfl) rfl rfl (by (try simp only [List.map_toArray, List.map_cons, List.map_nil]); first | done | rfl | (simp only [List.length_drop, List.length_take]; rfl)) ?_
            with_reducible refine (rillbedlaw06_takes.calls kj19 t339 109 t340 0 true _ A129.out).mono ?_
            rintro e w141 ⟨rfl, hb⟩
            refine ⟨_, rfl, ?_⟩
            have n0_ := Aside0.mk (blk_below (g := gb307) (o := .cells #[.int .u8 a2_0, .int .u8 a2_1] 65 (0, 0)) (by (with_reducible repeat (first | refine blk_drewN ?_ _ | refine blk_drew ?_ | refine blk_alloc ?_ _)); exact BK307.out) hb)
            have n1_ := Aside0.mk (blk_below (g := gb317) (o := .cells #[.string t313, .string t314] 49 (0, 0)) (by (with_reducible repeat (first | refine blk_drewN ?_ _ | refine blk_drew ?_ | refine blk_alloc ?_ _)); exact BK317.out) hb)
            have n2_ := Aside0.mk (blk_below (g := gb318) (o := .cells #[.string t315, .string t316] 49 (0, 0)) (by (with_reducible repeat (first | refine blk_drewN ?_ _ | refine blk_drew ?_ | refine blk_alloc ?_ _)); exact BK318.out) hb)
            have n3_ := Aside0.mk (below_step (by repeat (first | (with_reducible first | exact HB.out | apply below_alloc | apply pw_below_drewN | apply below_drew1 | refine below_set ?_ GE307.out | refine below_set ?_ GE317.out | refine below_set ?_ GE318.out) | exact HB.out)) hb)
            clear BK307
            clear BK317
            clear BK318
            clear HB
            have BK307 := n0_
            have BK317 := n1_
            have BK318 := n2_
            have HB := n3_
            clear n0_ n1_ n2_ n3_
            (try clear hb)
            (try clear hb2)
            (try clear hk)
            (try clear hi)
            refine hK.out _ _ ⟨(blk_cell BK317.out 0).trans rfl, (blk_cell BK317.out 1).trans rfl⟩ (fun hHeld => ?_)
            clear hK K
            refine norm_ (a' := ?_) ?_ ?_
            rotate_left
            ·show Act.put _ (some 97) _ = _
             simp only [Act.put, List.setIfInBounds_toArray, List.set_cons_zero, List.set_cons_succ, i64_w, i32_w]
             rfl
            refine pure_ (i := 34) (N := some 98) (v := ?_) (a' := ?_) KeyRanges.m35 rfl rfl (any_of HT_.out (by kernel_rfl)) (fun _ _ _ h => h) (Or.inl ⟨by rfl, ?_⟩) ?_ ?_
            rotate_left
            ·intro w'
             go_simp
             with_reducible rfl
            rotate_left
            ·simp only [Act.put, List.setIfInBounds_toArray, List.set_cons_zero, List.set_cons_succ, i64_w, i32_w]
             rfl
            refine pure_ (i := 35) (N := some 99) (v := ?_) (a' := ?_) KeyRanges.m36 rfl rfl (any_of HT_.out (by kernel_rfl)) (fun _ _ _ h => h) (Or.inl ⟨by rfl, ?_⟩) ?_ ?_
            rotate_left
            ·intro w'
             go_simp
             with_reducible rfl
            rotate_left
            ·simp only [Act.put, List.setIfInBounds_toArray, List.set_cons_zero, List.set_cons_succ, i64_w, i32_w]
             rfl
            refine pure_ (i := 36) (N := some 100) (v := ?_) (a' := ?_) KeyRanges.m37 rfl rfl (any_of HT_.out (by kernel_rfl)) (fun _ _ _ h => h) (Or.inl ⟨by rfl, ?_⟩) ?_ ?_
            rotate_left
            ·intro w'
             go_simp
             with_reducible rfl
            rotate_left
            ·simp only [Act.put, List.setIfInBounds_toArray, List.set_cons_zero, List.set_cons_succ, i64_w, i32_w]
             rfl
            refine pure_ (i := 37) (N := some 101) (v := ?_) (a' := ?_) KeyRanges.m38 rfl rfl (any_of HT_.out (by kernel_rfl)) (fun _ _ _ h => h) (Or.inl ⟨by rfl, ?_⟩) ?_ ?_
            rotate_left
            ·intro w'
             go_simp
             with_reducible rfl
            rotate_left
            ·simp only [Act.put, List.setIfInBounds_toArray, List.set_cons_zero, List.set_cons_succ, i64_w, i32_w]
             rfl
            refine pure_ (i := 38) (N := some 102) (v := ?_) (a' := ?_) KeyRanges.m39 rfl rfl (any_of HT_.out (by kernel_rfl)) (fun _ _ _ h => h) (Or.inl ⟨by rfl, ?_⟩) ?_ ?_
            rotate_left
            ·intro w'
             go_simp
             with_reducible rfl
            rotate_left
            ·simp only [Act.put, List.setIfInBounds_toArray, List.set_cons_zero, List.set_cons_succ, i64_w, i32_w]
             rfl
            refine pure_ (i := 39) (N := some 103) (v := undef) (a' := ?_) KeyRanges.m40 rfl rfl (any_of HT_.out (by kernel_rfl)) (fun _ _ _ h => h) (Or.inr ⟨by rfl, rfl⟩) ?_ ?_
            rotate_left
            ·simp only [Act.put, List.setIfInBounds_toArray, List.set_cons_zero, List.set_cons_succ, i64_w, i32_w]
             rfl
            refine pure_ (i := 40) (N := some 104) (v := undef) (a' := ?_) KeyRanges.m41 rfl rfl (any_of HT_.out (by kernel_rfl)) (fun _ _ _ h => h) (Or.inr ⟨by rfl, rfl⟩) ?_ ?_
            rotate_left
            ·simp only [Act.put, List.setIfInBounds_toArray, List.set_cons_zero, List.set_cons_succ, i64_w, i32_w]
             rfl
            refine pure_ (i := 41) (N := some 105) (v := ?_) (a' := ?_) KeyRanges.m42 rfl rfl (any_of HT_.out (by kernel_rfl)) (fun _ _ _ h => h) (Or.inl ⟨by rfl, ?_⟩) ?_ ?_
            rotate_left
            ·intro w'
             go_simp
             with_reducible rfl
            rotate_left
            ·simp only [Act.put, List.setIfInBounds_toArray, List.set_cons_zero, List.set_cons_succ, i64_w, i32_w]
             rfl
            refine pure_ (i := 42) (N := some 106) (v := ?_) (a' := ?_) KeyRanges.m43 rfl rfl (any_of HT_.out (by kernel_rfl)) (fun _ _ _ h => h) (Or.inl ⟨by rfl, ?_⟩) ?_ ?_
            rotate_left
            ·intro w'
             go_simp
             with_reducible rfl
            rotate_left
            ·simp only [Act.put, List.setIfInBounds_toArray, List.set_cons_zero, List.set_cons_succ, i64_w, i32_w]
             rfl
            refine pure_ (i := 43) (N := some 107) (v := undef) (a' := ?_) KeyRanges.m44 rfl rfl (any_of HT_.out (by kernel_rfl)) (fun _ _ _ h => h) (Or.inr ⟨by rfl, rfl⟩) ?_ ?_
            rotate_left
            ·simp only [Act.put, List.setIfInBounds_toArray, List.set_cons_zero, List.set_cons_succ, i64_w, i32_w]
             rfl
            refine pure_ (i := 44) (N := some 108) (v := undef) (a' := ?_) KeyRanges.m45 rfl rfl (any_of HT_.out (by kernel_rfl)) (fun _ _ _ h => h) (Or.inr ⟨by rfl, rfl⟩) ?_ ?_
            rotate_left
            ·simp only [Act.put, List.setIfInBounds_toArray, List.set_cons_zero, List.set_cons_succ, i64_w, i32_w]
             rfl
            refine pure_ (i := 45) (N := some 109) (v := undef) (a' := ?_) KeyRanges.m46 rfl rfl (any_of HT_.out (by kernel_rfl)) (fun _ _ _ h => h) (Or.inr ⟨by rfl, rfl⟩) ?_ ?_
            rotate_left
            ·simp only [Act.put, List.setIfInBounds_toArray, List.set_cons_zero, List.set_cons_succ, i64_w, i32_w]
             rfl
            refine pure_ (i := 46) (N := some 110) (v := undef) (a' := ?_) KeyRanges.m47 rfl rfl (any_of HT_.out (by kernel_rfl)) (fun _ _ _ h => h) (Or.inr ⟨by rfl, rfl⟩) ?_ ?_
            rotate_left
            ·simp only [Act.put, List.setIfInBounds_toArray, List.set_cons_zero, List.set_cons_succ, i64_w, i32_w]
             rfl
            refine pure_ (i := 47) (N := some 111) (v := undef) (a' := ?_) KeyRanges.m48 rfl rfl (any_of HT_.out (by kernel_rfl)) (fun _ _ _ h => h) (Or.inr ⟨by rfl, rfl⟩) ?_ ?_
            rotate_left
            ·simp only [Act.put, List.setIfInBounds_toArray, List.set_cons_zero, List.set_cons_succ, i64_w, i32_w]
             rfl
            refine pure_ (i := 48) (N := some 112) (v := ?_) (a' := ?_) KeyRanges.m49 rfl rfl (any_of HT_.out (by kernel_rfl)) (fun _ _ _ h => h) (Or.inl ⟨by rfl, ?_⟩) ?_ ?_
            rotate_left
            ·intro w'
             go_simp
             with_reducible rfl
            rotate_left
            ·simp only [Act.put, List.setIfInBounds_toArray, List.set_cons_zero, List.set_cons_succ, i64_w, i32_w]
             rfl
            refine pure_ (i := 49) (N := some 113) (v := ?_) (a' := ?_) KeyRanges.m50 rfl rfl (any_of HT_.out (by kernel_rfl)) (fun _ _ _ h => h) (Or.inl ⟨by rfl, ?_⟩) ?_ ?_
            rotate_left
            ·intro w'
             go_simp
             with_reducible rfl
            rotate_left
            ·simp only [Act.put, List.setIfInBounds_toArray, List.set_cons_zero, List.set_cons_succ, i64_w, i32_w]
             rfl
            refine done_ (done_of HT_.out (by kernel_rfl)) ?_
            try go_wp2
            go_meet
            case rel => exact ⟨_, (false), (by first | rfl | (simp; done) | (simp [*]; done)), H', ⟨by have := HJ3.out; have := HJ19.out; first | omega | exact Nat.le_refl _⟩, ⟨by (with_reducible repeat (first | refine blk_drewN ?_ _ | refine blk_drew ?_ | refine blk_alloc ?_ _)); exact BK307.out⟩, ⟨by (with_reducible repeat (first | refine blk_drewN ?_ _ | refine blk_drew ?_ | refine blk_alloc ?_ _)); exact BK317.out⟩, ⟨by (with_reducible repeat (first | refine blk_drewN ?_ _ | refine blk_drew ?_ | refine blk_alloc ?_ _)); exact BK318.out⟩, ⟨by repeat (first | (with_reducible first | exact HB.out | apply below_alloc | apply pw_below_drewN | apply below_drew1 | refine below_set ?_ GE307.out | refine below_set ?_ GE317.out | refine below_set ?_ GE318.out) | exact HB.out)⟩⟩
           ·replace c130 := Bool.eq_false_iff.mpr c130
            subst c130
            have H1 : (rillbedlaw06_KeyRanges.j2 kj19 l0 l1 (wrap64 (Int.tmod a2_0 32)) (wrap64 (Int.tmod a2_1 32)) false x12_19 t322 t323 true t313 t314 t315 t316) = some true := by rw [if_neg (show ¬ (false = true) by decide)] at H; exact H
            clear H
            have H := H1
            clear H1
            exact absurd H (by cases kj19 <;> simp [rillbedlaw06_KeyRanges.j2])
      case rest =>
       clear HC36
       try clear c1
       try clear c16
       try clear c130
       obtain ⟨kq, x113_35, rfl, HA, HJ35, BK307, BK317, BK318, HB⟩ := hcut
       cases kq with
       | zero => exact absurd HA.out (by simp [rillbedlaw06_KeyRanges.j2])
       | succ kj35 =>
        have H := HA.out
        clear HA
        simp only [rillbedlaw06_KeyRanges.j2] at H
        by_cases c153 : x113_35 = true
        ·subst c153
         have H1 : (some false) = some true := by rw [if_pos rfl] at H; exact H
         clear H
         have H := H1
         clear H1
         exact absurd (Option.some.inj H) (by decide)
        ·replace c153 := Bool.eq_false_iff.mpr c153
         subst c153
         have H1 : (if (l1.length : Int) = 0 then (if t323.toList = ([] : List UInt8) then ((rillbedlaw06_works.f kj35).bind fun t342 => (some t342)) else (some false)) else ((rillbedlaw06_in.f t323 t315 t316).bind fun t343 => (if (t343 != x11_19) = true then (some false) else ((rillbedlaw06_in.f t323 t313 t314).bind fun t344 => (if t344 = true then (some false) else ((key_Meta.f kj35 l1).bind fun t345 => ((rillbedlaw06_in.f t345 t315 t316).bind fun t346 => (if t346 = true then (some false) else ((strings_Join.f l1 (⟨#[47]⟩ : ByteArray)).bind fun t347 => ((rillbedlaw06_takes.f kj35 t323 100 t347 (wrap64 (Int.tmod a2_1 32))).bind fun t348 => (if t348 = true then ((key_Blocks.f kj35 l0).bind fun bt349 => ((rillbedlaw06_in.f t323 bt349.1 bt349.2).bind fun t351 => (if (t351 != x12_19) = true then (some false) else (if (l0.length : Int) = 0 then ((rillbedlaw06_works.f kj35).bind fun t352 => (some t352)) else (if x12_19 = true then (if ((Op.bytesLess t322.toList t323.toList) == (decide ((wrap64 (Int.tmod a2_0 32)) < (wrap64 (Int.tmod a2_1 32))))) = true then ((rillbedlaw06_works.f kj35).bind fun t353 => (some t353)) else (some false)) else (if t322.toList = t323.toList then (some false) else ((rillbedlaw06_works.f kj35).bind fun t354 => (some t354)))))))) else (some false)))))))))))) = some true := by rw [if_neg (show ¬ (false = true) by decide)] at H; exact H
         clear H
         have H := H1
         clear H1
         by_cases c154 : (l1.length : Int) = 0
         ·rw [if_pos c154] at H
          have c154b0 : ((l1.length : Int) == 0) = true := beq_iff_eq.mpr c154
          have c154b1 : ((l1.length : Int) != 0) = false := bne_eq_false_iff_eq.mpr c154
          clear c154
          by_cases c155 : t323.toList = ([] : List UInt8)
          ·rw [if_pos c155] at H
           have c155b0 : (t323.toList == ([] : List UInt8)) = true := beq_iff_eq.mpr c155
           have c155b1 : (t323.toList != ([] : List UInt8)) = false := bne_eq_false_iff_eq.mpr c155
           clear c155
           replace H := Option.bind_eq_some_iff.mp H
           obtain ⟨t342, A1560, H⟩ := H
           replace H : (some t342) = some true := H
           have A156 := Aside0.mk A1560
           clear A1560
           obtain rfl := Option.some.inj H
           go_wp2_with (first | (go_at_call 27; (with_reducible refine (rillbedlaw06_works.calls kj35  true _ A156.out).mono ?_); rintro e w157 ⟨rfl, hb⟩; have n0_ := Aside0.mk (blk_below (g := gb307) (o := .cells #[.int .u8 a2_0, .int .u8 a2_1] 65 (0, 0)) (by (with_reducible repeat (first | refine blk_drewN ?_ _ | refine blk_drew ?_ | refine blk_alloc ?_ _)); exact BK307.out) hb); have n1_ := Aside0.mk (blk_below (g := gb317) (o := .cells #[.string t313, .string t314] 49 (0, 0)) (by (with_reducible repeat (first | refine blk_drewN ?_ _ | refine blk_drew ?_ | refine blk_alloc ?_ _)); exact BK317.out) hb); have n2_ := Aside0.mk (blk_below (g := gb318) (o := .cells #[.string t315, .string t316] 49 (0, 0)) (by (with_reducible repeat (first | refine blk_drewN ?_ _ | refine blk_drew ?_ | refine blk_alloc ?_ _)); exact BK318.out) hb); have n3_ := Aside0.mk (below_step (by repeat (first | (with_reducible first | exact HB.out | apply below_alloc | apply pw_below_drewN | apply below_drew1 | refine below_set ?_ GE307.out | refine below_set ?_ GE317.out | refine below_set ?_ GE318.out) | exact HB.out)) hb); clear BK307; clear BK317; clear BK318; clear HB; have BK307 := n0_; have BK317 := n1_; have BK318 := n2_; have HB := n3_; clear n0_ n1_ n2_ n3_; (try clear hb); (try clear hb2); (try clear hk); (try clear hi)))
           go_ret
           exact ⟨by first | rfl | (simp [errW_none, errW_some] <;> rfl) | (simp [*, errW_none, errW_some] <;> rfl), by repeat (first | (with_reducible first | exact HB.out | apply below_alloc | apply pw_below_drewN | apply below_drew1 | refine below_set ?_ GE307.out | refine below_set ?_ GE317.out | refine below_set ?_ GE318.out) | exact HB.out)⟩
          ·rw [if_neg c155] at H
           have c155b0 : (t323.toList == ([] : List UInt8)) = false := beq_eq_false_iff_ne.mpr c155
           have c155b1 : (t323.toList != ([] : List UInt8)) = true := bne_iff_ne.mpr c155
           exact absurd (Option.some.inj H) (by decide)
         ·rw [if_neg c154] at H
          have c154b0 : ((l1.length : Int) == 0) = false := beq_eq_false_iff_ne.mpr c154
          have c154b1 : ((l1.length : Int) != 0) = true := bne_iff_ne.mpr c154
          have c154b2 : ¬ (l1 = []) := fun h_ => c154 (by rw [h_]; rfl)
          replace H := Option.bind_eq_some_iff.mp H
          obtain ⟨t343, A1580, H⟩ := H
          replace H : (if (t343 != x11_19) = true then (some false) else ((rillbedlaw06_in.f t323 t313 t314).bind fun t344 => (if t344 = true then (some false) else ((key_Meta.f kj35 l1).bind fun t345 => ((rillbedlaw06_in.f t345 t315 t316).bind fun t346 => (if t346 = true then (some false) else ((strings_Join.f l1 (⟨#[47]⟩ : ByteArray)).bind fun t347 => ((rillbedlaw06_takes.f kj35 t323 100 t347 (wrap64 (Int.tmod a2_1 32))).bind fun t348 => (if t348 = true then ((key_Blocks.f kj35 l0).bind fun bt349 => ((rillbedlaw06_in.f t323 bt349.1 bt349.2).bind fun t351 => (if (t351 != x12_19) = true then (some false) else (if (l0.length : Int) = 0 then ((rillbedlaw06_works.f kj35).bind fun t352 => (some t352)) else (if x12_19 = true then (if ((Op.bytesLess t322.toList t323.toList) == (decide ((wrap64 (Int.tmod a2_0 32)) < (wrap64 (Int.tmod a2_1 32))))) = true then ((rillbedlaw06_works.f kj35).bind fun t353 => (some t353)) else (some false)) else (if t322.toList = t323.toList then (some false) else ((rillbedlaw06_works.f kj35).bind fun t354 => (some t354)))))))) else (some false)))))))))) = some true := H
          have A158 := Aside0.mk A1580
          clear A1580
          by_cases c159 : (t343 != x11_19) = true
          ·rw [if_pos c159] at H
           have c159b0 : (t343 != x11_19) = true := c159
           (try (have c159b1 : decide (t343 = x11_19) = false := by simpa using c159))
           (try (have c159b2 : (t343 == x11_19) = false := by simpa using c159))
           (try (have c159b3 : ¬ (t343 = x11_19) := by simpa using c159))
           clear c159
           exact absurd (Option.some.inj H) (by decide)
          ·rw [if_neg c159] at H
           have c159b0 : (t343 != x11_19) = false := by simpa using c159
           (try (have c159b1 : decide (t343 = x11_19) = true := by simpa using c159))
           (try (have c159b2 : (t343 == x11_19) = true := by simpa using c159))
           clear c159
           replace H := Option.bind_eq_some_iff.mp H
           obtain ⟨t344, A1620, H⟩ := H
           replace H : (if t344 = true then (some false) else ((key_Meta.f kj35 l1).bind fun t345 => ((rillbedlaw06_in.f t345 t315 t316).bind fun t346 => (if t346 = true then (some false) else ((strings_Join.f l1 (⟨#[47]⟩ : ByteArray)).bind fun t347 => ((rillbedlaw06_takes.f kj35 t323 100 t347 (wrap64 (Int.tmod a2_1 32))).bind fun t348 => (if t348 = true then ((key_Blocks.f kj35 l0).bind fun bt349 => ((rillbedlaw06_in.f t323 bt349.1 bt349.2).bind fun t351 => (if (t351 != x12_19) = true then (some false) else (if (l0.length : Int) = 0 then ((rillbedlaw06_works.f kj35).bind fun t352 => (some t352)) else (if x12_19 = true then (if ((Op.bytesLess t322.toList t323.toList) == (decide ((wrap64 (Int.tmod a2_0 32)) < (wrap64 (Int.tmod a2_1 32))))) = true then ((rillbedlaw06_works.f kj35).bind fun t353 => (some t353)) else (some false)) else (if t322.toList = t323.toList then (some false) else ((rillbedlaw06_works.f kj35).bind fun t354 => (some t354)))))))) else (some false)))))))) = some true := H
           have A162 := Aside0.mk A1620
           clear A1620
           by_cases c163 : t344 = true
           ·subst c163
            have H1 : (some false) = some true := by rw [if_pos rfl] at H; exact H
            clear H
            have H := H1
            clear H1
            exact absurd (Option.some.inj H) (by decide)
           ·replace c163 := Bool.eq_false_iff.mpr c163
            subst c163
            have H1 : ((key_Meta.f kj35 l1).bind fun t345 => ((rillbedlaw06_in.f t345 t315 t316).bind fun t346 => (if t346 = true then (some false) else ((strings_Join.f l1 (⟨#[47]⟩ : ByteArray)).bind fun t347 => ((rillbedlaw06_takes.f kj35 t323 100 t347 (wrap64 (Int.tmod a2_1 32))).bind fun t348 => (if t348 = true then ((key_Blocks.f kj35 l0).bind fun bt349 => ((rillbedlaw06_in.f t323 bt349.1 bt349.2).bind fun t351 => (if (t351 != x12_19) = true then (some false) else (if (l0.length : Int) = 0 then ((rillbedlaw06_works.f kj35).bind fun t352 => (some t352)) else (if x12_19 = true then (if ((Op.bytesLess t322.toList t323.toList) == (decide ((wrap64 (Int.tmod a2_0 32)) < (wrap64 (Int.tmod a2_1 32))))) = true then ((rillbedlaw06_works.f kj35).bind fun t353 => (some t353)) else (some false)) else (if t322.toList = t323.toList then (some false) else ((rillbedlaw06_works.f kj35).bind fun t354 => (some t354)))))))) else (some false))))))) = some true := by rw [if_neg (show ¬ (false = true) by decide)] at H; exact H
            clear H
            have H := H1
            clear H1
            replace H := Option.bind_eq_some_iff.mp H
            obtain ⟨t345, A1670, H⟩ := H
            replace H : ((rillbedlaw06_in.f t345 t315 t316).bind fun t346 => (if t346 = true then (some false) else ((strings_Join.f l1 (⟨#[47]⟩ : ByteArray)).bind fun t347 => ((rillbedlaw06_takes.f kj35 t323 100 t347 (wrap64 (Int.tmod a2_1 32))).bind fun t348 => (if t348 = true then ((key_Blocks.f kj35 l0).bind fun bt349 => ((rillbedlaw06_in.f t323 bt349.1 bt349.2).bind fun t351 => (if (t351 != x12_19) = true then (some false) else (if (l0.length : Int) = 0 then ((rillbedlaw06_works.f kj35).bind fun t352 => (some t352)) else (if x12_19 = true then (if ((Op.bytesLess t322.toList t323.toList) == (decide ((wrap64 (Int.tmod a2_0 32)) < (wrap64 (Int.tmod a2_1 32))))) = true then ((rillbedlaw06_works.f kj35).bind fun t353 => (some t353)) else (some false)) else (if t322.toList = t323.toList then (some false) else ((rillbedlaw06_works.f kj35).bind fun t354 => (some t354)))))))) else (some false)))))) = some true := H
            have A167 := Aside0.mk A1670
            clear A1670
            replace H := Option.bind_eq_some_iff.mp H
            obtain ⟨t346, A1680, H⟩ := H
            replace H : (if t346 = true then (some false) else ((strings_Join.f l1 (⟨#[47]⟩ : ByteArray)).bind fun t347 => ((rillbedlaw06_takes.f kj35 t323 100 t347 (wrap64 (Int.tmod a2_1 32))).bind fun t348 => (if t348 = true then ((key_Blocks.f kj35 l0).bind fun bt349 => ((rillbedlaw06_in.f t323 bt349.1 bt349.2).bind fun t351 => (if (t351 != x12_19) = true then (some false) else (if (l0.length : Int) = 0 then ((rillbedlaw06_works.f kj35).bind fun t352 => (some t352)) else (if x12_19 = true then (if ((Op.bytesLess t322.toList t323.toList) == (decide ((wrap64 (Int.tmod a2_0 32)) < (wrap64 (Int.tmod a2_1 32))))) = true then ((rillbedlaw06_works.f kj35).bind fun t353 => (some t353)) else (some false)) else (if t322.toList = t323.toList then (some false) else ((rillbedlaw06_works.f kj35).bind fun t354 => (some t354)))))))) else (some false))))) = some true := H
            have A168 := Aside0.mk A1680
            clear A1680
            by_cases c169 : t346 = true
            ·subst c169
             have H1 : (some false) = some true := by rw [if_pos rfl] at H; exact H
             clear H
             have H := H1
             clear H1
             exact absurd (Option.some.inj H) (by decide)
            ·replace c169 := Bool.eq_false_iff.mpr c169
             subst c169
             have H1 : ((strings_Join.f l1 (⟨#[47]⟩ : ByteArray)).bind fun t347 => ((rillbedlaw06_takes.f kj35 t323 100 t347 (wrap64 (Int.tmod a2_1 32))).bind fun t348 => (if t348 = true then ((key_Blocks.f kj35 l0).bind fun bt349 => ((rillbedlaw06_in.f t323 bt349.1 bt349.2).bind fun t351 => (if (t351 != x12_19) = true then (some false) else (if (l0.length : Int) = 0 then ((rillbedlaw06_works.f kj35).bind fun t352 => (some t352)) else (if x12_19 = true then (if ((Op.bytesLess t322.toList t323.toList) == (decide ((wrap64 (Int.tmod a2_0 32)) < (wrap64 (Int.tmod a2_1 32))))) = true then ((rillbedlaw06_works.f kj35).bind fun t353 => (some t353)) else (some false)) else (if t322.toList = t323.toList then (some false) else ((rillbedlaw06_works.f kj35).bind fun t354 => (some t354)))))))) else (some false)))) = some true := by rw [if_neg (show ¬ (false = true) by decide)] at H; exact H
             clear H
             have H := H1
             clear H1
             replace H := Option.bind_eq_some_iff.mp H
             obtain ⟨t347, A1750, H⟩ := H
             replace H : ((rillbedlaw06_takes.f kj35 t323 100 t347 (wrap64 (Int.tmod a2_1 32))).bind fun t348 => (if t348 = true then ((key_Blocks.f kj35 l0).bind fun bt349 => ((rillbedlaw06_in.f t323 bt349.1 bt349.2).bind fun t351 => (if (t351 != x12_19) = true then (some false) else (if (l0.length : Int) = 0 then ((rillbedlaw06_works.f kj35).bind fun t352 => (some t352)) else (if x12_19 = true then (if ((Op.bytesLess t322.toList t323.toList) == (decide ((wrap64 (Int.tmod a2_0 32)) < (wrap64 (Int.tmod a2_1 32))))) = true then ((rillbedlaw06_works.f kj35).bind fun t353 => (some t353)) else (some false)) else (if t322.toList = t323.toList then (some false) else ((rillbedlaw06_works.f kj35).bind fun t354 => (some t354)))))))) else (some false))) = some true := H
             have A175 := Aside0.mk A1750
             clear A1750
             replace H := Option.bind_eq_some_iff.mp H
             obtain ⟨t348, A1760, H⟩ := H
             replace H : (if t348 = true then ((key_Blocks.f kj35 l0).bind fun bt349 => ((rillbedlaw06_in.f t323 bt349.1 bt349.2).bind fun t351 => (if (t351 != x12_19) = true then (some false) else (if (l0.length : Int) = 0 then ((rillbedlaw06_works.f kj35).bind fun t352 => (some t352)) else (if x12_19 = true then (if ((Op.bytesLess t322.toList t323.toList) == (decide ((wrap64 (Int.tmod a2_0 32)) < (wrap64 (Int.tmod a2_1 32))))) = true then ((rillbedlaw06_works.f kj35).bind fun t353 => (some t353)) else (some false)) else (if t322.toList = t323.toList then (some false) else ((rillbedlaw06_works.f kj35).bind fun t354 => (some t354)))))))) else (some false)) = some true := H
             have A176 := Aside0.mk A1760
             clear A1760
             by_cases c177 : t348 = true
             ·subst c177
              have H1 : ((key_Blocks.f kj35 l0).bind fun bt349 => ((rillbedlaw06_in.f t323 bt349.1 bt349.2).bind fun t351 => (if (t351 != x12_19) = true then (some false) else (if (l0.length : Int) = 0 then ((rillbedlaw06_works.f kj35).bind fun t352 => (some t352)) else (if x12_19 = true then (if ((Op.bytesLess t322.toList t323.toList) == (decide ((wrap64 (Int.tmod a2_0 32)) < (wrap64 (Int.tmod a2_1 32))))) = true then ((rillbedlaw06_works.f kj35).bind fun t353 => (some t353)) else (some false)) else (if t322.toList = t323.toList then (some false) else ((rillbedlaw06_works.f kj35).bind fun t354 => (some t354)))))))) = some true := by rw [if_pos rfl] at H; exact H
              clear H
              have H := H1
              clear H1
              replace H := Option.bind_eq_some_iff.mp H
              obtain ⟨⟨t349, t350⟩, A1780, H⟩ := H
              replace H : ((rillbedlaw06_in.f t323 t349 t350).bind fun t351 => (if (t351 != x12_19) = true then (some false) else (if (l0.length : Int) = 0 then ((rillbedlaw06_works.f kj35).bind fun t352 => (some t352)) else (if x12_19 = true then (if ((Op.bytesLess t322.toList t323.toList) == (decide ((wrap64 (Int.tmod a2_0 32)) < (wrap64 (Int.tmod a2_1 32))))) = true then ((rillbedlaw06_works.f kj35).bind fun t353 => (some t353)) else (some false)) else (if t322.toList = t323.toList then (some false) else ((rillbedlaw06_works.f kj35).bind fun t354 => (some t354))))))) = some true := H
              have A178 := Aside0.mk A1780
              clear A1780
              replace H := Option.bind_eq_some_iff.mp H
              obtain ⟨t351, A1790, H⟩ := H
              replace H : (if (t351 != x12_19) = true then (some false) else (if (l0.length : Int) = 0 then ((rillbedlaw06_works.f kj35).bind fun t352 => (some t352)) else (if x12_19 = true then (if ((Op.bytesLess t322.toList t323.toList) == (decide ((wrap64 (Int.tmod a2_0 32)) < (wrap64 (Int.tmod a2_1 32))))) = true then ((rillbedlaw06_works.f kj35).bind fun t353 => (some t353)) else (some false)) else (if t322.toList = t323.toList then (some false) else ((rillbedlaw06_works.f kj35).bind fun t354 => (some t354)))))) = some true := H
              have A179 := Aside0.mk A1790
              clear A1790
              by_cases c180 : (t351 != x12_19) = true
              ·rw [if_pos c180] at H
               have c180b0 : (t351 != x12_19) = true := c180
               (try (have c180b1 : decide (t351 = x12_19) = false := by simpa using c180))
               (try (have c180b2 : (t351 == x12_19) = false := by simpa using c180))
               (try (have c180b3 : ¬ (t351 = x12_19) := by simpa using c180))
               clear c180
               exact absurd (Option.some.inj H) (by decide)
              ·rw [if_neg c180] at H
               have c180b0 : (t351 != x12_19) = false := by simpa using c180
               (try (have c180b1 : decide (t351 = x12_19) = true := by simpa using c180))
               (try (have c180b2 : (t351 == x12_19) = true := by simpa using c180))
               clear c180
               have HQX_ := Aside0.mk H
               clear H
               try go_wp2
               have n0_ := Aside0.mk (blk_drew BK307.out)
               have n1_ := Aside0.mk (blk_drew BK317.out)
               have n2_ := Aside0.mk (blk_drew BK318.out)
               have n3_ := Aside0.mk (below_drew1 HB.out)
               clear BK307
               clear BK317
               clear BK318
               clear HB
               have BK307 := n0_
               have BK317 := n1_
               have BK318 := n2_
               have HB := n3_
               clear n0_ n1_ n2_ n3_
               refine start_ (n := 32) (S := fun w' => w'.cell? ⟨gb318, 0, none⟩ = some (.string t315) ∧ w'.cell? ⟨gb318, 1, none⟩ = some (.string t316) ∧ w'.cell? ⟨gb317, 0, none⟩ = some (.string t313) ∧ w'.cell? ⟨gb317, 1, none⟩ = some (.string t314)) (ds := []) KeyRanges.m52 (by kernel_rfl) rfl rfl ⟨(blk_cell BK318.out 0).trans rfl, (blk_cell BK318.out 1).trans rfl, (blk_cell BK317.out 0).trans rfl, (blk_cell BK317.out 1).trans rfl⟩ (fun hHeld => ?_); refine with_tabW rillbedlaw06_KeyRanges.tab11 rillbedlaw06_KeyRanges.bits11 (fun HT_ HW_ => ?_)
               generalize wc.drew = w192 at BK307 BK317 BK318 HB hHeld ⊢
               refine pure_ (i := 0) (N := some 122) (v := ?_) (a' := ?_) KeyRanges.m53 rfl rfl (any_of HT_.out (by kernel_rfl)) (fun _ _ _ h => h) (Or.inl ⟨by rfl, ?_⟩) ?_ ?_
               rotate_left
               ·intro w'
                go_simp
                with_reducible rfl
               rotate_left
               ·simp only [Act.put, List.setIfInBounds_toArray, List.set_cons_zero, List.set_cons_succ, i64_w, i32_w]
                rfl
               refine pure_ (i := 3) (N := some 125) (v := ?_) (a' := ?_) KeyRanges.m54 rfl rfl (any_of HT_.out (by kernel_rfl)) (fun _ _ _ h => h) (Or.inl ⟨by rfl, ?_⟩) ?_ ?_
               rotate_left
               ·intro w'
                go_simp
                with_reducible rfl
               rotate_left
               ·simp only [Act.put, List.setIfInBounds_toArray, List.set_cons_zero, List.set_cons_succ, i64_w, i32_w]
                rfl
               refine take_ (i := 1) (N := some 123) (v := ?_) (a' := ?_) KeyRanges.m55 rfl rfl (take_ofW HT_.out HW_.out (by kernel_rfl)) (fun _ _ _ h => h) (Or.inl ⟨by rfl, ?_⟩) hHeld ?_ ?_
               rotate_left
               ·rintro w' ⟨s0, s1, s2, s3⟩
                go_simp
                with_reducible rfl
               rotate_left
               ·simp only [Act.put, List.setIfInBounds_toArray, List.set_cons_zero, List.set_cons_succ, i64_w, i32_w]
                rfl
               refine one_ (i := 2) (N := some 124) KeyRanges.m56 rfl rfl (one_of HT_.out (by kernel_rfl)) (by decide) (fun K hK => ?_)
               refine goes_ Tryd.func43 (by kernel_rfl) rfl #[.string t323, .agg #[.string t315, .string t316]] (by rfl) rfl rfl (by (try simp only [List.map_toArray, List.map_cons, List.map_nil]); first | done | rfl | (simp only [List.length_drop, List.length_take]; rfl)) ?_
               with_reducible refine (rillbedlaw06_in.calls t323 t315 t316 t343 _ A158.out).mono ?_
               rintro e w193 ⟨rfl, hb⟩
               refine ⟨_, rfl, ?_⟩
               have n0_ := Aside0.mk (blk_below (g := gb307) (o := .cells #[.int .u8 a2_0, .int .u8 a2_1] 65 (0, 0)) (by (with_reducible repeat (first | refine blk_drewN ?_ _ | refine blk_drew ?_ | refine blk_alloc ?_ _)); exact BK307.out) hb)
               have n1_ := Aside0.mk (blk_below (g := gb317) (o := .cells #[.string t313, .string t314] 49 (0, 0)) (by (with_reducible repeat (first | refine blk_drewN ?_ _ | refine blk_drew ?_ | refine blk_alloc ?_ _)); exact BK317.out) hb)
               have n2_ := Aside0.mk (blk_below (g := gb318) (o := .cells #[.string t315, .string t316] 49 (0, 0)) (by (with_reducible repeat (first | refine blk_drewN ?_ _ | refine blk_drew ?_ | refine blk_alloc ?_ _)); exact BK318.out) hb)
               have n3_ := Aside0.mk (below_step (by repeat (first | (with_reducible first | exact HB.out | apply below_alloc | apply pw_below_drewN | apply below_drew1 | refine below_set ?_ GE307.out | refine below_set ?_ GE317.out | refine below_set ?_ GE318.out) | exact HB.out)) hb)
               clear BK307
               clear BK317
               clear BK318
               clear HB
               have BK307 := n0_
               have BK317 := n1_
               have BK318 := n2_
               have HB := n3_
               clear n0_ n1_ n2_ n3_
               (try clear hb)
               (try clear hb2)
               (try clear hk)
               (try clear hi)
               refine hK.out _ _ ⟨(blk_cell BK318.out 0).trans rfl, (blk_cell BK318.out 1).trans rfl, (blk_cell BK317.out 0).trans rfl, (blk_cell BK317.out 1).trans rfl⟩ (fun hHeld => ?_)
               clear hK K
               refine norm_ (a' := ?_) ?_ ?_
               rotate_left
               ·show Act.put _ (some 124) _ = _
                simp only [Act.put, List.setIfInBounds_toArray, List.set_cons_zero, List.set_cons_succ, i64_w, i32_w]
                rfl
               refine pure_ (i := 4) (N := some 126) (v := ?_) (a' := ?_) KeyRanges.m57 rfl rfl (any_of HT_.out (by kernel_rfl)) (fun _ _ _ h => h) (Or.inl ⟨by rfl, ?_⟩) ?_ ?_
               rotate_left
               ·intro w'
                go_simp
                with_reducible rfl
               rotate_left
               ·simp only [Act.put, List.setIfInBounds_toArray, List.set_cons_zero, List.set_cons_succ, i64_w, i32_w]
                rfl
               refine pure_ (i := 5) (N := some 127) (v := ?_) (a' := ?_) KeyRanges.m58 rfl rfl (any_of HT_.out (by kernel_rfl)) (fun _ _ _ h => h) (Or.inl ⟨by rfl, ?_⟩) ?_ ?_
               rotate_left
               ·intro w'
                go_simp
                with_reducible rfl
               rotate_left
               ·simp only [Act.put, List.setIfInBounds_toArray, List.set_cons_zero, List.set_cons_succ, i64_w, i32_w]
                rfl
               refine pure_ (i := 6) (N := some 128) (v := ?_) (a' := ?_) KeyRanges.m59 rfl rfl (any_of HT_.out (by kernel_rfl)) (fun _ _ _ h => h) (Or.inl ⟨by rfl, ?_⟩) ?_ ?_
               rotate_left
               ·intro w'
                go_simp
                with_reducible rfl
               rotate_left
               ·simp only [Act.put, List.setIfInBounds_toArray, List.set_cons_zero, List.set_cons_succ, i64_w, i32_w]
                rfl
               refine take_ (i := 7) (N := some 129) (v := ?_) (a' := ?_) KeyRanges.m60 rfl rfl (take_ofW HT_.out HW_.out (by kernel_rfl)) (fun _ _ _ h => h) (Or.inl ⟨by rfl, ?_⟩) hHeld ?_ ?_
               rotate_left
               ·rintro w' ⟨s0, s1, s2, s3⟩
                go_simp
                with_reducible rfl
               rotate_left
               ·simp only [Act.put, List.setIfInBounds_toArray, List.set_cons_zero, List.set_cons_succ, i64_w, i32_w]
                rfl
               refine one_ (i := 8) (N := some 130) KeyRanges.m61 rfl rfl (one_of HT_.out (by kernel_rfl)) (by decide) (fun K hK => ?_)
               refine goes_ Tryd.func43 (by kernel_rfl) rfl #[.string t323, .agg #[.string t313, .string t314]] (by rfl) rfl rfl (by (try simp only [List.map_toArray, List.map_cons, List.map_nil]); first | done | rfl | (simp only [List.length_drop, List.length_take]; rfl)) ?_
               with_reducible refine (rillbedlaw06_in.calls t323 t313 t314 false _ A162.out).mono ?_
               rintro e w194 ⟨rfl, hb⟩
               refine ⟨_, rfl, ?_⟩
               have n0_ := Aside0.mk (blk_below (g := gb307) (o := .cells #[.int .u8 a2_0, .int .u8 a2_1] 65 (0, 0)) (by (with_reducible repeat (first | refine blk_drewN ?_ _ | refine blk_drew ?_ | refine blk_alloc ?_ _)); exact BK307.out) hb)
               have n1_ := Aside0.mk (blk_below (g := gb317) (o := .cells #[.string t313, .string t314] 49 (0, 0)) (by (with_reducible repeat (first | refine blk_drewN ?_ _ | refine blk_drew ?_ | refine blk_alloc ?_ _)); exact BK317.out) hb)
               have n2_ := Aside0.mk (blk_below (g := gb318) (o := .cells #[.string t315, .string t316] 49 (0, 0)) (by (with_reducible repeat (first | refine blk_drewN ?_ _ | refine blk_drew ?_ | refine blk_alloc ?_ _)); exact BK318.out) hb)
               have n3_ := Aside0.mk (below_step (by repeat (first | (with_reducible first | exact HB.out | apply below_alloc | apply pw_below_drewN | apply below_drew1 | refine below_set ?_ GE307.out | refine below_set ?_ GE317.out | refine below_set ?_ GE318.out) | exact HB.out)) hb)
               clear BK307
               clear BK317
               clear BK318
               clear HB
               have BK307 := n0_
               have BK317 := n1_
               have BK318 := n2_
               have HB := n3_
               clear n0_ n1_ n2_ n3_
               (try clear hb)
               (try clear hb2)
               (try clear hk)
               (try clear hi)
               refine hK.out _ _ ⟨(blk_cell BK318.out 0).trans rfl, (blk_cell BK318.out 1).trans rfl, (blk_cell BK317.out 0).trans rfl, (blk_cell BK317.out 1).trans rfl⟩ (fun hHeld => ?_)
               clear hK K
               refine norm_ (a' := ?_) ?_ ?_
               rotate_left
               ·show Act.put _ (some 130) _ = _
                simp only [Act.put, List.setIfInBounds_toArray, List.set_cons_zero, List.set_cons_succ, i64_w, i32_w]
                rfl
               refine pure_ (i := 9) (N := some 131) (v := ?_) (a' := ?_) KeyRanges.m62 rfl rfl (any_of HT_.out (by kernel_rfl)) (fun _ _ _ h => h) (Or.inl ⟨by rfl, ?_⟩) ?_ ?_
               rotate_left
               ·intro w'
                go_simp
                with_reducible rfl
               rotate_left
               ·simp only [Act.put, List.setIfInBounds_toArray, List.set_cons_zero, List.set_cons_succ, i64_w, i32_w]
                rfl
               refine pure_ (i := 10) (N := some 132) (v := ?_) (a' := ?_) KeyRanges.m63 rfl rfl (any_of HT_.out (by kernel_rfl)) (fun _ _ _ h => h) (Or.inl ⟨by rfl, ?_⟩) ?_ ?_
               rotate_left
               ·intro w'
                go_simp
                with_reducible rfl
               rotate_left
               ·simp only [Act.put, List.setIfInBounds_toArray, List.set_cons_zero, List.set_cons_succ, i64_w, i32_w]
                rfl
               refine pure_ (i := 11) (N := some 133) (v := ?_) (a' := ?_) KeyRanges.m64 rfl rfl (any_of HT_.out (by kernel_rfl)) (fun _ _ _ h => h) (Or.inl ⟨by rfl, ?_⟩) ?_ ?_
               rotate_left
               ·intro w'
                go_simp
                with_reducible rfl
               rotate_left
               ·simp only [Act.put, List.setIfInBounds_toArray, List.set_cons_zero, List.set_cons_succ, i64_w, i32_w]
                rfl
               refine take_ (i := 13) (N := some 135) (v := ?_) (a' := ?_) KeyRanges.m65 rfl rfl (take_ofW HT_.out HW_.out (by kernel_rfl)) (fun _ _ _ h => h) (Or.inl ⟨by rfl, ?_⟩) hHeld ?_ ?_
               rotate_left
               ·rintro w' ⟨s0, s1, s2, s3⟩
                go_simp
                with_reducible rfl
               rotate_left
               ·simp only [Act.put, List.setIfInBounds_toArray, List.set_cons_zero, List.set_cons_succ, i64_w, i32_w]
                rfl
               refine one_ (i := 12) (N := some 134) KeyRanges.m66 rfl rfl (one_of HT_.out (by kernel_rfl)) (by decide) (fun K hK => ?_)
               refine goes_ Tryd.func28 (by kernel_rfl) rfl #[.slice A1 l1.length c1] (by rfl) rfl rfl (by (try simp only [List.map_toArray, List.map_cons, List.map_nil]); first | done | rfl | (simp only [List.length_drop, List.length_take]; rfl)) ?_
               with_reducible refine (key_Meta.calls kj35 _ _ l1 t345 _ ?side1 ?side2 A167.out).mono ?_
               (case side1 => repeat (first | exact (Kd.C_below HR1.out HB.out) | (with_reducible refine Kd.C_alloc ?_ _) | (with_reducible refine Kd.C_drewN ?_ _) | (with_reducible refine Kd.C_drew ?_)))
               (case side2 => exact HC1.out)
               rintro e w195 ⟨rfl, hb⟩
               refine ⟨_, rfl, ?_⟩
               have n0_ := Aside0.mk (blk_below (g := gb307) (o := .cells #[.int .u8 a2_0, .int .u8 a2_1] 65 (0, 0)) (by (with_reducible repeat (first | refine blk_drewN ?_ _ | refine blk_drew ?_ | refine blk_alloc ?_ _)); exact BK307.out) hb)
               have n1_ := Aside0.mk (blk_below (g := gb317) (o := .cells #[.string t313, .string t314] 49 (0, 0)) (by (with_reducible repeat (first | refine blk_drewN ?_ _ | refine blk_drew ?_ | refine blk_alloc ?_ _)); exact BK317.out) hb)
               have n2_ := Aside0.mk (blk_below (g := gb318) (o := .cells #[.string t315, .string t316] 49 (0, 0)) (by (with_reducible repeat (first | refine blk_drewN ?_ _ | refine blk_drew ?_ | refine blk_alloc ?_ _)); exact BK318.out) hb)
               have n3_ := Aside0.mk (below_step (by repeat (first | (with_reducible first | exact HB.out | apply below_alloc | apply pw_below_drewN | apply below_drew1 | refine below_set ?_ GE307.out | refine below_set ?_ GE317.out | refine below_set ?_ GE318.out) | exact HB.out)) hb)
               clear BK307
               clear BK317
               clear BK318
               clear HB
               have BK307 := n0_
               have BK317 := n1_
               have BK318 := n2_
               have HB := n3_
               clear n0_ n1_ n2_ n3_
               (try clear hb)
               (try clear hb2)
               (try clear hk)
               (try clear hi)
               refine hK.out _ _ ⟨(blk_cell BK318.out 0).trans rfl, (blk_cell BK318.out 1).trans rfl, (blk_cell BK317.out 0).trans rfl, (blk_cell BK317.out 1).trans rfl⟩ (fun hHeld => ?_)
               clear hK K
               refine norm_ (a' := ?_) ?_ ?_
               rotate_left
               ·show Act.put _ (some 134) _ = _
                simp only [Act.put, List.setIfInBounds_toArray, List.set_cons_zero, List.set_cons_succ, i64_w, i32_w]
                rfl
               refine one_ (i := 14) (N := some 136) KeyRanges.m67 rfl rfl (one_of HT_.out (by kernel_rfl)) (by decide) (fun K hK => ?_)
               refine goes_ Tryd.func43 (by kernel_rfl) rfl #[.string t345, .agg #[.string t315, .string t316]] (by rfl) rfl rfl (by (try simp only [List.map_toArray, List.map_cons, List.map_nil]); first | done | rfl | (simp only [List.length_drop, List.length_take]; rfl)) ?_
               with_reducible refine (rillbedlaw06_in.calls t345 t315 t316 false _ A168.out).mono ?_
               rintro e w196 ⟨rfl, hb⟩
               refine ⟨_, rfl, ?_⟩
               have n0_ := Aside0.mk (blk_below (g := gb307) (o := .cells #[.int .u8 a2_0, .int .u8 a2_1] 65 (0, 0)) (by (with_reducible repeat (first | refine blk_drewN ?_ _ | refine blk_drew ?_ | refine blk_alloc ?_ _)); exact BK307.out) hb)
               have n1_ := Aside0.mk (blk_below (g := gb317) (o := .cells #[.string t313, .string t314] 49 (0, 0)) (by (with_reducible repeat (first | refine blk_drewN ?_ _ | refine blk_drew ?_ | refine blk_alloc ?_ _)); exact BK317.out) hb)
               have n2_ := Aside0.mk (blk_below (g := gb318) (o := .cells #[.string t315, .string t316] 49 (0, 0)) (by (with_reducible repeat (first | refine blk_drewN ?_ _ | refine blk_drew ?_ | refine blk_alloc ?_ _)); exact BK318.out) hb)
               have n3_ := Aside0.mk (below_step (by repeat (first | (with_reducible first | exact HB.out | apply below_alloc | apply pw_below_drewN | apply below_drew1 | refine below_set ?_ GE307.out | refine below_set ?_ GE317.out | refine below_set ?_ GE318.out) | exact HB.out)) hb)
               clear BK307
               clear BK317
               clear BK318
               clear HB
               have BK307 := n0_
               have BK317 := n1_
               have BK318 := n2_
               have HB := n3_
               clear n0_ n1_ n2_ n3_
               (try clear hb)
               (try clear hb2)
               (try clear hk)
               (try clear hi)
               refine hK.out _ _ ⟨(blk_cell BK318.out 0).trans rfl, (blk_cell BK318.out 1).trans rfl, (blk_cell BK317.out 0).trans rfl, (blk_cell BK317.out 1).trans rfl⟩ (fun hHeld => ?_)
               clear hK K
               refine norm_ (a' := ?_) ?_ ?_
               rotate_left
               ·show Act.put _ (some 136) _ = _
                simp only [Act.put, List.setIfInBounds_toArray, List.set_cons_zero, List.set_cons_succ, i64_w, i32_w]
                rfl
               refine pure_ (i := 15) (N := some 137) (v := ?_) (a' := ?_) KeyRanges.m68 rfl rfl (any_of HT_.out (by kernel_rfl)) (fun _ _ _ h => h) (Or.inl ⟨by rfl, ?_⟩) ?_ ?_
               rotate_left
               ·intro w'
                go_simp
                with_reducible rfl
               rotate_left
               ·simp only [Act.put, List.setIfInBounds_toArray, List.set_cons_zero, List.set_cons_succ, i64_w, i32_w]
                rfl
               refine pure_ (i := 16) (N := some 138) (v := ?_) (a' := ?_) KeyRanges.m69 rfl rfl (any_of HT_.out (by kernel_rfl)) (fun _ _ _ h => h) (Or.inl ⟨by rfl, ?_⟩) ?_ ?_
               rotate_left
               ·intro w'
                go_simp
                with_reducible rfl
               rotate_left
               ·simp only [Act.put, List.setIfInBounds_toArray, List.set_cons_zero, List.set_cons_succ, i64_w, i32_w]
                rfl
               refine pure_ (i := 17) (N := some 139) (v := ?_) (a' := ?_) KeyRanges.m70 rfl rfl (any_of HT_.out (by kernel_rfl)) (fun _ _ _ h => h) (Or.inl ⟨by rfl, ?_⟩) ?_ ?_
               rotate_left
               ·intro w'
                go_simp
                with_reducible rfl
               rotate_left
               ·simp only [Act.put, List.setIfInBounds_toArray, List.set_cons_zero, List.set_cons_succ, i64_w, i32_w]
                rfl
               refine pure_ (i := 18) (N := some 140) (v := ?_) (a' := ?_) KeyRanges.m71 rfl rfl (any_of HT_.out (by kernel_rfl)) (fun _ _ _ h => h) (Or.inl ⟨by rfl, ?_⟩) ?_ ?_
               rotate_left
               ·intro w'
                go_simp
                with_reducible rfl
               rotate_left
               ·simp only [Act.put, List.setIfInBounds_toArray, List.set_cons_zero, List.set_cons_succ, i64_w, i32_w]
                rfl
               refine pure_ (i := 20) (N := some 142) (v := ?_) (a' := ?_) KeyRanges.m72 rfl rfl (any_of HT_.out (by kernel_rfl)) (fun _ _ _ h => h) (Or.inl ⟨by rfl, ?_⟩) ?_ ?_
               rotate_left
               ·intro w'
                go_simp
                with_reducible rfl
               rotate_left
               ·simp only [Act.put, List.setIfInBounds_toArray, List.set_cons_zero, List.set_cons_succ, i64_w, i32_w]
                rfl
               refine one_ (i := 19) (N := some 141) KeyRanges.m73 rfl rfl (one_of HT_.out (by kernel_rfl)) (by decide) (fun K hK => ?_)
               refine goes_ Tryd.func16 (by kernel_rfl) rfl #[.slice A1 l1.length c1, .string (⟨#[47]⟩ : ByteArray)] (by rfl) rfl rfl (by (try simp only [List.map_toArray, List.map_cons, List.map_nil]); first | done | rfl | (simp only [List.length_drop, List.length_take]; rfl)) ?_
               with_reducible refine (strings_Join.calls _ _ l1 (⟨#[47]⟩ : ByteArray) t347 _ ?side1 ?side2 A175.out).mono ?_
               (case side1 => repeat (first | exact (Kd.C_below HR1.out HB.out) | (with_reducible refine Kd.C_alloc ?_ _) | (with_reducible refine Kd.C_drewN ?_ _) | (with_reducible refine Kd.C_drew ?_)))
               (case side2 => exact HC1.out)
               rintro e w197 ⟨rfl, hb⟩
               refine ⟨_, rfl, ?_⟩
               have n0_ := Aside0.mk (blk_below (g := gb307) (o := .cells #[.int .u8 a2_0, .int .u8 a2_1] 65 (0, 0)) (by (with_reducible repeat (first | refine blk_drewN ?_ _ | refine blk_drew ?_ | refine blk_alloc ?_ _)); exact BK307.out) hb)
               have n1_ := Aside0.mk (blk_below (g := gb317) (o := .cells #[.string t313, .string t314] 49 (0, 0)) (by (with_reducible repeat (first | refine blk_drewN ?_ _ | refine blk_drew ?_ | refine blk_alloc ?_ _)); exact BK317.out) hb)
               have n2_ := Aside0.mk (blk_below (g := gb318) (o := .cells #[.string t315, .string t316] 49 (0, 0)) (by (with_reducible repeat (first | refine blk_drewN ?_ _ | refine blk_drew ?_ | refine blk_alloc ?_ _)); exact BK318.out) hb)
               have n3_ := Aside0.mk (below_step (by repeat (first | (with_reducible first | exact HB.out | apply below_alloc | apply pw_below_drewN | apply below_drew1 | refine below_set ?_ GE307.out | refine below_set ?_ GE317.out | refine below_set ?_ GE318.out) | exact HB.out)) hb)
               clear BK307
               clear BK317
               clear BK318
               clear HB
               have BK307 := n0_
               have BK317 := n1_
               have BK318 := n2_
               have HB := n3_
               clear n0_ n1_ n2_ n3_
               (try clear hb)
               (try clear hb2)
               (try clear hk)
               (try clear hi)
               refine hK.out _ _ ⟨(blk_cell BK318.out 0).trans rfl, (blk_cell BK318.out 1).trans rfl, (blk_cell BK317.out 0).trans rfl, (blk_cell BK317.out 1).trans rfl⟩ (fun hHeld => ?_)
               clear hK K
               refine norm_ (a' := ?_) ?_ ?_
               rotate_left
               ·show Act.put _ (some 141) _ = _
                simp only [Act.put, List.setIfInBounds_toArray, List.set_cons_zero, List.set_cons_succ, i64_w, i32_w]
                rfl
               refine one_ (i := 21) (N := some 143) KeyRanges.m74 rfl rfl (one_of HT_.out (by kernel_rfl)) (by decide) (fun K hK => ?_)
               refine goes_ Tryd.func36 (by kernel_rfl) rfl #[.string t323, .int .u8 100, .string t347, .int .i64 (wrap64 (Int.tmod a2_1 32))] (by rfl) rfl rfl (by (try simp only [List.map_toArray, List.map_cons, List.map_nil]); first | done | rfl | (simp only [List.length_drop, List.length_take]; rfl)) ?_
               with_reducible refine (rillbedlaw06_takes.calls kj35 t323 100 t347 (wrap64 (Int.tmod a2_1 32)) true _ A176.out).mono ?_
               rintro e w198 ⟨rfl, hb⟩
               refine ⟨_, rfl, ?_⟩
               have n0_ := Aside0.mk (blk_below (g := gb307) (o := .cells #[.int .u8 a2_0, .int .u8 a2_1] 65 (0, 0)) (by (with_reducible repeat (first | refine blk_drewN ?_ _ | refine blk_drew ?_ | refine blk_alloc ?_ _)); exact BK307.out) hb)
               have n1_ := Aside0.mk (blk_below (g := gb317) (o := .cells #[.string t313, .string t314] 49 (0, 0)) (by (with_reducible repeat (first | refine blk_drewN ?_ _ | refine blk_drew ?_ | refine blk_alloc ?_ _)); exact BK317.out) hb)
               have n2_ := Aside0.mk (blk_below (g := gb318) (o := .cells #[.string t315, .string t316] 49 (0, 0)) (by (with_reducible repeat (first | refine blk_drewN ?_ _ | refine blk_drew ?_ | refine blk_alloc ?_ _)); exact BK318.out) hb)
               have n3_ := Aside0.mk (below_step (by repeat (first | (with_reducible first | exact HB.out | apply below_alloc | apply pw_below_drewN | apply below_drew1 | refine below_set ?_ GE307.out | refine below_set ?_ GE317.out | refine below_set ?_ GE318.out) | exact HB.out)) hb)
               clear BK307
               clear BK317
               clear BK318
               clear HB
               have BK307 := n0_
               have BK317 := n1_
               have BK318 := n2_
               have HB := n3_
               clear n0_ n1_ n2_ n3_
               (try clear hb)
               (try clear hb2)
               (try clear hk)
               (try clear hi)
               refine hK.out _ _ ⟨(blk_cell BK318.out 0).trans rfl, (blk_cell BK318.out 1).trans rfl, (blk_cell BK317.out 0).trans rfl, (blk_cell BK317.out 1).trans rfl⟩ (fun hHeld => ?_)
               clear hK K
               refine norm_ (a' := ?_) ?_ ?_
               rotate_left
               ·show Act.put _ (some 143) _ = _
                simp only [Act.put, List.setIfInBounds_toArray, List.set_cons_zero, List.set_cons_succ, i64_w, i32_w]
                rfl
               refine pure_ (i := 22) (N := some 144) (v := ?_) (a' := ?_) KeyRanges.m75 rfl rfl (any_of HT_.out (by kernel_rfl)) (fun _ _ _ h => h) (Or.inl ⟨by rfl, ?_⟩) ?_ ?_
               rotate_left
               ·intro w'
                go_simp
                with_reducible rfl
               rotate_left
               ·simp only [Act.put, List.setIfInBounds_toArray, List.set_cons_zero, List.set_cons_succ, i64_w, i32_w]
                rfl
               refine pure_ (i := 23) (N := some 145) (v := ?_) (a' := ?_) KeyRanges.m76 rfl rfl (any_of HT_.out (by kernel_rfl)) (fun _ _ _ h => h) (Or.inl ⟨by rfl, ?_⟩) ?_ ?_
               rotate_left
               ·intro w'
                go_simp
                with_reducible rfl
               rotate_left
               ·simp only [Act.put, List.setIfInBounds_toArray, List.set_cons_zero, List.set_cons_succ, i64_w, i32_w]
                rfl
               refine pure_ (i := 24) (N := some 146) (v := ?_) (a' := ?_) KeyRanges.m77 rfl rfl (any_of HT_.out (by kernel_rfl)) (fun _ _ _ h => h) (Or.inl ⟨by rfl, ?_⟩) ?_ ?_
               rotate_left
               ·intro w'
                go_simp
                with_reducible rfl
               rotate_left
               ·simp only [Act.put, List.setIfInBounds_toArray, List.set_cons_zero, List.set_cons_succ, i64_w, i32_w]
                rfl
               refine pure_ (i := 25) (N := some 147) (v := ?_) (a' := ?_) KeyRanges.m78 rfl rfl (any_of HT_.out (by kernel_rfl)) (fun _ _ _ h => h) (Or.inl ⟨by rfl, ?_⟩) ?_ ?_
               rotate_left
               ·intro w'
                go_simp
                with_reducible rfl
               rotate_left
               ·simp only [Act.put, List.setIfInBounds_toArray, List.set_cons_zero, List.set_cons_succ, i64_w, i32_w]
                rfl
               refine pure_ (i := 26) (N := some 148) (v := ?_) (a' := ?_) KeyRanges.m79 rfl rfl (any_of HT_.out (by kernel_rfl)) (fun _ _ _ h => h) (Or.inl ⟨by rfl, ?_⟩) ?_ ?_
               rotate_left
               ·intro w'
                go_simp
                with_reducible rfl
               rotate_left
               ·simp only [Act.put, List.setIfInBounds_toArray, List.set_cons_zero, List.set_cons_succ, i64_w, i32_w]
                rfl
               refine pure_ (i := 29) (N := some 151) (v := ?_) (a' := ?_) KeyRanges.m80 rfl rfl (any_of HT_.out (by kernel_rfl)) (fun _ _ _ h => h) (Or.inl ⟨by rfl, ?_⟩) ?_ ?_
               rotate_left
               ·intro w'
                go_simp
                with_reducible rfl
               rotate_left
               ·simp only [Act.put, List.setIfInBounds_toArray, List.set_cons_zero, List.set_cons_succ, i64_w, i32_w]
                rfl
               refine one_ (i := 27) (N := some 149) KeyRanges.m81 rfl rfl (one_of HT_.out (by kernel_rfl)) (by decide) (fun K hK => ?_)
               refine goes_ Tryd.func32 (by kernel_rfl) rfl #[.slice A0 l0.length c0] (by rfl) rfl rfl (by (try simp only [List.map_toArray, List.map_cons, List.map_nil]); first | done | rfl | (simp only [List.length_drop, List.length_take]; rfl)) ?_
               with_reducible refine (key_Blocks.calls kj35 _ _ l0 t349 t350 _ ?side1 ?side2 A178.out).mono ?_
               (case side1 => repeat (first | exact (Kd.C_below HR0.out HB.out) | (with_reducible refine Kd.C_alloc ?_ _) | (with_reducible refine Kd.C_drewN ?_ _) | (with_reducible refine Kd.C_drew ?_)))
               (case side2 => exact HC0.out)
               rintro e w199 ⟨rfl, hb⟩
               refine ⟨_, rfl, ?_⟩
               have n0_ := Aside0.mk (blk_below (g := gb307) (o := .cells #[.int .u8 a2_0, .int .u8 a2_1] 65 (0, 0)) (by (with_reducible repeat (first | refine blk_drewN ?_ _ | refine blk_drew ?_ | refine blk_alloc ?_ _)); exact BK307.out) hb)
               have n1_ := Aside0.mk (blk_below (g := gb317) (o := .cells #[.string t313, .string t314] 49 (0, 0)) (by (with_reducible repeat (first | refine blk_drewN ?_ _ | refine blk_drew ?_ | refine blk_alloc ?_ _)); exact BK317.out) hb)
               have n2_ := Aside0.mk (blk_below (g := gb318) (o := .cells #[.string t315, .string t316] 49 (0, 0)) (by (with_reducible repeat (first | refine blk_drewN ?_ _ | refine blk_drew ?_ | refine blk_alloc ?_ _)); exact BK318.out) hb)
               have n3_ := Aside0.mk (below_step (by repeat (first | (with_reducible first | exact HB.out | apply below_alloc | apply pw_below_drewN | apply below_drew1 | refine below_set ?_ GE307.out | refine below_set ?_ GE317.out | refine below_set ?_ GE318.out) | exact HB.out)) hb)
               clear BK307
               clear BK317
               clear BK318
               clear HB
               have BK307 := n0_
               have BK317 := n1_
               have BK318 := n2_
               have HB := n3_
               clear n0_ n1_ n2_ n3_
               (try clear hb)
               (try clear hb2)
               (try clear hk)
               (try clear hi)
               refine hK.out _ _ ⟨(blk_cell BK318.out 0).trans rfl, (blk_cell BK318.out 1).trans rfl, (blk_cell BK317.out 0).trans rfl, (blk_cell BK317.out 1).trans rfl⟩ (fun hHeld => ?_)
               clear hK K
               refine norm_ (a' := ?_) ?_ ?_
               rotate_left
               ·show Act.put _ (some 149) _ = _
                simp only [Act.put, List.setIfInBounds_toArray, List.set_cons_zero, List.set_cons_succ, i64_w, i32_w]
                rfl
               refine one_ (i := 28) (N := some 150) KeyRanges.m82 rfl rfl (one_of HT_.out (by kernel_rfl)) (by decide) (fun K hK => ?_)
               refine goes_ Tryd.func43 (by kernel_rfl) rfl #[.string t323, .agg #[.string t349, .string t350]] (by rfl) rfl rfl (by (try simp only [List.map_toArray, List.map_cons, List.map_nil]); first | done | rfl | (simp only [List.length_drop, List.length_take]; rfl)) ?_
               with_reducible refine (rillbedlaw06_in.calls t323 t349 t350 t351 _ A179.out).mono ?_
               rintro e w200 ⟨rfl, hb⟩
               refine ⟨_, rfl, ?_⟩
               have n0_ := Aside0.mk (blk_below (g := gb307) (o := .cells #[.int .u8 a2_0, .int .u8 a2_1] 65 (0, 0)) (by (with_reducible repeat (first | refine blk_drewN ?_ _ | refine blk_drew ?_ | refine blk_alloc ?_ _)); exact BK307.out) hb)
               have n1_ := Aside0.mk (blk_below (g := gb317) (o := .cells #[.string t313, .string t314] 49 (0, 0)) (by (with_reducible repeat (first | refine blk_drewN ?_ _ | refine blk_drew ?_ | refine blk_alloc ?_ _)); exact BK317.out) hb)
               have n2_ := Aside0.mk (blk_below (g := gb318) (o := .cells #[.string t315, .string t316] 49 (0, 0)) (by (with_reducible repeat (first | refine blk_drewN ?_ _ | refine blk_drew ?_ | refine blk_alloc ?_ _)); exact BK318.out) hb)
               have n3_ := Aside0.mk (below_step (by repeat (first | (with_reducible first | exact HB.out | apply below_alloc | apply pw_below_drewN | apply below_drew1 | refine below_set ?_ GE307.out | refine below_set ?_ GE317.out | refine below_set ?_ GE318.out) | exact HB.out)) hb)
               clear BK307
               clear BK317
               clear BK318
               clear HB
               have BK307 := n0_
               have BK317 := n1_
               have BK318 := n2_
               have HB := n3_
               clear n0_ n1_ n2_ n3_
               (try clear hb)
               (try clear hb2)
               (try clear hk)
               (try clear hi)
               refine hK.out _ _ ⟨(blk_cell BK318.out 0).trans rfl, (blk_cell BK318.out 1).trans rfl, (blk_cell BK317.out 0).trans rfl, (blk_cell BK317.out 1).trans rfl⟩ (fun hHeld => ?_)
               clear hK K
               refine norm_ (a' := ?_) ?_ ?_
               rotate_left
               ·show Act.put _ (some 150) _ = _
                simp only [Act.put, List.setIfInBounds_toArray, List.set_cons_zero, List.set_cons_succ, i64_w, i32_w]
                rfl
               refine pure_ (i := 30) (N := some 152) (v := ?_) (a' := ?_) KeyRanges.m83 rfl rfl (any_of HT_.out (by kernel_rfl)) (fun _ _ _ h => h) (Or.inl ⟨by rfl, ?_⟩) ?_ ?_
               rotate_left
               ·intro w'
                go_simp
                with_reducible rfl
               rotate_left
               ·simp only [Act.put, List.setIfInBounds_toArray, List.set_cons_zero, List.set_cons_succ, i64_w, i32_w]
                rfl
               refine pure_ (i := 31) (N := some 153) (v := ?_) (a' := ?_) KeyRanges.m84 rfl rfl (any_of HT_.out (by kernel_rfl)) (fun _ _ _ h => h) (Or.inl ⟨by rfl, ?_⟩) ?_ ?_
               rotate_left
               ·intro w'
                go_simp
                with_reducible rfl
               rotate_left
               ·simp only [Act.put, List.setIfInBounds_toArray, List.set_cons_zero, List.set_cons_succ, i64_w, i32_w]
                rfl
               refine done_ (done_of HT_.out (by kernel_rfl)) ?_
               have H := HQX_.out
               clear HQX_
               by_cases c190 : (l0.length : Int) = 0
               ·rw [if_pos c190] at H
                have c190b0 : ((l0.length : Int) == 0) = true := beq_iff_eq.mpr c190
                have c190b1 : ((l0.length : Int) != 0) = false := bne_eq_false_iff_eq.mpr c190
                clear c190
                replace H := Option.bind_eq_some_iff.mp H
                obtain ⟨t352, A1910, H⟩ := H
                replace H : (some t352) = some true := H
                have A191 := Aside0.mk A1910
                clear A1910
                obtain rfl := Option.some.inj H
                try go_wp2_with (first | (go_at_call 27; (with_reducible refine (rillbedlaw06_works.calls kj35  true _ A191.out).mono ?_); rintro e w201 ⟨rfl, hb⟩; have n0_ := Aside0.mk (blk_below (g := gb307) (o := .cells #[.int .u8 a2_0, .int .u8 a2_1] 65 (0, 0)) (by (with_reducible repeat (first | refine blk_drewN ?_ _ | refine blk_drew ?_ | refine blk_alloc ?_ _)); exact BK307.out) hb); have n1_ := Aside0.mk (blk_below (g := gb317) (o := .cells #[.string t313, .string t314] 49 (0, 0)) (by (with_reducible repeat (first | refine blk_drewN ?_ _ | refine blk_drew ?_ | refine blk_alloc ?_ _)); exact BK317.out) hb); have n2_ := Aside0.mk (blk_below (g := gb318) (o := .cells #[.string t315, .string t316] 49 (0, 0)) (by (with_reducible repeat (first | refine blk_drewN ?_ _ | refine blk_drew ?_ | refine blk_alloc ?_ _)); exact BK318.out) hb); have n3_ := Aside0.mk (below_step (by repeat (first | (with_reducible first | exact HB.out | apply below_alloc | apply pw_below_drewN | apply below_drew1 | refine below_set ?_ GE307.out | refine below_set ?_ GE317.out | refine below_set ?_ GE318.out) | exact HB.out)) hb); clear BK307; clear BK317; clear BK318; clear HB; have BK307 := n0_; have BK317 := n1_; have BK318 := n2_; have HB := n3_; clear n0_ n1_ n2_ n3_; (try clear hb); (try clear hb2); (try clear hk); (try clear hi)))
                go_ret
                exact ⟨by first | rfl | (simp [errW_none, errW_some] <;> rfl) | (simp [*, errW_none, errW_some] <;> rfl), by repeat (first | (with_reducible first | exact HB.out | apply below_alloc | apply pw_below_drewN | apply below_drew1 | refine below_set ?_ GE307.out | refine below_set ?_ GE317.out | refine below_set ?_ GE318.out) | exact HB.out)⟩
               ·rw [if_neg c190] at H
                have c190b0 : ((l0.length : Int) == 0) = false := beq_eq_false_iff_ne.mpr c190
                have c190b1 : ((l0.length : Int) != 0) = true := bne_iff_ne.mpr c190
                have c190b2 : ¬ (l0 = []) := fun h_ => c190 (by rw [h_]; rfl)
                by_cases c202 : x12_19 = true
                ·subst c202
                 have H1 : (if ((Op.bytesLess t322.toList t323.toList) == (decide ((wrap64 (Int.tmod a2_0 32)) < (wrap64 (Int.tmod a2_1 32))))) = true then ((rillbedlaw06_works.f kj35).bind fun t353 => (some t353)) else (some false)) = some true := by rw [if_pos rfl] at H; exact H
                 clear H
                 have H := H1
                 clear H1
                 by_cases c203 : ((Op.bytesLess t322.toList t323.toList) == (decide ((wrap64 (Int.tmod a2_0 32)) < (wrap64 (Int.tmod a2_1 32))))) = true
                 ·rw [if_pos c203] at H
                  have c203b0 : ((Op.bytesLess t322.toList t323.toList) == (decide ((wrap64 (Int.tmod a2_0 32)) < (wrap64 (Int.tmod a2_1 32))))) = true := c203
                  (try (have c203b1 : decide ((Op.bytesLess t322.toList t323.toList) = (decide ((wrap64 (Int.tmod a2_0 32)) < (wrap64 (Int.tmod a2_1 32))))) = true := by simpa using c203))
                  (try (have c203b2 : ((Op.bytesLess t322.toList t323.toList) == (decide ((wrap64 (Int.tmod a2_0 32)) < (wrap64 (Int.tmod a2_1 32))))) = true := by simpa using c203))
                  clear c203
                  replace H := Option.bind_eq_some_iff.mp H
                  obtain ⟨t353, A2040, H⟩ := H
                  replace H : (some t353) = some true := H
                  have A204 := Aside0.mk A2040
                  clear A2040
                  obtain rfl := Option.some.inj H
                  try go_wp2_with (first | (go_at_call 27; (with_reducible refine (rillbedlaw06_works.calls kj35  true _ A204.out).mono ?_); rintro e w214 ⟨rfl, hb⟩; have n0_ := Aside0.mk (blk_below (g := gb307) (o := .cells #[.int .u8 a2_0, .int .u8 a2_1] 65 (0, 0)) (by (with_reducible repeat (first | refine blk_drewN ?_ _ | refine blk_drew ?_ | refine blk_alloc ?_ _)); exact BK307.out) hb); have n1_ := Aside0.mk (blk_below (g := gb317) (o := .cells #[.string t313, .string t314] 49 (0, 0)) (by (with_reducible repeat (first | refine blk_drewN ?_ _ | refine blk_drew ?_ | refine blk_alloc ?_ _)); exact BK317.out) hb); have n2_ := Aside0.mk (blk_below (g := gb318) (o := .cells #[.string t315, .string t316] 49 (0, 0)) (by (with_reducible repeat (first | refine blk_drewN ?_ _ | refine blk_drew ?_ | refine blk_alloc ?_ _)); exact BK318.out) hb); have n3_ := Aside0.mk (below_step (by repeat (first | (with_reducible first | exact HB.out | apply below_alloc | apply pw_below_drewN | apply below_drew1 | refine below_set ?_ GE307.out | refine below_set ?_ GE317.out | refine below_set ?_ GE318.out) | exact HB.out)) hb); clear BK307; clear BK317; clear BK318; clear HB; have BK307 := n0_; have BK317 := n1_; have BK318 := n2_; have HB := n3_; clear n0_ n1_ n2_ n3_; (try clear hb); (try clear hb2); (try clear hk); (try clear hi)))
                  go_ret
                  exact ⟨by first | rfl | (simp [errW_none, errW_some] <;> rfl) | (simp [*, errW_none, errW_some] <;> rfl), by repeat (first | (with_reducible first | exact HB.out | apply below_alloc | apply pw_below_drewN | apply below_drew1 | refine below_set ?_ GE307.out | refine below_set ?_ GE317.out | refine below_set ?_ GE318.out) | exact HB.out)⟩
                 ·rw [if_neg c203] at H
                  have c203b0 : ((Op.bytesLess t322.toList t323.toList) == (decide ((wrap64 (Int.tmod a2_0 32)) < (wrap64 (Int.tmod a2_1 32))))) = false := by simpa using c203
                  (try (have c203b1 : decide ((Op.bytesLess t322.toList t323.toList) = (decide ((wrap64 (Int.tmod a2_0 32)) < (wrap64 (Int.tmod a2_1 32))))) = false := by simpa using c203))
                  (try (have c203b2 : ((Op.bytesLess t322.toList t323.toList) == (decide ((wrap64 (Int.tmod a2_0 32)) < (wrap64 (Int.tmod a2_1 32))))) = false := by simpa using c203))
                  (try (have c203b3 : ¬ ((Op.bytesLess t322.toList t323.toList) = (decide ((wrap64 (Int.tmod a2_0 32)) < (wrap64 (Int.tmod a2_1 32))))) := by simpa using c203))
                  clear c203
                  exact absurd (Option.some.inj H) (by decide)
                ·replace c202 := Bool.eq_false_iff.mpr c202
                 subst c202
                 have H1 : (if t322.toList = t323.toList then (some false) else ((rillbedlaw06_works.f kj35).bind fun t354 => (some t354))) = some true := by rw [if_neg (show ¬ (false = true) by decide)] at H; exact H
                 clear H
                 have H := H1
                 clear H1
                 by_cases c224 : t322.toList = t323.toList
                 ·rw [if_pos c224] at H
                  have c224b0 : (t322.toList == t323.toList) = true := beq_iff_eq.mpr c224
                  have c224b1 : (t322.toList != t323.toList) = false := bne_eq_false_iff_eq.mpr c224
                  clear c224
                  exact absurd (Option.some.inj H) (by decide)
                 ·rw [if_neg c224] at H
                  have c224b0 : (t322.toList == t323.toList) = false := beq_eq_false_iff_ne.mpr c224
                  have c224b1 : (t322.toList != t323.toList) = true := bne_iff_ne.mpr c224
                  replace H := Option.bind_eq_some_iff.mp H
                  obtain ⟨t354, A2340, H⟩ := H
                  replace H : (some t354) = some true := H
                  have A234 := Aside0.mk A2340
                  clear A2340
                  obtain rfl := Option.some.inj H
                  try go_wp2_with (first | (go_at_call 27; (with_reducible refine (rillbedlaw06_works.calls kj35  true _ A234.out).mono ?_); rintro e w244 ⟨rfl, hb⟩; have n0_ := Aside0.mk (blk_below (g := gb307) (o := .cells #[.int .u8 a2_0, .int .u8 a2_1] 65 (0, 0)) (by (with_reducible repeat (first | refine blk_drewN ?_ _ | refine blk_drew ?_ | refine blk_alloc ?_ _)); exact BK307.out) hb); have n1_ := Aside0.mk (blk_below (g := gb317) (o := .cells #[.string t313, .string t314] 49 (0, 0)) (by (with_reducible repeat (first | refine blk_drewN ?_ _ | refine blk_drew ?_ | refine blk_alloc ?_ _)); exact BK317.out) hb); have n2_ := Aside0.mk (blk_below (g := gb318) (o := .cells #[.string t315, .string t316] 49 (0, 0)) (by (with_reducible repeat (first | refine blk_drewN ?_ _ | refine blk_drew ?_ | refine blk_alloc ?_ _)); exact BK318.out) hb); have n3_ := Aside0.mk (below_step (by repeat (first | (with_reducible first | exact HB.out | apply below_alloc | apply pw_below_drewN | apply below_drew1 | refine below_set ?_ GE307.out | refine below_set ?_ GE317.out | refine below_set ?_ GE318.out) | exact HB.out)) hb); clear BK307; clear BK317; clear BK318; clear HB; have BK307 := n0_; have BK317 := n1_; have BK318 := n2_; have HB := n3_; clear n0_ n1_ n2_ n3_; (try clear hb); (try clear hb2); (try clear hk); (try clear hi)))
                  go_ret
                  exact ⟨by first | rfl | (simp [errW_none, errW_some] <;> rfl) | (simp [*, errW_none, errW_some] <;> rfl), by repeat (first | (with_reducible first | exact HB.out | apply below_alloc | apply pw_below_drewN | apply below_drew1 | refine below_set ?_ GE307.out | refine below_set ?_ GE317.out | refine below_set ?_ GE318.out) | exact HB.out)⟩
             ·replace c177 := Bool.eq_false_iff.mpr c177
              subst c177
              have H1 : (some false) = some true := by rw [if_neg (show ¬ (false = true) by decide)] at H; exact H
              clear H
              have H := H1
              clear H1
              exact absurd (Option.some.inj H) (by decide)

end Go.Proofs.YthafpbidfgmacaaDoor.Q
