-- Printed by a copy of the print program over stub bodies; what stood in the stubs' place is hand-made (post.py)
import Derived.Test.YthafpbidfgmacaaDoorQ0
import Derived.Test.YthafpbidfgmacaaDoorQB
namespace Go.Proofs.YthafpbidfgmacaaDoor.Q
open Go.RowKit Go.Proofs.YthafpbidfgmacaaDoorW.PrintWords Go.Proofs.YthafpbidfgmacaaDoorW.PrintLast Go.Proofs.YthafpbidfgmacaaDoorW.PrintMore
attribute [local go_sem] max2_int min2_int max_two min_two max_three min_three max_four min_four   -- for this text's walks alone
set_option linter.unusedVariables false
set_option linter.unusedSimpArgs false

/-! ### rillbedref06_Move: function 50 -/
def rillbedref06_Move.j0 : Nat → ByteArray → List ByteArray → List ByteArray → Bool → Option (ByteArray)
  | 0, _, _, _, _ => none
  | k + 1, x0, x1, x2, x40 => if x40 = true then (some x0) else ((rillbedref06_Joint.f k x1).bind fun t295 => (if 1 ≤ (x0.size : Int) then (if ((x0.extract 1 x0.size).size : Int) < (t295.size : Int) then (some x0) else (if 0 ≤ (t295.size : Int) then (if (t295.size : Int) ≤ ((x0.extract 1 x0.size).size : Int) then (if ((x0.extract 1 x0.size).extract 0 ((t295.size : Int) : Int).toNat).toList = t295.toList then (if ((x0.extract 1 x0.size).size : Int) > (t295.size : Int) then (if (t295.size : Int) < ((x0.extract 1 x0.size).size : Int) then (if (bt (x0.extract 1 x0.size) (t295.size : Int)) = 0 then (if 0 ≤ 1 then ((rillbedref06_Joint.f k x2).bind fun t296 => (if (x0.extract 0 1).size + t296.size ≤ 9223372036854775807 then (if ((x0.extract 0 1) ++ t296).size + ((x0.extract 1 x0.size).extract ((t295.size : Int) : Int).toNat (x0.extract 1 x0.size).size).size ≤ 9223372036854775807 then (some (((x0.extract 0 1) ++ t296) ++ ((x0.extract 1 x0.size).extract ((t295.size : Int) : Int).toNat (x0.extract 1 x0.size).size))) else (none)) else (none))) else (none)) else (some x0)) else (none)) else (if 0 ≤ 1 then ((rillbedref06_Joint.f k x2).bind fun t297 => (if (x0.extract 0 1).size + t297.size ≤ 9223372036854775807 then (if ((x0.extract 0 1) ++ t297).size + ((x0.extract 1 x0.size).extract ((t295.size : Int) : Int).toNat (x0.extract 1 x0.size).size).size ≤ 9223372036854775807 then (some (((x0.extract 0 1) ++ t297) ++ ((x0.extract 1 x0.size).extract ((t295.size : Int) : Int).toNat (x0.extract 1 x0.size).size))) else (none)) else (none))) else (none))) else (some x0)) else (none)) else (none))) else (none)))
def rillbedref06_Move.f (k : Nat) (a0 : ByteArray) (l1 : List ByteArray) (l2 : List ByteArray) : Option (ByteArray) := if (l1.length : Int) = 0 then (rillbedref06_Move.j0 k a0 l1 l2 true) else (if (l2.length : Int) = 0 then (rillbedref06_Move.j0 k a0 l1 l2 true) else ((rillbedref06_Right.f k l1).bind fun t293 => (if t293 = true then ((rillbedref06_Right.f k l2).bind fun t294 => (if t294 = true then (if a0.toList = ([] : List UInt8) then (rillbedref06_Move.j0 k a0 l1 l2 true) else (if 0 < (a0.size : Int) then (if (bt a0 0) = 109 then (rillbedref06_Move.j0 k a0 l1 l2 false) else (rillbedref06_Move.j0 k a0 l1 l2 ((bt a0 0) != 100))) else (none))) else (rillbedref06_Move.j0 k a0 l1 l2 true))) else (rillbedref06_Move.j0 k a0 l1 l2 true))))
theorem rillbedref06_Move.mono_l : ∀ k, (∀ y0 y1 y2 y3, LeO (rillbedref06_Move.j0 k y0 y1 y2 y3) (rillbedref06_Move.j0 (k + 1) y0 y1 y2 y3))
  | 0 => fun _ _ _ _ r h => by simp [rillbedref06_Move.j0] at h
  | k + 1 => by
    have ih0 := rillbedref06_Move.mono_l k
    · intro y0 y1 y2 y3
      unfold rillbedref06_Move.j0
      repeat' first
      | (with_reducible exact ih0 _ _ _ _)
      | (with_reducible exact rillbedref06_Joint.mono _ _)
      | (with_reducible exact rillbedref06_Right.mono _ _)
      | (with_reducible exact LeO.refl _)
      | (with_reducible exact LeO.none _)
      | (with_reducible refine LeO.ite ?_ ?_)
      | (with_reducible refine LeO.bind ?_ (fun _ => ?_))
      | exact ih0 _ _ _ _
      | exact rillbedref06_Joint.mono _ _
      | exact rillbedref06_Right.mono _ _
      | exact LeO.none _
      | refine LeO.ite ?_ ?_
      | refine LeO.bind ?_ (fun _ => ?_)
theorem rillbedref06_Move.mono : ∀ a0 a1 a2 k, LeO (rillbedref06_Move.f k a0 a1 a2) (rillbedref06_Move.f (k + 1) a0 a1 a2) := by
  intro a0 a1 a2 k
  have ih0 := rillbedref06_Move.mono_l k
  unfold rillbedref06_Move.f
  repeat' first
      | (with_reducible exact ih0 _ _ _ _)
      | (with_reducible exact rillbedref06_Joint.mono _ _)
      | (with_reducible exact rillbedref06_Right.mono _ _)
      | (with_reducible exact LeO.refl _)
      | (with_reducible exact LeO.none _)
      | (with_reducible refine LeO.ite ?_ ?_)
      | (with_reducible refine LeO.bind ?_ (fun _ => ?_))
      | exact ih0 _ _ _ _
      | exact rillbedref06_Joint.mono _ _
      | exact rillbedref06_Right.mono _ _
      | exact LeO.none _
      | refine LeO.ite ?_ ?_
      | refine LeO.bind ?_ (fun _ => ?_)
set_option maxHeartbeats 8000000 in
set_option maxRecDepth 100000 in
theorem rillbedref06_Move.calls (k : Nat) (a0 : ByteArray) (A1 : Option Addr) (c1 : Nat) (l1 : List ByteArray) (A2 : Option Addr) (c2 : Nat) (l2 : List ByteArray) (r : ByteArray) (w : World) (hr1 : Kd.C Kd.string w A1 l1.length l1) (hc1 : l1.length ≤ c1) (hr2 : Kd.C Kd.string w A2 l2.length l2) (hc2 : l2.length ≤ c2) (h : rillbedref06_Move.f k a0 l1 l2 = some r) :
    Calls Tryd.prog 50 #[.string a0, .slice A1 l1.length c1, .slice A2 l2.length c2] w fun e w' => e = .returned (.string r) ∧ Drawn0 w w' := by
  have HR1 := Aside0.mk hr1
  have HC1 := Aside0.mk hc1
  clear hr1 hc1
  have HR2 := Aside0.mk hr2
  have HC2 := Aside0.mk hc2
  clear hr2 hc2
  have H : (if (l1.length : Int) = 0 then (rillbedref06_Move.j0 k a0 l1 l2 true) else (if (l2.length : Int) = 0 then (rillbedref06_Move.j0 k a0 l1 l2 true) else ((rillbedref06_Right.f k l1).bind fun t293 => (if t293 = true then ((rillbedref06_Right.f k l2).bind fun t294 => (if t294 = true then (if a0.toList = ([] : List UInt8) then (rillbedref06_Move.j0 k a0 l1 l2 true) else (if 0 < (a0.size : Int) then (if (bt a0 0) = 109 then (rillbedref06_Move.j0 k a0 l1 l2 false) else (rillbedref06_Move.j0 k a0 l1 l2 ((bt a0 0) != 100))) else (none))) else (rillbedref06_Move.j0 k a0 l1 l2 true))) else (rillbedref06_Move.j0 k a0 l1 l2 true))))) = some r := h
  clear h
  have HC4 := Aside0.mk H
  clear H
  go_enter Tryd.func50, Tryd.ntmps50
  go_upto_region 1 with (fail)
  repeat (go_quiet (fail); go_upto_region 1 with (fail))
  go_cut [40] (fun v40 wc => ∃ (kq : Nat) (x40_3 : Bool), v40 = .bool x40_3 ∧ Aside0 (rillbedref06_Move.j0 kq a0 l1 l2 x40_3 = some r) ∧ Aside0 (kq ≤ k) ∧ Drawn0 w wc)
  case first =>
    have H := HC4.out
    clear HC4
    by_cases c5 : (l1.length : Int) = 0
    · rw [if_pos c5] at H
      have c5b0 : ((l1.length : Int) == 0) = true := beq_iff_eq.mpr c5
      have c5b1 : ((l1.length : Int) != 0) = false := bne_eq_false_iff_eq.mpr c5
      clear c5
      (first | rw [c5b0] | (simp only [i64_w, i32_w]; rw [c5b0]) | skip)
      have H' := Aside0.mk H
      clear H
      go_wp2
      repeat (go_quiet (fail); try go_wp2)
      go_meet
      case rel => exact ⟨_, (true), (by first | rfl | (simp; done) | (simp [*]; done)), H', ⟨by first | omega | exact Nat.le_refl _⟩, by repeat (first | exact Drawn0.refl _ | apply Drawn0.step)⟩
    · rw [if_neg c5] at H
      have c5b0 : ((l1.length : Int) == 0) = false := beq_eq_false_iff_ne.mpr c5
      have c5b1 : ((l1.length : Int) != 0) = true := bne_iff_ne.mpr c5
      have c5b2 : ¬ (l1 = []) := fun h_ => c5 (by rw [h_]; rfl)
      (first | rw [c5b0] | (simp only [i64_w, i32_w]; rw [c5b0]) | skip)
      by_cases c6 : (l2.length : Int) = 0
      · rw [if_pos c6] at H
        have c6b0 : ((l2.length : Int) == 0) = true := beq_iff_eq.mpr c6
        have c6b1 : ((l2.length : Int) != 0) = false := bne_eq_false_iff_eq.mpr c6
        clear c6
        have H' := Aside0.mk H
        clear H
        go_wp2
        repeat (go_quiet (fail); try go_wp2)
        go_meet
        case rel => exact ⟨_, (true), (by first | rfl | (simp; done) | (simp [*]; done)), H', ⟨by first | omega | exact Nat.le_refl _⟩, by repeat (first | exact Drawn0.refl _ | apply Drawn0.step)⟩
      · rw [if_neg c6] at H
        have c6b0 : ((l2.length : Int) == 0) = false := beq_eq_false_iff_ne.mpr c6
        have c6b1 : ((l2.length : Int) != 0) = true := bne_iff_ne.mpr c6
        have c6b2 : ¬ (l2 = []) := fun h_ => c6 (by rw [h_]; rfl)
        replace H := Option.bind_eq_some_iff.mp H
        obtain ⟨t293, A70, H⟩ := H
        replace H : (if t293 = true then ((rillbedref06_Right.f k l2).bind fun t294 => (if t294 = true then (if a0.toList = ([] : List UInt8) then (rillbedref06_Move.j0 k a0 l1 l2 true) else (if 0 < (a0.size : Int) then (if (bt a0 0) = 109 then (rillbedref06_Move.j0 k a0 l1 l2 false) else (rillbedref06_Move.j0 k a0 l1 l2 ((bt a0 0) != 100))) else (none))) else (rillbedref06_Move.j0 k a0 l1 l2 true))) else (rillbedref06_Move.j0 k a0 l1 l2 true)) = some r := H
        have A7 := Aside0.mk A70
        clear A70
        by_cases c8 : t293 = true
        · subst c8
          have H1 : ((rillbedref06_Right.f k l2).bind fun t294 => (if t294 = true then (if a0.toList = ([] : List UInt8) then (rillbedref06_Move.j0 k a0 l1 l2 true) else (if 0 < (a0.size : Int) then (if (bt a0 0) = 109 then (rillbedref06_Move.j0 k a0 l1 l2 false) else (rillbedref06_Move.j0 k a0 l1 l2 ((bt a0 0) != 100))) else (none))) else (rillbedref06_Move.j0 k a0 l1 l2 true))) = some r := by rw [if_pos rfl] at H; exact H
          clear H
          have H := H1
          clear H1
          replace H := Option.bind_eq_some_iff.mp H
          obtain ⟨t294, A90, H⟩ := H
          replace H : (if t294 = true then (if a0.toList = ([] : List UInt8) then (rillbedref06_Move.j0 k a0 l1 l2 true) else (if 0 < (a0.size : Int) then (if (bt a0 0) = 109 then (rillbedref06_Move.j0 k a0 l1 l2 false) else (rillbedref06_Move.j0 k a0 l1 l2 ((bt a0 0) != 100))) else (none))) else (rillbedref06_Move.j0 k a0 l1 l2 true)) = some r := H
          have A9 := Aside0.mk A90
          clear A90
          by_cases c10 : t294 = true
          · subst c10
            have H1 : (if a0.toList = ([] : List UInt8) then (rillbedref06_Move.j0 k a0 l1 l2 true) else (if 0 < (a0.size : Int) then (if (bt a0 0) = 109 then (rillbedref06_Move.j0 k a0 l1 l2 false) else (rillbedref06_Move.j0 k a0 l1 l2 ((bt a0 0) != 100))) else (none))) = some r := by rw [if_pos rfl] at H; exact H
            clear H
            have H := H1
            clear H1
            by_cases c11 : a0.toList = ([] : List UInt8)
            · rw [if_pos c11] at H
              have c11b0 : (a0.toList == ([] : List UInt8)) = true := beq_iff_eq.mpr c11
              have c11b1 : (a0.toList != ([] : List UInt8)) = false := bne_eq_false_iff_eq.mpr c11
              clear c11
              have H' := Aside0.mk H
              clear H
              go_wp2_with (first | (go_at_call 84; (with_reducible refine (rillbedref06_Right.calls k _ _ l1 true _ ?side1 ?side2 A7.out).mono ?_); (case side1 => repeat (first | exact HR1.out | (with_reducible refine Kd.C_alloc ?_ _) | (with_reducible refine Kd.C_drewN ?_ _) | (with_reducible refine Kd.C_drew ?_))); (case side2 => exact HC1.out); rintro e w' ⟨rfl, ⟨nd, rfl⟩⟩; (try first | exact ⟨rfl, _, World.drewN_drewN _ _ _⟩ | exact ⟨rfl, _, Eq.trans (World.drewN_drewN _ _ _) (congrArg (World.drewN _) (Nat.add_assoc _ _ _))⟩)) | (go_at_call 84; (with_reducible refine (rillbedref06_Right.calls k _ _ l2 true _ ?side1 ?side2 A9.out).mono ?_); (case side1 => repeat (first | exact HR2.out | (with_reducible refine Kd.C_alloc ?_ _) | (with_reducible refine Kd.C_drewN ?_ _) | (with_reducible refine Kd.C_drew ?_))); (case side2 => exact HC2.out); rintro e w' ⟨rfl, ⟨nd, rfl⟩⟩; (try first | exact ⟨rfl, _, World.drewN_drewN _ _ _⟩ | exact ⟨rfl, _, Eq.trans (World.drewN_drewN _ _ _) (congrArg (World.drewN _) (Nat.add_assoc _ _ _))⟩)))
              repeat (go_quiet (first | (go_at_call 84; (with_reducible refine (rillbedref06_Right.calls k _ _ l1 true _ ?side1 ?side2 A7.out).mono ?_); (case side1 => repeat (first | exact HR1.out | (with_reducible refine Kd.C_alloc ?_ _) | (with_reducible refine Kd.C_drewN ?_ _) | (with_reducible refine Kd.C_drew ?_))); (case side2 => exact HC1.out); rintro e w' ⟨rfl, ⟨nd, rfl⟩⟩; (try first | exact ⟨rfl, _, World.drewN_drewN _ _ _⟩ | exact ⟨rfl, _, Eq.trans (World.drewN_drewN _ _ _) (congrArg (World.drewN _) (Nat.add_assoc _ _ _))⟩)) | (go_at_call 84; (with_reducible refine (rillbedref06_Right.calls k _ _ l2 true _ ?side1 ?side2 A9.out).mono ?_); (case side1 => repeat (first | exact HR2.out | (with_reducible refine Kd.C_alloc ?_ _) | (with_reducible refine Kd.C_drewN ?_ _) | (with_reducible refine Kd.C_drew ?_))); (case side2 => exact HC2.out); rintro e w' ⟨rfl, ⟨nd, rfl⟩⟩; (try first | exact ⟨rfl, _, World.drewN_drewN _ _ _⟩ | exact ⟨rfl, _, Eq.trans (World.drewN_drewN _ _ _) (congrArg (World.drewN _) (Nat.add_assoc _ _ _))⟩))); try go_wp2_with (first | (go_at_call 84; (with_reducible refine (rillbedref06_Right.calls k _ _ l1 true _ ?side1 ?side2 A7.out).mono ?_); (case side1 => repeat (first | exact HR1.out | (with_reducible refine Kd.C_alloc ?_ _) | (with_reducible refine Kd.C_drewN ?_ _) | (with_reducible refine Kd.C_drew ?_))); (case side2 => exact HC1.out); rintro e w' ⟨rfl, ⟨nd, rfl⟩⟩; (try first | exact ⟨rfl, _, World.drewN_drewN _ _ _⟩ | exact ⟨rfl, _, Eq.trans (World.drewN_drewN _ _ _) (congrArg (World.drewN _) (Nat.add_assoc _ _ _))⟩)) | (go_at_call 84; (with_reducible refine (rillbedref06_Right.calls k _ _ l2 true _ ?side1 ?side2 A9.out).mono ?_); (case side1 => repeat (first | exact HR2.out | (with_reducible refine Kd.C_alloc ?_ _) | (with_reducible refine Kd.C_drewN ?_ _) | (with_reducible refine Kd.C_drew ?_))); (case side2 => exact HC2.out); rintro e w' ⟨rfl, ⟨nd, rfl⟩⟩; (try first | exact ⟨rfl, _, World.drewN_drewN _ _ _⟩ | exact ⟨rfl, _, Eq.trans (World.drewN_drewN _ _ _) (congrArg (World.drewN _) (Nat.add_assoc _ _ _))⟩))))
              go_meet
              case rel => exact ⟨_, (true), (by first | rfl | (simp; done) | (simp [*]; done)), H', ⟨by first | omega | exact Nat.le_refl _⟩, by repeat (first | exact Drawn0.refl _ | apply Drawn0.step)⟩
            · rw [if_neg c11] at H
              have c11b0 : (a0.toList == ([] : List UInt8)) = false := beq_eq_false_iff_ne.mpr c11
              have c11b1 : (a0.toList != ([] : List UInt8)) = true := bne_iff_ne.mpr c11
              by_cases c12 : 0 < (a0.size : Int)
              · rw [if_pos c12] at H
                have c12b0 : decide (0 < (a0.size : Int)) = true := decide_eq_true c12
                have c12b1 : decide (0 < a0.size) = true := decide_eq_true (by omega)
                clear c12
                by_cases c14 : (bt a0 0) = 109
                · rw [if_pos c14] at H
                  have c14b0 : ((bt a0 0) == 109) = true := beq_iff_eq.mpr c14
                  have c14b1 : ((bt a0 0) != 109) = false := bne_eq_false_iff_eq.mpr c14
                  clear c14
                  have H' := Aside0.mk H
                  clear H
                  go_wp2_with (first | (go_at_call 84; (with_reducible refine (rillbedref06_Right.calls k _ _ l1 true _ ?side1 ?side2 A7.out).mono ?_); (case side1 => repeat (first | exact HR1.out | (with_reducible refine Kd.C_alloc ?_ _) | (with_reducible refine Kd.C_drewN ?_ _) | (with_reducible refine Kd.C_drew ?_))); (case side2 => exact HC1.out); rintro e w' ⟨rfl, ⟨nd, rfl⟩⟩; (try first | exact ⟨rfl, _, World.drewN_drewN _ _ _⟩ | exact ⟨rfl, _, Eq.trans (World.drewN_drewN _ _ _) (congrArg (World.drewN _) (Nat.add_assoc _ _ _))⟩)) | (go_at_call 84; (with_reducible refine (rillbedref06_Right.calls k _ _ l2 true _ ?side1 ?side2 A9.out).mono ?_); (case side1 => repeat (first | exact HR2.out | (with_reducible refine Kd.C_alloc ?_ _) | (with_reducible refine Kd.C_drewN ?_ _) | (with_reducible refine Kd.C_drew ?_))); (case side2 => exact HC2.out); rintro e w' ⟨rfl, ⟨nd, rfl⟩⟩; (try first | exact ⟨rfl, _, World.drewN_drewN _ _ _⟩ | exact ⟨rfl, _, Eq.trans (World.drewN_drewN _ _ _) (congrArg (World.drewN _) (Nat.add_assoc _ _ _))⟩); have p13 : 0 ≤ (0 : Int) := (by omega); have q13 : 0 < a0.size := (by have : (0 : Int) < (a0.size : Int) := of_decide_eq_true (by first | (with_reducible assumption) | assumption); omega); have hx13 : ∀ h : 0 < a0.size, ((a0[0]'h).toNat : Int) = bt a0 0 := bt_at a0 0; clear p13; have qi13 : (0 < (a0.size : Int)) = True := eq_true (of_decide_eq_true (by first | (with_reducible assumption) | assumption)); replace q13 := eq_true q13))
                  repeat (go_quiet (first | (go_at_call 84; (with_reducible refine (rillbedref06_Right.calls k _ _ l1 true _ ?side1 ?side2 A7.out).mono ?_); (case side1 => repeat (first | exact HR1.out | (with_reducible refine Kd.C_alloc ?_ _) | (with_reducible refine Kd.C_drewN ?_ _) | (with_reducible refine Kd.C_drew ?_))); (case side2 => exact HC1.out); rintro e w' ⟨rfl, ⟨nd, rfl⟩⟩; (try first | exact ⟨rfl, _, World.drewN_drewN _ _ _⟩ | exact ⟨rfl, _, Eq.trans (World.drewN_drewN _ _ _) (congrArg (World.drewN _) (Nat.add_assoc _ _ _))⟩)) | (go_at_call 84; (with_reducible refine (rillbedref06_Right.calls k _ _ l2 true _ ?side1 ?side2 A9.out).mono ?_); (case side1 => repeat (first | exact HR2.out | (with_reducible refine Kd.C_alloc ?_ _) | (with_reducible refine Kd.C_drewN ?_ _) | (with_reducible refine Kd.C_drew ?_))); (case side2 => exact HC2.out); rintro e w' ⟨rfl, ⟨nd, rfl⟩⟩; (try first | exact ⟨rfl, _, World.drewN_drewN _ _ _⟩ | exact ⟨rfl, _, Eq.trans (World.drewN_drewN _ _ _) (congrArg (World.drewN _) (Nat.add_assoc _ _ _))⟩); have p13 : 0 ≤ (0 : Int) := (by omega); have q13 : 0 < a0.size := (by have : (0 : Int) < (a0.size : Int) := of_decide_eq_true (by first | (with_reducible assumption) | assumption); omega); have hx13 : ∀ h : 0 < a0.size, ((a0[0]'h).toNat : Int) = bt a0 0 := bt_at a0 0; clear p13; have qi13 : (0 < (a0.size : Int)) = True := eq_true (of_decide_eq_true (by first | (with_reducible assumption) | assumption)); replace q13 := eq_true q13)); try go_wp2_with (first | (go_at_call 84; (with_reducible refine (rillbedref06_Right.calls k _ _ l1 true _ ?side1 ?side2 A7.out).mono ?_); (case side1 => repeat (first | exact HR1.out | (with_reducible refine Kd.C_alloc ?_ _) | (with_reducible refine Kd.C_drewN ?_ _) | (with_reducible refine Kd.C_drew ?_))); (case side2 => exact HC1.out); rintro e w' ⟨rfl, ⟨nd, rfl⟩⟩; (try first | exact ⟨rfl, _, World.drewN_drewN _ _ _⟩ | exact ⟨rfl, _, Eq.trans (World.drewN_drewN _ _ _) (congrArg (World.drewN _) (Nat.add_assoc _ _ _))⟩)) | (go_at_call 84; (with_reducible refine (rillbedref06_Right.calls k _ _ l2 true _ ?side1 ?side2 A9.out).mono ?_); (case side1 => repeat (first | exact HR2.out | (with_reducible refine Kd.C_alloc ?_ _) | (with_reducible refine Kd.C_drewN ?_ _) | (with_reducible refine Kd.C_drew ?_))); (case side2 => exact HC2.out); rintro e w' ⟨rfl, ⟨nd, rfl⟩⟩; (try first | exact ⟨rfl, _, World.drewN_drewN _ _ _⟩ | exact ⟨rfl, _, Eq.trans (World.drewN_drewN _ _ _) (congrArg (World.drewN _) (Nat.add_assoc _ _ _))⟩); have p13 : 0 ≤ (0 : Int) := (by omega); have q13 : 0 < a0.size := (by have : (0 : Int) < (a0.size : Int) := of_decide_eq_true (by first | (with_reducible assumption) | assumption); omega); have hx13 : ∀ h : 0 < a0.size, ((a0[0]'h).toNat : Int) = bt a0 0 := bt_at a0 0; clear p13; have qi13 : (0 < (a0.size : Int)) = True := eq_true (of_decide_eq_true (by first | (with_reducible assumption) | assumption)); replace q13 := eq_true q13)))
                  go_meet
                  case rel => exact ⟨_, (false), (by first | rfl | (simp; done) | (simp [*]; done)), H', ⟨by first | omega | exact Nat.le_refl _⟩, by repeat (first | exact Drawn0.refl _ | apply Drawn0.step)⟩
                · rw [if_neg c14] at H
                  have c14b0 : ((bt a0 0) == 109) = false := beq_eq_false_iff_ne.mpr c14
                  have c14b1 : ((bt a0 0) != 109) = true := bne_iff_ne.mpr c14
                  have H' := Aside0.mk H
                  clear H
                  go_wp2_with (first | (go_at_call 84; (with_reducible refine (rillbedref06_Right.calls k _ _ l1 true _ ?side1 ?side2 A7.out).mono ?_); (case side1 => repeat (first | exact HR1.out | (with_reducible refine Kd.C_alloc ?_ _) | (with_reducible refine Kd.C_drewN ?_ _) | (with_reducible refine Kd.C_drew ?_))); (case side2 => exact HC1.out); rintro e w' ⟨rfl, ⟨nd, rfl⟩⟩; (try first | exact ⟨rfl, _, World.drewN_drewN _ _ _⟩ | exact ⟨rfl, _, Eq.trans (World.drewN_drewN _ _ _) (congrArg (World.drewN _) (Nat.add_assoc _ _ _))⟩)) | (go_at_call 84; (with_reducible refine (rillbedref06_Right.calls k _ _ l2 true _ ?side1 ?side2 A9.out).mono ?_); (case side1 => repeat (first | exact HR2.out | (with_reducible refine Kd.C_alloc ?_ _) | (with_reducible refine Kd.C_drewN ?_ _) | (with_reducible refine Kd.C_drew ?_))); (case side2 => exact HC2.out); rintro e w' ⟨rfl, ⟨nd, rfl⟩⟩; (try first | exact ⟨rfl, _, World.drewN_drewN _ _ _⟩ | exact ⟨rfl, _, Eq.trans (World.drewN_drewN _ _ _) (congrArg (World.drewN _) (Nat.add_assoc _ _ _))⟩); have p13 : 0 ≤ (0 : Int) := (by omega); have q13 : 0 < a0.size := (by have : (0 : Int) < (a0.size : Int) := of_decide_eq_true (by first | (with_reducible assumption) | assumption); omega); have hx13 : ∀ h : 0 < a0.size, ((a0[0]'h).toNat : Int) = bt a0 0 := bt_at a0 0; clear p13; have qi13 : (0 < (a0.size : Int)) = True := eq_true (of_decide_eq_true (by first | (with_reducible assumption) | assumption)); replace q13 := eq_true q13; have p15 : 0 ≤ (0 : Int) := (by omega); have q15 : 0 < a0.size := (by have : (0 : Int) < (a0.size : Int) := of_decide_eq_true (by first | (with_reducible assumption) | assumption); omega); have hx15 : ∀ h : 0 < a0.size, ((a0[0]'h).toNat : Int) = bt a0 0 := bt_at a0 0; clear p15; have qi15 : (0 < (a0.size : Int)) = True := eq_true (of_decide_eq_true (by first | (with_reducible assumption) | assumption)); replace q15 := eq_true q15))
                  repeat (go_quiet (first | (go_at_call 84; (with_reducible refine (rillbedref06_Right.calls k _ _ l1 true _ ?side1 ?side2 A7.out).mono ?_); (case side1 => repeat (first | exact HR1.out | (with_reducible refine Kd.C_alloc ?_ _) | (with_reducible refine Kd.C_drewN ?_ _) | (with_reducible refine Kd.C_drew ?_))); (case side2 => exact HC1.out); rintro e w' ⟨rfl, ⟨nd, rfl⟩⟩; (try first | exact ⟨rfl, _, World.drewN_drewN _ _ _⟩ | exact ⟨rfl, _, Eq.trans (World.drewN_drewN _ _ _) (congrArg (World.drewN _) (Nat.add_assoc _ _ _))⟩)) | (go_at_call 84; (with_reducible refine (rillbedref06_Right.calls k _ _ l2 true _ ?side1 ?side2 A9.out).mono ?_); (case side1 => repeat (first | exact HR2.out | (with_reducible refine Kd.C_alloc ?_ _) | (with_reducible refine Kd.C_drewN ?_ _) | (with_reducible refine Kd.C_drew ?_))); (case side2 => exact HC2.out); rintro e w' ⟨rfl, ⟨nd, rfl⟩⟩; (try first | exact ⟨rfl, _, World.drewN_drewN _ _ _⟩ | exact ⟨rfl, _, Eq.trans (World.drewN_drewN _ _ _) (congrArg (World.drewN _) (Nat.add_assoc _ _ _))⟩); have p13 : 0 ≤ (0 : Int) := (by omega); have q13 : 0 < a0.size := (by have : (0 : Int) < (a0.size : Int) := of_decide_eq_true (by first | (with_reducible assumption) | assumption); omega); have hx13 : ∀ h : 0 < a0.size, ((a0[0]'h).toNat : Int) = bt a0 0 := bt_at a0 0; clear p13; have qi13 : (0 < (a0.size : Int)) = True := eq_true (of_decide_eq_true (by first | (with_reducible assumption) | assumption)); replace q13 := eq_true q13; have p15 : 0 ≤ (0 : Int) := (by omega); have q15 : 0 < a0.size := (by have : (0 : Int) < (a0.size : Int) := of_decide_eq_true (by first | (with_reducible assumption) | assumption); omega); have hx15 : ∀ h : 0 < a0.size, ((a0[0]'h).toNat : Int) = bt a0 0 := bt_at a0 0; clear p15; have qi15 : (0 < (a0.size : Int)) = True := eq_true (of_decide_eq_true (by first | (with_reducible assumption) | assumption)); replace q15 := eq_true q15)); try go_wp2_with (first | (go_at_call 84; (with_reducible refine (rillbedref06_Right.calls k _ _ l1 true _ ?side1 ?side2 A7.out).mono ?_); (case side1 => repeat (first | exact HR1.out | (with_reducible refine Kd.C_alloc ?_ _) | (with_reducible refine Kd.C_drewN ?_ _) | (with_reducible refine Kd.C_drew ?_))); (case side2 => exact HC1.out); rintro e w' ⟨rfl, ⟨nd, rfl⟩⟩; (try first | exact ⟨rfl, _, World.drewN_drewN _ _ _⟩ | exact ⟨rfl, _, Eq.trans (World.drewN_drewN _ _ _) (congrArg (World.drewN _) (Nat.add_assoc _ _ _))⟩)) | (go_at_call 84; (with_reducible refine (rillbedref06_Right.calls k _ _ l2 true _ ?side1 ?side2 A9.out).mono ?_); (case side1 => repeat (first | exact HR2.out | (with_reducible refine Kd.C_alloc ?_ _) | (with_reducible refine Kd.C_drewN ?_ _) | (with_reducible refine Kd.C_drew ?_))); (case side2 => exact HC2.out); rintro e w' ⟨rfl, ⟨nd, rfl⟩⟩; (try first | exact ⟨rfl, _, World.drewN_drewN _ _ _⟩ | exact ⟨rfl, _, Eq.trans (World.drewN_drewN _ _ _) (congrArg (World.drewN _) (Nat.add_assoc _ _ _))⟩); have p13 : 0 ≤ (0 : Int) := (by omega); have q13 : 0 < a0.size := (by have : (0 : Int) < (a0.size : Int) := of_decide_eq_true (by first | (with_reducible assumption) | assumption); omega); have hx13 : ∀ h : 0 < a0.size, ((a0[0]'h).toNat : Int) = bt a0 0 := bt_at a0 0; clear p13; have qi13 : (0 < (a0.size : Int)) = True := eq_true (of_decide_eq_true (by first | (with_reducible assumption) | assumption)); replace q13 := eq_true q13; have p15 : 0 ≤ (0 : Int) := (by omega); have q15 : 0 < a0.size := (by have : (0 : Int) < (a0.size : Int) := of_decide_eq_true (by first | (with_reducible assumption) | assumption); omega); have hx15 : ∀ h : 0 < a0.size, ((a0[0]'h).toNat : Int) = bt a0 0 := bt_at a0 0; clear p15; have qi15 : (0 < (a0.size : Int)) = True := eq_true (of_decide_eq_true (by first | (with_reducible assumption) | assumption)); replace q15 := eq_true q15)))
                  go_meet
                  case rel => exact ⟨_, (((bt a0 0) != 100)), (by first | rfl | (simp; done) | (simp [*]; done)), H', ⟨by first | omega | exact Nat.le_refl _⟩, by repeat (first | exact Drawn0.refl _ | apply Drawn0.step)⟩
              · rw [if_neg c12] at H
                exact absurd H (by simp)
          · replace c10 := Bool.eq_false_iff.mpr c10
            subst c10
            have H1 : (rillbedref06_Move.j0 k a0 l1 l2 true) = some r := by rw [if_neg (show ¬ (false = true) by decide)] at H; exact H
            clear H
            have H := H1
            clear H1
            have H' := Aside0.mk H
            clear H
            go_wp2_with (first | (go_at_call 84; (with_reducible refine (rillbedref06_Right.calls k _ _ l1 true _ ?side1 ?side2 A7.out).mono ?_); (case side1 => repeat (first | exact HR1.out | (with_reducible refine Kd.C_alloc ?_ _) | (with_reducible refine Kd.C_drewN ?_ _) | (with_reducible refine Kd.C_drew ?_))); (case side2 => exact HC1.out); rintro e w' ⟨rfl, ⟨nd, rfl⟩⟩; (try first | exact ⟨rfl, _, World.drewN_drewN _ _ _⟩ | exact ⟨rfl, _, Eq.trans (World.drewN_drewN _ _ _) (congrArg (World.drewN _) (Nat.add_assoc _ _ _))⟩)) | (go_at_call 84; (with_reducible refine (rillbedref06_Right.calls k _ _ l2 false _ ?side1 ?side2 A9.out).mono ?_); (case side1 => repeat (first | exact HR2.out | (with_reducible refine Kd.C_alloc ?_ _) | (with_reducible refine Kd.C_drewN ?_ _) | (with_reducible refine Kd.C_drew ?_))); (case side2 => exact HC2.out); rintro e w' ⟨rfl, ⟨nd, rfl⟩⟩; (try first | exact ⟨rfl, _, World.drewN_drewN _ _ _⟩ | exact ⟨rfl, _, Eq.trans (World.drewN_drewN _ _ _) (congrArg (World.drewN _) (Nat.add_assoc _ _ _))⟩)))
            repeat (go_quiet (first | (go_at_call 84; (with_reducible refine (rillbedref06_Right.calls k _ _ l1 true _ ?side1 ?side2 A7.out).mono ?_); (case side1 => repeat (first | exact HR1.out | (with_reducible refine Kd.C_alloc ?_ _) | (with_reducible refine Kd.C_drewN ?_ _) | (with_reducible refine Kd.C_drew ?_))); (case side2 => exact HC1.out); rintro e w' ⟨rfl, ⟨nd, rfl⟩⟩; (try first | exact ⟨rfl, _, World.drewN_drewN _ _ _⟩ | exact ⟨rfl, _, Eq.trans (World.drewN_drewN _ _ _) (congrArg (World.drewN _) (Nat.add_assoc _ _ _))⟩)) | (go_at_call 84; (with_reducible refine (rillbedref06_Right.calls k _ _ l2 false _ ?side1 ?side2 A9.out).mono ?_); (case side1 => repeat (first | exact HR2.out | (with_reducible refine Kd.C_alloc ?_ _) | (with_reducible refine Kd.C_drewN ?_ _) | (with_reducible refine Kd.C_drew ?_))); (case side2 => exact HC2.out); rintro e w' ⟨rfl, ⟨nd, rfl⟩⟩; (try first | exact ⟨rfl, _, World.drewN_drewN _ _ _⟩ | exact ⟨rfl, _, Eq.trans (World.drewN_drewN _ _ _) (congrArg (World.drewN _) (Nat.add_assoc _ _ _))⟩))); try go_wp2_with (first | (go_at_call 84; (with_reducible refine (rillbedref06_Right.calls k _ _ l1 true _ ?side1 ?side2 A7.out).mono ?_); (case side1 => repeat (first | exact HR1.out | (with_reducible refine Kd.C_alloc ?_ _) | (with_reducible refine Kd.C_drewN ?_ _) | (with_reducible refine Kd.C_drew ?_))); (case side2 => exact HC1.out); rintro e w' ⟨rfl, ⟨nd, rfl⟩⟩; (try first | exact ⟨rfl, _, World.drewN_drewN _ _ _⟩ | exact ⟨rfl, _, Eq.trans (World.drewN_drewN _ _ _) (congrArg (World.drewN _) (Nat.add_assoc _ _ _))⟩)) | (go_at_call 84; (with_reducible refine (rillbedref06_Right.calls k _ _ l2 false _ ?side1 ?side2 A9.out).mono ?_); (case side1 => repeat (first | exact HR2.out | (with_reducible refine Kd.C_alloc ?_ _) | (with_reducible refine Kd.C_drewN ?_ _) | (with_reducible refine Kd.C_drew ?_))); (case side2 => exact HC2.out); rintro e w' ⟨rfl, ⟨nd, rfl⟩⟩; (try first | exact ⟨rfl, _, World.drewN_drewN _ _ _⟩ | exact ⟨rfl, _, Eq.trans (World.drewN_drewN _ _ _) (congrArg (World.drewN _) (Nat.add_assoc _ _ _))⟩))))
            go_meet
            case rel => exact ⟨_, (true), (by first | rfl | (simp; done) | (simp [*]; done)), H', ⟨by first | omega | exact Nat.le_refl _⟩, by repeat (first | exact Drawn0.refl _ | apply Drawn0.step)⟩
        · replace c8 := Bool.eq_false_iff.mpr c8
          subst c8
          have H1 : (rillbedref06_Move.j0 k a0 l1 l2 true) = some r := by rw [if_neg (show ¬ (false = true) by decide)] at H; exact H
          clear H
          have H := H1
          clear H1
          have H' := Aside0.mk H
          clear H
          go_wp2_with (first | (go_at_call 84; (with_reducible refine (rillbedref06_Right.calls k _ _ l1 false _ ?side1 ?side2 A7.out).mono ?_); (case side1 => repeat (first | exact HR1.out | (with_reducible refine Kd.C_alloc ?_ _) | (with_reducible refine Kd.C_drewN ?_ _) | (with_reducible refine Kd.C_drew ?_))); (case side2 => exact HC1.out); rintro e w' ⟨rfl, ⟨nd, rfl⟩⟩; (try first | exact ⟨rfl, _, World.drewN_drewN _ _ _⟩ | exact ⟨rfl, _, Eq.trans (World.drewN_drewN _ _ _) (congrArg (World.drewN _) (Nat.add_assoc _ _ _))⟩)))
          repeat (go_quiet (first | (go_at_call 84; (with_reducible refine (rillbedref06_Right.calls k _ _ l1 false _ ?side1 ?side2 A7.out).mono ?_); (case side1 => repeat (first | exact HR1.out | (with_reducible refine Kd.C_alloc ?_ _) | (with_reducible refine Kd.C_drewN ?_ _) | (with_reducible refine Kd.C_drew ?_))); (case side2 => exact HC1.out); rintro e w' ⟨rfl, ⟨nd, rfl⟩⟩; (try first | exact ⟨rfl, _, World.drewN_drewN _ _ _⟩ | exact ⟨rfl, _, Eq.trans (World.drewN_drewN _ _ _) (congrArg (World.drewN _) (Nat.add_assoc _ _ _))⟩))); try go_wp2_with (first | (go_at_call 84; (with_reducible refine (rillbedref06_Right.calls k _ _ l1 false _ ?side1 ?side2 A7.out).mono ?_); (case side1 => repeat (first | exact HR1.out | (with_reducible refine Kd.C_alloc ?_ _) | (with_reducible refine Kd.C_drewN ?_ _) | (with_reducible refine Kd.C_drew ?_))); (case side2 => exact HC1.out); rintro e w' ⟨rfl, ⟨nd, rfl⟩⟩; (try first | exact ⟨rfl, _, World.drewN_drewN _ _ _⟩ | exact ⟨rfl, _, Eq.trans (World.drewN_drewN _ _ _) (congrArg (World.drewN _) (Nat.add_assoc _ _ _))⟩))))
          go_meet
          case rel => exact ⟨_, (true), (by first | rfl | (simp; done) | (simp [*]; done)), H', ⟨by first | omega | exact Nat.le_refl _⟩, by repeat (first | exact Drawn0.refl _ | apply Drawn0.step)⟩
  case rest =>
    clear HC4
    try clear c1
    try clear p1
    try clear q1
    try clear hx1
    try clear qi1
    try clear c2
    try clear p2
    try clear c5
    try clear c5b0
    try clear c5b1
    try clear c5b2
    try clear c6
    try clear c6b0
    try clear c6b1
    try clear c6b2
    try clear c8
    try clear c10
    try clear c11
    try clear c11b0
    try clear c11b1
    try clear c12
    try clear c12b0
    try clear c12b1
    try clear p13
    try clear q13
    try clear hx13
    try clear qi13
    try clear c14
    try clear c14b0
    try clear c14b1
    try clear p15
    try clear q15
    try clear hx15
    try clear qi15
    try clear p13
    try clear p15
    try clear q13
    try clear q15
    obtain ⟨kq, x40_3, rfl, HA, HJ3, ⟨mc3, rfl⟩⟩ := hcut
    cases kq with
    | zero => exact absurd HA.out (by simp [rillbedref06_Move.j0])
    | succ kj3 =>
      have H := HA.out
      clear HA
      simp only [rillbedref06_Move.j0] at H
      by_cases c16 : x40_3 = true
      · subst c16
        have H1 : (some a0) = some r := by rw [if_pos rfl] at H; exact H
        clear H
        have H := H1
        clear H1
        obtain rfl := Option.some.inj H
        go_wp2
        repeat (go_quiet (fail); try go_wp2)
        go_ret
        exact ⟨by first | rfl | (simp; done) | (simp [*]; done), by repeat (first | exact Drawn0.refl _ | apply Drawn0.step)⟩
      · replace c16 := Bool.eq_false_iff.mpr c16
        subst c16
        have H1 : ((rillbedref06_Joint.f kj3 l1).bind fun t295 => (if 1 ≤ (a0.size : Int) then (if ((a0.extract 1 a0.size).size : Int) < (t295.size : Int) then (some a0) else (if 0 ≤ (t295.size : Int) then (if (t295.size : Int) ≤ ((a0.extract 1 a0.size).size : Int) then (if ((a0.extract 1 a0.size).extract 0 ((t295.size : Int) : Int).toNat).toList = t295.toList then (if ((a0.extract 1 a0.size).size : Int) > (t295.size : Int) then (if (t295.size : Int) < ((a0.extract 1 a0.size).size : Int) then (if (bt (a0.extract 1 a0.size) (t295.size : Int)) = 0 then (if 0 ≤ 1 then ((rillbedref06_Joint.f kj3 l2).bind fun t296 => (if (a0.extract 0 1).size + t296.size ≤ 9223372036854775807 then (if ((a0.extract 0 1) ++ t296).size + ((a0.extract 1 a0.size).extract ((t295.size : Int) : Int).toNat (a0.extract 1 a0.size).size).size ≤ 9223372036854775807 then (some (((a0.extract 0 1) ++ t296) ++ ((a0.extract 1 a0.size).extract ((t295.size : Int) : Int).toNat (a0.extract 1 a0.size).size))) else (none)) else (none))) else (none)) else (some a0)) else (none)) else (if 0 ≤ 1 then ((rillbedref06_Joint.f kj3 l2).bind fun t297 => (if (a0.extract 0 1).size + t297.size ≤ 9223372036854775807 then (if ((a0.extract 0 1) ++ t297).size + ((a0.extract 1 a0.size).extract ((t295.size : Int) : Int).toNat (a0.extract 1 a0.size).size).size ≤ 9223372036854775807 then (some (((a0.extract 0 1) ++ t297) ++ ((a0.extract 1 a0.size).extract ((t295.size : Int) : Int).toNat (a0.extract 1 a0.size).size))) else (none)) else (none))) else (none))) else (some a0)) else (none)) else (none))) else (none))) = some r := by rw [if_neg (show ¬ (false = true) by decide)] at H; exact H
        clear H
        have H := H1
        clear H1
        replace H := Option.bind_eq_some_iff.mp H
        obtain ⟨t295, A170, H⟩ := H
        replace H : (if 1 ≤ (a0.size : Int) then (if ((a0.extract 1 a0.size).size : Int) < (t295.size : Int) then (some a0) else (if 0 ≤ (t295.size : Int) then (if (t295.size : Int) ≤ ((a0.extract 1 a0.size).size : Int) then (if ((a0.extract 1 a0.size).extract 0 ((t295.size : Int) : Int).toNat).toList = t295.toList then (if ((a0.extract 1 a0.size).size : Int) > (t295.size : Int) then (if (t295.size : Int) < ((a0.extract 1 a0.size).size : Int) then (if (bt (a0.extract 1 a0.size) (t295.size : Int)) = 0 then (if 0 ≤ 1 then ((rillbedref06_Joint.f kj3 l2).bind fun t296 => (if (a0.extract 0 1).size + t296.size ≤ 9223372036854775807 then (if ((a0.extract 0 1) ++ t296).size + ((a0.extract 1 a0.size).extract ((t295.size : Int) : Int).toNat (a0.extract 1 a0.size).size).size ≤ 9223372036854775807 then (some (((a0.extract 0 1) ++ t296) ++ ((a0.extract 1 a0.size).extract ((t295.size : Int) : Int).toNat (a0.extract 1 a0.size).size))) else (none)) else (none))) else (none)) else (some a0)) else (none)) else (if 0 ≤ 1 then ((rillbedref06_Joint.f kj3 l2).bind fun t297 => (if (a0.extract 0 1).size + t297.size ≤ 9223372036854775807 then (if ((a0.extract 0 1) ++ t297).size + ((a0.extract 1 a0.size).extract ((t295.size : Int) : Int).toNat (a0.extract 1 a0.size).size).size ≤ 9223372036854775807 then (some (((a0.extract 0 1) ++ t297) ++ ((a0.extract 1 a0.size).extract ((t295.size : Int) : Int).toNat (a0.extract 1 a0.size).size))) else (none)) else (none))) else (none))) else (some a0)) else (none)) else (none))) else (none)) = some r := H
        have A17 := Aside0.mk A170
        clear A170
        by_cases c18 : 1 ≤ (a0.size : Int)
        · rw [if_pos c18] at H
          have c18b0 := eq_true c18
          have c18b1 : decide (1 ≤ (a0.size : Int)) = true := decide_eq_true c18
          clear c18
          obtain ⟨s8, hs8⟩ : ∃ s_ : ByteArray, a0.extract 1 a0.size = s_ := ⟨_, rfl⟩
          rw [hs8] at H
          have HS8 := Aside0.mk hs8
          clear hs8
          by_cases c19 : (s8.size : Int) < (t295.size : Int)
          · rw [if_pos c19] at H
            have c19b0 : decide ((s8.size : Int) < (t295.size : Int)) = true := decide_eq_true c19
            try (have c19b0w := c19b0; simp only [ByteArray.size_append, ByteArray.size_extract, Nat.min_self, Nat.sub_zero, szl1, szl2, szl3, szl4] at c19b0w)
            have c19b1 : decide (s8.size < t295.size) = true := decide_eq_true (Int.ofNat_lt.mp c19)
            try (have c19b1w := c19b1; simp only [ByteArray.size_append, ByteArray.size_extract, Nat.min_self, Nat.sub_zero, szl1, szl2, szl3, szl4] at c19b1w)
            clear c19
            obtain rfl := Option.some.inj H
            go_upto_region 5 with (first | (go_at_call 86; (with_reducible refine (rillbedref06_Joint.calls kj3 _ _ l1 t295 _ ?side1 ?side2 A17.out).mono ?_); (case side1 => repeat (first | exact HR1.out | (with_reducible refine Kd.C_alloc ?_ _) | (with_reducible refine Kd.C_drewN ?_ _) | (with_reducible refine Kd.C_drew ?_))); (case side2 => exact HC1.out); rintro e w' ⟨rfl, ⟨nd, rfl⟩⟩; (try first | exact ⟨rfl, _, World.drewN_drewN _ _ _⟩ | exact ⟨rfl, _, Eq.trans (World.drewN_drewN _ _ _) (congrArg (World.drewN _) (Nat.add_assoc _ _ _))⟩)))
            rw [HS8.out]
            go_wp2_with (first | (go_at_call 86; (with_reducible refine (rillbedref06_Joint.calls kj3 _ _ l1 t295 _ ?side1 ?side2 A17.out).mono ?_); (case side1 => repeat (first | exact HR1.out | (with_reducible refine Kd.C_alloc ?_ _) | (with_reducible refine Kd.C_drewN ?_ _) | (with_reducible refine Kd.C_drew ?_))); (case side2 => exact HC1.out); rintro e w' ⟨rfl, ⟨nd, rfl⟩⟩; (try first | exact ⟨rfl, _, World.drewN_drewN _ _ _⟩ | exact ⟨rfl, _, Eq.trans (World.drewN_drewN _ _ _) (congrArg (World.drewN _) (Nat.add_assoc _ _ _))⟩)))
            repeat (go_quiet (first | (go_at_call 86; (with_reducible refine (rillbedref06_Joint.calls kj3 _ _ l1 t295 _ ?side1 ?side2 A17.out).mono ?_); (case side1 => repeat (first | exact HR1.out | (with_reducible refine Kd.C_alloc ?_ _) | (with_reducible refine Kd.C_drewN ?_ _) | (with_reducible refine Kd.C_drew ?_))); (case side2 => exact HC1.out); rintro e w' ⟨rfl, ⟨nd, rfl⟩⟩; (try first | exact ⟨rfl, _, World.drewN_drewN _ _ _⟩ | exact ⟨rfl, _, Eq.trans (World.drewN_drewN _ _ _) (congrArg (World.drewN _) (Nat.add_assoc _ _ _))⟩))); try go_wp2_with (first | (go_at_call 86; (with_reducible refine (rillbedref06_Joint.calls kj3 _ _ l1 t295 _ ?side1 ?side2 A17.out).mono ?_); (case side1 => repeat (first | exact HR1.out | (with_reducible refine Kd.C_alloc ?_ _) | (with_reducible refine Kd.C_drewN ?_ _) | (with_reducible refine Kd.C_drew ?_))); (case side2 => exact HC1.out); rintro e w' ⟨rfl, ⟨nd, rfl⟩⟩; (try first | exact ⟨rfl, _, World.drewN_drewN _ _ _⟩ | exact ⟨rfl, _, Eq.trans (World.drewN_drewN _ _ _) (congrArg (World.drewN _) (Nat.add_assoc _ _ _))⟩))))
            go_ret
            exact ⟨by first | rfl | (simp; done) | (simp [*]; done), by repeat (first | exact Drawn0.refl _ | apply Drawn0.step)⟩
          · rw [if_neg c19] at H
            have c19b0 : decide ((s8.size : Int) < (t295.size : Int)) = false := decide_eq_false c19
            try (have c19b0w := c19b0; simp only [ByteArray.size_append, ByteArray.size_extract, Nat.min_self, Nat.sub_zero, szl1, szl2, szl3, szl4] at c19b0w)
            have c19b1 : decide (s8.size < t295.size) = false := decide_eq_false (fun h => c19 (Int.ofNat_lt.mpr h))
            try (have c19b1w := c19b1; simp only [ByteArray.size_append, ByteArray.size_extract, Nat.min_self, Nat.sub_zero, szl1, szl2, szl3, szl4] at c19b1w)
            clear c19
            by_cases c20 : 0 ≤ (t295.size : Int)
            · rw [if_pos c20] at H
              have c20b0 := eq_true c20
              have c20b1 : decide (0 ≤ (t295.size : Int)) = true := decide_eq_true c20
              clear c20
              by_cases c21 : (t295.size : Int) ≤ (s8.size : Int)
              · rw [if_pos c21] at H
                have c21b0 := eq_true c21
                try (have c21b0w := c21b0; simp only [ByteArray.size_append, ByteArray.size_extract, Nat.min_self, Nat.sub_zero, szl1, szl2, szl3, szl4] at c21b0w)
                have c21b1 : decide ((t295.size : Int) ≤ (s8.size : Int)) = true := decide_eq_true c21
                try (have c21b1w := c21b1; simp only [ByteArray.size_append, ByteArray.size_extract, Nat.min_self, Nat.sub_zero, szl1, szl2, szl3, szl4] at c21b1w)
                clear c21
                by_cases c22 : (s8.extract 0 ((t295.size : Int) : Int).toNat).toList = t295.toList
                · rw [if_pos c22] at H
                  have c22b0 : ((s8.extract 0 ((t295.size : Int) : Int).toNat).toList == t295.toList) = true := beq_iff_eq.mpr c22
                  try (have c22b0v := c22b0; simp only [Int.toNat_natCast] at c22b0v)
                  have c22b1 : ((s8.extract 0 ((t295.size : Int) : Int).toNat).toList != t295.toList) = false := bne_eq_false_iff_eq.mpr c22
                  try (have c22b1v := c22b1; simp only [Int.toNat_natCast] at c22b1v)
                  clear c22
                  by_cases c23 : (s8.size : Int) > (t295.size : Int)
                  · rw [if_pos c23] at H
                    have c23b0 : decide ((t295.size : Int) < (s8.size : Int)) = true := decide_eq_true c23
                    try (have c23b0w := c23b0; simp only [ByteArray.size_append, ByteArray.size_extract, Nat.min_self, Nat.sub_zero, szl1, szl2, szl3, szl4] at c23b0w)
                    have c23b1 : decide (t295.size < s8.size) = true := decide_eq_true (Int.ofNat_lt.mp c23)
                    try (have c23b1w := c23b1; simp only [ByteArray.size_append, ByteArray.size_extract, Nat.min_self, Nat.sub_zero, szl1, szl2, szl3, szl4] at c23b1w)
                    clear c23
                    by_cases c24 : (t295.size : Int) < (s8.size : Int)
                    · rw [if_pos c24] at H
                      have c24b0 : decide ((t295.size : Int) < (s8.size : Int)) = true := decide_eq_true c24
                      try (have c24b0w := c24b0; simp only [ByteArray.size_append, ByteArray.size_extract, Nat.min_self, Nat.sub_zero, szl1, szl2, szl3, szl4] at c24b0w)
                      have c24b1 : decide (t295.size < s8.size) = true := decide_eq_true (Int.ofNat_lt.mp c24)
                      try (have c24b1w := c24b1; simp only [ByteArray.size_append, ByteArray.size_extract, Nat.min_self, Nat.sub_zero, szl1, szl2, szl3, szl4] at c24b1w)
                      clear c24
                      by_cases c26 : (bt s8 (t295.size : Int)) = 0
                      · rw [if_pos c26] at H
                        have c26b0 : ((bt s8 (t295.size : Int)) == 0) = true := beq_iff_eq.mpr c26
                        have c26b1 : ((bt s8 (t295.size : Int)) != 0) = false := bne_eq_false_iff_eq.mpr c26
                        clear c26
                        by_cases c27 : 0 ≤ 1
                        · rw [if_pos c27] at H
                          have c27b0 := eq_true c27
                          have c27b1 : decide (0 ≤ 1) = true := decide_eq_true c27
                          clear c27
                          have c28b0 := eq_true (of_decide_eq_true (by first | (with_reducible assumption) | assumption) : 1 ≤ (a0.size : Int))
                          replace H := Option.bind_eq_some_iff.mp H
                          obtain ⟨t296, A290, H⟩ := H
                          replace H : (if (a0.extract 0 1).size + t296.size ≤ 9223372036854775807 then (if ((a0.extract 0 1) ++ t296).size + (s8.extract ((t295.size : Int) : Int).toNat s8.size).size ≤ 9223372036854775807 then (some (((a0.extract 0 1) ++ t296) ++ (s8.extract ((t295.size : Int) : Int).toNat s8.size))) else (none)) else (none)) = some r := H
                          have A29 := Aside0.mk A290
                          clear A290
                          by_cases c30 : (a0.extract 0 1).size + t296.size ≤ 9223372036854775807
                          · rw [if_pos c30] at H
                            have c30b0 := eq_true c30
                            try (have c30b0w := c30b0; simp only [ByteArray.size_append, ByteArray.size_extract, Nat.min_self, Nat.sub_zero, szl1, szl2, szl3, szl4] at c30b0w)
                            have c30b1 : decide ((a0.extract 0 1).size + t296.size ≤ 9223372036854775807) = true := decide_eq_true c30
                            try (have c30b1w := c30b1; simp only [ByteArray.size_append, ByteArray.size_extract, Nat.min_self, Nat.sub_zero, szl1, szl2, szl3, szl4] at c30b1w)
                            try have c30b2 : (9223372036854775807 < (a0.extract 0 1).size + t296.size) = False := eq_false (Nat.not_lt.2 c30)
                            try (have c30b2w := c30b2; simp only [ByteArray.size_append, ByteArray.size_extract, Nat.min_self, Nat.sub_zero, szl1, szl2, szl3, szl4] at c30b2w)
                            have c31b0 := eq_true (of_decide_eq_true (by first | (with_reducible assumption) | assumption) : 0 ≤ (t295.size : Int))
                            have c32b0 := eq_true (of_decide_eq_true (by first | (with_reducible assumption) | assumption) : (t295.size : Int) ≤ (s8.size : Int))
                            by_cases c33 : ((a0.extract 0 1) ++ t296).size + (s8.extract ((t295.size : Int) : Int).toNat s8.size).size ≤ 9223372036854775807
                            · rw [if_pos c33] at H
                              have c33b0 := eq_true c33
                              try (have c33b0w := c33b0; simp only [ByteArray.size_append, ByteArray.size_extract, Nat.min_self, Nat.sub_zero, szl1, szl2, szl3, szl4] at c33b0w)
                              have c33b1 : decide (((a0.extract 0 1) ++ t296).size + (s8.extract ((t295.size : Int) : Int).toNat s8.size).size ≤ 9223372036854775807) = true := decide_eq_true c33
                              try (have c33b1v := c33b1; simp only [Int.toNat_natCast] at c33b1v)
                              try (have c33b1w := c33b1; simp only [ByteArray.size_append, ByteArray.size_extract, Nat.min_self, Nat.sub_zero, szl1, szl2, szl3, szl4] at c33b1w)
                              try (have c33b1wv := c33b1w; simp only [Int.toNat_natCast] at c33b1wv)
                              try have c33b2 : (9223372036854775807 < ((a0.extract 0 1) ++ t296).size + (s8.extract ((t295.size : Int) : Int).toNat s8.size).size) = False := eq_false (Nat.not_lt.2 c33)
                              try (have c33b2w := c33b2; simp only [ByteArray.size_append, ByteArray.size_extract, Nat.min_self, Nat.sub_zero, szl1, szl2, szl3, szl4] at c33b2w)
                              try (have c33b2wv := c33b2w; simp only [Int.toNat_natCast] at c33b2wv)
                              obtain rfl := Option.some.inj H
                              go_upto_region 5 with (first | (go_at_call 86; (with_reducible refine (rillbedref06_Joint.calls kj3 _ _ l1 t295 _ ?side1 ?side2 A17.out).mono ?_); (case side1 => repeat (first | exact HR1.out | (with_reducible refine Kd.C_alloc ?_ _) | (with_reducible refine Kd.C_drewN ?_ _) | (with_reducible refine Kd.C_drew ?_))); (case side2 => exact HC1.out); rintro e w' ⟨rfl, ⟨nd, rfl⟩⟩; (try first | exact ⟨rfl, _, World.drewN_drewN _ _ _⟩ | exact ⟨rfl, _, Eq.trans (World.drewN_drewN _ _ _) (congrArg (World.drewN _) (Nat.add_assoc _ _ _))⟩); have p25 : 0 ≤ ((t295.size : Int) : Int) := of_decide_eq_true (by first | (with_reducible assumption) | assumption); have q25 : (t295.size : Int) < (s8.size : Int) := of_decide_eq_true (by first | (with_reducible assumption) | assumption); have hx25 := bt_at s8 (t295.size : Int); have hx25v := hx25; (try simp only [Int.toNat_natCast] at hx25v); (try have q25v := eq_true (Int.ofNat_lt.mp q25)); replace p25 := eq_true p25; replace q25 := eq_true q25) | (go_at_call 86; (with_reducible refine (rillbedref06_Joint.calls kj3 _ _ l2 t296 _ ?side1 ?side2 A29.out).mono ?_); (case side1 => repeat (first | exact HR2.out | (with_reducible refine Kd.C_alloc ?_ _) | (with_reducible refine Kd.C_drewN ?_ _) | (with_reducible refine Kd.C_drew ?_))); (case side2 => exact HC2.out); rintro e w' ⟨rfl, ⟨nd, rfl⟩⟩; (try first | exact ⟨rfl, _, World.drewN_drewN _ _ _⟩ | exact ⟨rfl, _, Eq.trans (World.drewN_drewN _ _ _) (congrArg (World.drewN _) (Nat.add_assoc _ _ _))⟩)))
                              rw [HS8.out]
                              go_wp2_with (first | (go_at_call 86; (with_reducible refine (rillbedref06_Joint.calls kj3 _ _ l1 t295 _ ?side1 ?side2 A17.out).mono ?_); (case side1 => repeat (first | exact HR1.out | (with_reducible refine Kd.C_alloc ?_ _) | (with_reducible refine Kd.C_drewN ?_ _) | (with_reducible refine Kd.C_drew ?_))); (case side2 => exact HC1.out); rintro e w' ⟨rfl, ⟨nd, rfl⟩⟩; (try first | exact ⟨rfl, _, World.drewN_drewN _ _ _⟩ | exact ⟨rfl, _, Eq.trans (World.drewN_drewN _ _ _) (congrArg (World.drewN _) (Nat.add_assoc _ _ _))⟩); have p25 : 0 ≤ ((t295.size : Int) : Int) := of_decide_eq_true (by first | (with_reducible assumption) | assumption); have q25 : (t295.size : Int) < (s8.size : Int) := of_decide_eq_true (by first | (with_reducible assumption) | assumption); have hx25 := bt_at s8 (t295.size : Int); have hx25v := hx25; (try simp only [Int.toNat_natCast] at hx25v); (try have q25v := eq_true (Int.ofNat_lt.mp q25)); replace p25 := eq_true p25; replace q25 := eq_true q25) | (go_at_call 86; (with_reducible refine (rillbedref06_Joint.calls kj3 _ _ l2 t296 _ ?side1 ?side2 A29.out).mono ?_); (case side1 => repeat (first | exact HR2.out | (with_reducible refine Kd.C_alloc ?_ _) | (with_reducible refine Kd.C_drewN ?_ _) | (with_reducible refine Kd.C_drew ?_))); (case side2 => exact HC2.out); rintro e w' ⟨rfl, ⟨nd, rfl⟩⟩; (try first | exact ⟨rfl, _, World.drewN_drewN _ _ _⟩ | exact ⟨rfl, _, Eq.trans (World.drewN_drewN _ _ _) (congrArg (World.drewN _) (Nat.add_assoc _ _ _))⟩)))
                              repeat (go_quiet (first | (go_at_call 86; (with_reducible refine (rillbedref06_Joint.calls kj3 _ _ l1 t295 _ ?side1 ?side2 A17.out).mono ?_); (case side1 => repeat (first | exact HR1.out | (with_reducible refine Kd.C_alloc ?_ _) | (with_reducible refine Kd.C_drewN ?_ _) | (with_reducible refine Kd.C_drew ?_))); (case side2 => exact HC1.out); rintro e w' ⟨rfl, ⟨nd, rfl⟩⟩; (try first | exact ⟨rfl, _, World.drewN_drewN _ _ _⟩ | exact ⟨rfl, _, Eq.trans (World.drewN_drewN _ _ _) (congrArg (World.drewN _) (Nat.add_assoc _ _ _))⟩); have p25 : 0 ≤ ((t295.size : Int) : Int) := of_decide_eq_true (by first | (with_reducible assumption) | assumption); have q25 : (t295.size : Int) < (s8.size : Int) := of_decide_eq_true (by first | (with_reducible assumption) | assumption); have hx25 := bt_at s8 (t295.size : Int); have hx25v := hx25; (try simp only [Int.toNat_natCast] at hx25v); (try have q25v := eq_true (Int.ofNat_lt.mp q25)); replace p25 := eq_true p25; replace q25 := eq_true q25) | (go_at_call 86; (with_reducible refine (rillbedref06_Joint.calls kj3 _ _ l2 t296 _ ?side1 ?side2 A29.out).mono ?_); (case side1 => repeat (first | exact HR2.out | (with_reducible refine Kd.C_alloc ?_ _) | (with_reducible refine Kd.C_drewN ?_ _) | (with_reducible refine Kd.C_drew ?_))); (case side2 => exact HC2.out); rintro e w' ⟨rfl, ⟨nd, rfl⟩⟩; (try first | exact ⟨rfl, _, World.drewN_drewN _ _ _⟩ | exact ⟨rfl, _, Eq.trans (World.drewN_drewN _ _ _) (congrArg (World.drewN _) (Nat.add_assoc _ _ _))⟩))); try go_wp2_with (first | (go_at_call 86; (with_reducible refine (rillbedref06_Joint.calls kj3 _ _ l1 t295 _ ?side1 ?side2 A17.out).mono ?_); (case side1 => repeat (first | exact HR1.out | (with_reducible refine Kd.C_alloc ?_ _) | (with_reducible refine Kd.C_drewN ?_ _) | (with_reducible refine Kd.C_drew ?_))); (case side2 => exact HC1.out); rintro e w' ⟨rfl, ⟨nd, rfl⟩⟩; (try first | exact ⟨rfl, _, World.drewN_drewN _ _ _⟩ | exact ⟨rfl, _, Eq.trans (World.drewN_drewN _ _ _) (congrArg (World.drewN _) (Nat.add_assoc _ _ _))⟩); have p25 : 0 ≤ ((t295.size : Int) : Int) := of_decide_eq_true (by first | (with_reducible assumption) | assumption); have q25 : (t295.size : Int) < (s8.size : Int) := of_decide_eq_true (by first | (with_reducible assumption) | assumption); have hx25 := bt_at s8 (t295.size : Int); have hx25v := hx25; (try simp only [Int.toNat_natCast] at hx25v); (try have q25v := eq_true (Int.ofNat_lt.mp q25)); replace p25 := eq_true p25; replace q25 := eq_true q25) | (go_at_call 86; (with_reducible refine (rillbedref06_Joint.calls kj3 _ _ l2 t296 _ ?side1 ?side2 A29.out).mono ?_); (case side1 => repeat (first | exact HR2.out | (with_reducible refine Kd.C_alloc ?_ _) | (with_reducible refine Kd.C_drewN ?_ _) | (with_reducible refine Kd.C_drew ?_))); (case side2 => exact HC2.out); rintro e w' ⟨rfl, ⟨nd, rfl⟩⟩; (try first | exact ⟨rfl, _, World.drewN_drewN _ _ _⟩ | exact ⟨rfl, _, Eq.trans (World.drewN_drewN _ _ _) (congrArg (World.drewN _) (Nat.add_assoc _ _ _))⟩))))
                              go_ret
                              exact ⟨by first | rfl | (simp; done) | (simp [*]; done), by repeat (first | exact Drawn0.refl _ | apply Drawn0.step)⟩
                            · rw [if_neg c33] at H
                              exact absurd H (by simp)
                          · rw [if_neg c30] at H
                            exact absurd H (by simp)
                        · rw [if_neg c27] at H
                          exact absurd H (by simp)
                      · rw [if_neg c26] at H
                        have c26b0 : ((bt s8 (t295.size : Int)) == 0) = false := beq_eq_false_iff_ne.mpr c26
                        have c26b1 : ((bt s8 (t295.size : Int)) != 0) = true := bne_iff_ne.mpr c26
                        obtain rfl := Option.some.inj H
                        go_upto_region 5 with (first | (go_at_call 86; (with_reducible refine (rillbedref06_Joint.calls kj3 _ _ l1 t295 _ ?side1 ?side2 A17.out).mono ?_); (case side1 => repeat (first | exact HR1.out | (with_reducible refine Kd.C_alloc ?_ _) | (with_reducible refine Kd.C_drewN ?_ _) | (with_reducible refine Kd.C_drew ?_))); (case side2 => exact HC1.out); rintro e w' ⟨rfl, ⟨nd, rfl⟩⟩; (try first | exact ⟨rfl, _, World.drewN_drewN _ _ _⟩ | exact ⟨rfl, _, Eq.trans (World.drewN_drewN _ _ _) (congrArg (World.drewN _) (Nat.add_assoc _ _ _))⟩); have p25 : 0 ≤ ((t295.size : Int) : Int) := of_decide_eq_true (by first | (with_reducible assumption) | assumption); have q25 : (t295.size : Int) < (s8.size : Int) := of_decide_eq_true (by first | (with_reducible assumption) | assumption); have hx25 := bt_at s8 (t295.size : Int); have hx25v := hx25; (try simp only [Int.toNat_natCast] at hx25v); (try have q25v := eq_true (Int.ofNat_lt.mp q25)); replace p25 := eq_true p25; replace q25 := eq_true q25))
                        rw [HS8.out]
                        go_wp2_with (first | (go_at_call 86; (with_reducible refine (rillbedref06_Joint.calls kj3 _ _ l1 t295 _ ?side1 ?side2 A17.out).mono ?_); (case side1 => repeat (first | exact HR1.out | (with_reducible refine Kd.C_alloc ?_ _) | (with_reducible refine Kd.C_drewN ?_ _) | (with_reducible refine Kd.C_drew ?_))); (case side2 => exact HC1.out); rintro e w' ⟨rfl, ⟨nd, rfl⟩⟩; (try first | exact ⟨rfl, _, World.drewN_drewN _ _ _⟩ | exact ⟨rfl, _, Eq.trans (World.drewN_drewN _ _ _) (congrArg (World.drewN _) (Nat.add_assoc _ _ _))⟩); have p25 : 0 ≤ ((t295.size : Int) : Int) := of_decide_eq_true (by first | (with_reducible assumption) | assumption); have q25 : (t295.size : Int) < (s8.size : Int) := of_decide_eq_true (by first | (with_reducible assumption) | assumption); have hx25 := bt_at s8 (t295.size : Int); have hx25v := hx25; (try simp only [Int.toNat_natCast] at hx25v); (try have q25v := eq_true (Int.ofNat_lt.mp q25)); replace p25 := eq_true p25; replace q25 := eq_true q25))
                        repeat (go_quiet (first | (go_at_call 86; (with_reducible refine (rillbedref06_Joint.calls kj3 _ _ l1 t295 _ ?side1 ?side2 A17.out).mono ?_); (case side1 => repeat (first | exact HR1.out | (with_reducible refine Kd.C_alloc ?_ _) | (with_reducible refine Kd.C_drewN ?_ _) | (with_reducible refine Kd.C_drew ?_))); (case side2 => exact HC1.out); rintro e w' ⟨rfl, ⟨nd, rfl⟩⟩; (try first | exact ⟨rfl, _, World.drewN_drewN _ _ _⟩ | exact ⟨rfl, _, Eq.trans (World.drewN_drewN _ _ _) (congrArg (World.drewN _) (Nat.add_assoc _ _ _))⟩); have p25 : 0 ≤ ((t295.size : Int) : Int) := of_decide_eq_true (by first | (with_reducible assumption) | assumption); have q25 : (t295.size : Int) < (s8.size : Int) := of_decide_eq_true (by first | (with_reducible assumption) | assumption); have hx25 := bt_at s8 (t295.size : Int); have hx25v := hx25; (try simp only [Int.toNat_natCast] at hx25v); (try have q25v := eq_true (Int.ofNat_lt.mp q25)); replace p25 := eq_true p25; replace q25 := eq_true q25)); try go_wp2_with (first | (go_at_call 86; (with_reducible refine (rillbedref06_Joint.calls kj3 _ _ l1 t295 _ ?side1 ?side2 A17.out).mono ?_); (case side1 => repeat (first | exact HR1.out | (with_reducible refine Kd.C_alloc ?_ _) | (with_reducible refine Kd.C_drewN ?_ _) | (with_reducible refine Kd.C_drew ?_))); (case side2 => exact HC1.out); rintro e w' ⟨rfl, ⟨nd, rfl⟩⟩; (try first | exact ⟨rfl, _, World.drewN_drewN _ _ _⟩ | exact ⟨rfl, _, Eq.trans (World.drewN_drewN _ _ _) (congrArg (World.drewN _) (Nat.add_assoc _ _ _))⟩); have p25 : 0 ≤ ((t295.size : Int) : Int) := of_decide_eq_true (by first | (with_reducible assumption) | assumption); have q25 : (t295.size : Int) < (s8.size : Int) := of_decide_eq_true (by first | (with_reducible assumption) | assumption); have hx25 := bt_at s8 (t295.size : Int); have hx25v := hx25; (try simp only [Int.toNat_natCast] at hx25v); (try have q25v := eq_true (Int.ofNat_lt.mp q25)); replace p25 := eq_true p25; replace q25 := eq_true q25)))
                        go_ret
                        exact ⟨by first | rfl | (simp; done) | (simp [*]; done), by repeat (first | exact Drawn0.refl _ | apply Drawn0.step)⟩
                    · rw [if_neg c24] at H
                      exact absurd H (by simp)
                  · rw [if_neg c23] at H
                    have c23b0 : decide ((t295.size : Int) < (s8.size : Int)) = false := decide_eq_false c23
                    try (have c23b0w := c23b0; simp only [ByteArray.size_append, ByteArray.size_extract, Nat.min_self, Nat.sub_zero, szl1, szl2, szl3, szl4] at c23b0w)
                    have c23b1 : decide (t295.size < s8.size) = false := decide_eq_false (fun h => c23 (Int.ofNat_lt.mpr h))
                    try (have c23b1w := c23b1; simp only [ByteArray.size_append, ByteArray.size_extract, Nat.min_self, Nat.sub_zero, szl1, szl2, szl3, szl4] at c23b1w)
                    clear c23
                    by_cases c34 : 0 ≤ 1
                    · rw [if_pos c34] at H
                      have c34b0 := eq_true c34
                      have c34b1 : decide (0 ≤ 1) = true := decide_eq_true c34
                      clear c34
                      have c35b0 := eq_true (of_decide_eq_true (by first | (with_reducible assumption) | assumption) : 1 ≤ (a0.size : Int))
                      replace H := Option.bind_eq_some_iff.mp H
                      obtain ⟨t297, A360, H⟩ := H
                      replace H : (if (a0.extract 0 1).size + t297.size ≤ 9223372036854775807 then (if ((a0.extract 0 1) ++ t297).size + (s8.extract ((t295.size : Int) : Int).toNat s8.size).size ≤ 9223372036854775807 then (some (((a0.extract 0 1) ++ t297) ++ (s8.extract ((t295.size : Int) : Int).toNat s8.size))) else (none)) else (none)) = some r := H
                      have A36 := Aside0.mk A360
                      clear A360
                      by_cases c37 : (a0.extract 0 1).size + t297.size ≤ 9223372036854775807
                      · rw [if_pos c37] at H
                        have c37b0 := eq_true c37
                        try (have c37b0w := c37b0; simp only [ByteArray.size_append, ByteArray.size_extract, Nat.min_self, Nat.sub_zero, szl1, szl2, szl3, szl4] at c37b0w)
                        have c37b1 : decide ((a0.extract 0 1).size + t297.size ≤ 9223372036854775807) = true := decide_eq_true c37
                        try (have c37b1w := c37b1; simp only [ByteArray.size_append, ByteArray.size_extract, Nat.min_self, Nat.sub_zero, szl1, szl2, szl3, szl4] at c37b1w)
                        try have c37b2 : (9223372036854775807 < (a0.extract 0 1).size + t297.size) = False := eq_false (Nat.not_lt.2 c37)
                        try (have c37b2w := c37b2; simp only [ByteArray.size_append, ByteArray.size_extract, Nat.min_self, Nat.sub_zero, szl1, szl2, szl3, szl4] at c37b2w)
                        have c38b0 := eq_true (of_decide_eq_true (by first | (with_reducible assumption) | assumption) : 0 ≤ (t295.size : Int))
                        have c39b0 := eq_true (of_decide_eq_true (by first | (with_reducible assumption) | assumption) : (t295.size : Int) ≤ (s8.size : Int))
                        by_cases c40 : ((a0.extract 0 1) ++ t297).size + (s8.extract ((t295.size : Int) : Int).toNat s8.size).size ≤ 9223372036854775807
                        · rw [if_pos c40] at H
                          have c40b0 := eq_true c40
                          try (have c40b0w := c40b0; simp only [ByteArray.size_append, ByteArray.size_extract, Nat.min_self, Nat.sub_zero, szl1, szl2, szl3, szl4] at c40b0w)
                          have c40b1 : decide (((a0.extract 0 1) ++ t297).size + (s8.extract ((t295.size : Int) : Int).toNat s8.size).size ≤ 9223372036854775807) = true := decide_eq_true c40
                          try (have c40b1v := c40b1; simp only [Int.toNat_natCast] at c40b1v)
                          try (have c40b1w := c40b1; simp only [ByteArray.size_append, ByteArray.size_extract, Nat.min_self, Nat.sub_zero, szl1, szl2, szl3, szl4] at c40b1w)
                          try (have c40b1wv := c40b1w; simp only [Int.toNat_natCast] at c40b1wv)
                          try have c40b2 : (9223372036854775807 < ((a0.extract 0 1) ++ t297).size + (s8.extract ((t295.size : Int) : Int).toNat s8.size).size) = False := eq_false (Nat.not_lt.2 c40)
                          try (have c40b2w := c40b2; simp only [ByteArray.size_append, ByteArray.size_extract, Nat.min_self, Nat.sub_zero, szl1, szl2, szl3, szl4] at c40b2w)
                          try (have c40b2wv := c40b2w; simp only [Int.toNat_natCast] at c40b2wv)
                          obtain rfl := Option.some.inj H
                          go_upto_region 5 with (first | (go_at_call 86; (with_reducible refine (rillbedref06_Joint.calls kj3 _ _ l1 t295 _ ?side1 ?side2 A17.out).mono ?_); (case side1 => repeat (first | exact HR1.out | (with_reducible refine Kd.C_alloc ?_ _) | (with_reducible refine Kd.C_drewN ?_ _) | (with_reducible refine Kd.C_drew ?_))); (case side2 => exact HC1.out); rintro e w' ⟨rfl, ⟨nd, rfl⟩⟩; (try first | exact ⟨rfl, _, World.drewN_drewN _ _ _⟩ | exact ⟨rfl, _, Eq.trans (World.drewN_drewN _ _ _) (congrArg (World.drewN _) (Nat.add_assoc _ _ _))⟩)) | (go_at_call 86; (with_reducible refine (rillbedref06_Joint.calls kj3 _ _ l2 t297 _ ?side1 ?side2 A36.out).mono ?_); (case side1 => repeat (first | exact HR2.out | (with_reducible refine Kd.C_alloc ?_ _) | (with_reducible refine Kd.C_drewN ?_ _) | (with_reducible refine Kd.C_drew ?_))); (case side2 => exact HC2.out); rintro e w' ⟨rfl, ⟨nd, rfl⟩⟩; (try first | exact ⟨rfl, _, World.drewN_drewN _ _ _⟩ | exact ⟨rfl, _, Eq.trans (World.drewN_drewN _ _ _) (congrArg (World.drewN _) (Nat.add_assoc _ _ _))⟩)))
                          rw [HS8.out]
                          go_wp2_with (first | (go_at_call 86; (with_reducible refine (rillbedref06_Joint.calls kj3 _ _ l1 t295 _ ?side1 ?side2 A17.out).mono ?_); (case side1 => repeat (first | exact HR1.out | (with_reducible refine Kd.C_alloc ?_ _) | (with_reducible refine Kd.C_drewN ?_ _) | (with_reducible refine Kd.C_drew ?_))); (case side2 => exact HC1.out); rintro e w' ⟨rfl, ⟨nd, rfl⟩⟩; (try first | exact ⟨rfl, _, World.drewN_drewN _ _ _⟩ | exact ⟨rfl, _, Eq.trans (World.drewN_drewN _ _ _) (congrArg (World.drewN _) (Nat.add_assoc _ _ _))⟩)) | (go_at_call 86; (with_reducible refine (rillbedref06_Joint.calls kj3 _ _ l2 t297 _ ?side1 ?side2 A36.out).mono ?_); (case side1 => repeat (first | exact HR2.out | (with_reducible refine Kd.C_alloc ?_ _) | (with_reducible refine Kd.C_drewN ?_ _) | (with_reducible refine Kd.C_drew ?_))); (case side2 => exact HC2.out); rintro e w' ⟨rfl, ⟨nd, rfl⟩⟩; (try first | exact ⟨rfl, _, World.drewN_drewN _ _ _⟩ | exact ⟨rfl, _, Eq.trans (World.drewN_drewN _ _ _) (congrArg (World.drewN _) (Nat.add_assoc _ _ _))⟩)))
                          repeat (go_quiet (first | (go_at_call 86; (with_reducible refine (rillbedref06_Joint.calls kj3 _ _ l1 t295 _ ?side1 ?side2 A17.out).mono ?_); (case side1 => repeat (first | exact HR1.out | (with_reducible refine Kd.C_alloc ?_ _) | (with_reducible refine Kd.C_drewN ?_ _) | (with_reducible refine Kd.C_drew ?_))); (case side2 => exact HC1.out); rintro e w' ⟨rfl, ⟨nd, rfl⟩⟩; (try first | exact ⟨rfl, _, World.drewN_drewN _ _ _⟩ | exact ⟨rfl, _, Eq.trans (World.drewN_drewN _ _ _) (congrArg (World.drewN _) (Nat.add_assoc _ _ _))⟩)) | (go_at_call 86; (with_reducible refine (rillbedref06_Joint.calls kj3 _ _ l2 t297 _ ?side1 ?side2 A36.out).mono ?_); (case side1 => repeat (first | exact HR2.out | (with_reducible refine Kd.C_alloc ?_ _) | (with_reducible refine Kd.C_drewN ?_ _) | (with_reducible refine Kd.C_drew ?_))); (case side2 => exact HC2.out); rintro e w' ⟨rfl, ⟨nd, rfl⟩⟩; (try first | exact ⟨rfl, _, World.drewN_drewN _ _ _⟩ | exact ⟨rfl, _, Eq.trans (World.drewN_drewN _ _ _) (congrArg (World.drewN _) (Nat.add_assoc _ _ _))⟩))); try go_wp2_with (first | (go_at_call 86; (with_reducible refine (rillbedref06_Joint.calls kj3 _ _ l1 t295 _ ?side1 ?side2 A17.out).mono ?_); (case side1 => repeat (first | exact HR1.out | (with_reducible refine Kd.C_alloc ?_ _) | (with_reducible refine Kd.C_drewN ?_ _) | (with_reducible refine Kd.C_drew ?_))); (case side2 => exact HC1.out); rintro e w' ⟨rfl, ⟨nd, rfl⟩⟩; (try first | exact ⟨rfl, _, World.drewN_drewN _ _ _⟩ | exact ⟨rfl, _, Eq.trans (World.drewN_drewN _ _ _) (congrArg (World.drewN _) (Nat.add_assoc _ _ _))⟩)) | (go_at_call 86; (with_reducible refine (rillbedref06_Joint.calls kj3 _ _ l2 t297 _ ?side1 ?side2 A36.out).mono ?_); (case side1 => repeat (first | exact HR2.out | (with_reducible refine Kd.C_alloc ?_ _) | (with_reducible refine Kd.C_drewN ?_ _) | (with_reducible refine Kd.C_drew ?_))); (case side2 => exact HC2.out); rintro e w' ⟨rfl, ⟨nd, rfl⟩⟩; (try first | exact ⟨rfl, _, World.drewN_drewN _ _ _⟩ | exact ⟨rfl, _, Eq.trans (World.drewN_drewN _ _ _) (congrArg (World.drewN _) (Nat.add_assoc _ _ _))⟩))))
                          go_ret
                          exact ⟨by first | rfl | (simp; done) | (simp [*]; done), by repeat (first | exact Drawn0.refl _ | apply Drawn0.step)⟩
                        · rw [if_neg c40] at H
                          exact absurd H (by simp)
                      · rw [if_neg c37] at H
                        exact absurd H (by simp)
                    · rw [if_neg c34] at H
                      exact absurd H (by simp)
                · rw [if_neg c22] at H
                  have c22b0 : ((s8.extract 0 ((t295.size : Int) : Int).toNat).toList == t295.toList) = false := beq_eq_false_iff_ne.mpr c22
                  try (have c22b0v := c22b0; simp only [Int.toNat_natCast] at c22b0v)
                  have c22b1 : ((s8.extract 0 ((t295.size : Int) : Int).toNat).toList != t295.toList) = true := bne_iff_ne.mpr c22
                  try (have c22b1v := c22b1; simp only [Int.toNat_natCast] at c22b1v)
                  obtain rfl := Option.some.inj H
                  go_upto_region 5 with (first | (go_at_call 86; (with_reducible refine (rillbedref06_Joint.calls kj3 _ _ l1 t295 _ ?side1 ?side2 A17.out).mono ?_); (case side1 => repeat (first | exact HR1.out | (with_reducible refine Kd.C_alloc ?_ _) | (with_reducible refine Kd.C_drewN ?_ _) | (with_reducible refine Kd.C_drew ?_))); (case side2 => exact HC1.out); rintro e w' ⟨rfl, ⟨nd, rfl⟩⟩; (try first | exact ⟨rfl, _, World.drewN_drewN _ _ _⟩ | exact ⟨rfl, _, Eq.trans (World.drewN_drewN _ _ _) (congrArg (World.drewN _) (Nat.add_assoc _ _ _))⟩)))
                  rw [HS8.out]
                  go_wp2_with (first | (go_at_call 86; (with_reducible refine (rillbedref06_Joint.calls kj3 _ _ l1 t295 _ ?side1 ?side2 A17.out).mono ?_); (case side1 => repeat (first | exact HR1.out | (with_reducible refine Kd.C_alloc ?_ _) | (with_reducible refine Kd.C_drewN ?_ _) | (with_reducible refine Kd.C_drew ?_))); (case side2 => exact HC1.out); rintro e w' ⟨rfl, ⟨nd, rfl⟩⟩; (try first | exact ⟨rfl, _, World.drewN_drewN _ _ _⟩ | exact ⟨rfl, _, Eq.trans (World.drewN_drewN _ _ _) (congrArg (World.drewN _) (Nat.add_assoc _ _ _))⟩)))
                  repeat (go_quiet (first | (go_at_call 86; (with_reducible refine (rillbedref06_Joint.calls kj3 _ _ l1 t295 _ ?side1 ?side2 A17.out).mono ?_); (case side1 => repeat (first | exact HR1.out | (with_reducible refine Kd.C_alloc ?_ _) | (with_reducible refine Kd.C_drewN ?_ _) | (with_reducible refine Kd.C_drew ?_))); (case side2 => exact HC1.out); rintro e w' ⟨rfl, ⟨nd, rfl⟩⟩; (try first | exact ⟨rfl, _, World.drewN_drewN _ _ _⟩ | exact ⟨rfl, _, Eq.trans (World.drewN_drewN _ _ _) (congrArg (World.drewN _) (Nat.add_assoc _ _ _))⟩))); try go_wp2_with (first | (go_at_call 86; (with_reducible refine (rillbedref06_Joint.calls kj3 _ _ l1 t295 _ ?side1 ?side2 A17.out).mono ?_); (case side1 => repeat (first | exact HR1.out | (with_reducible refine Kd.C_alloc ?_ _) | (with_reducible refine Kd.C_drewN ?_ _) | (with_reducible refine Kd.C_drew ?_))); (case side2 => exact HC1.out); rintro e w' ⟨rfl, ⟨nd, rfl⟩⟩; (try first | exact ⟨rfl, _, World.drewN_drewN _ _ _⟩ | exact ⟨rfl, _, Eq.trans (World.drewN_drewN _ _ _) (congrArg (World.drewN _) (Nat.add_assoc _ _ _))⟩))))
                  go_ret
                  exact ⟨by first | rfl | (simp; done) | (simp [*]; done), by repeat (first | exact Drawn0.refl _ | apply Drawn0.step)⟩
              · rw [if_neg c21] at H
                exact absurd H (by simp)
            · rw [if_neg c20] at H
              exact absurd H (by simp)
        · rw [if_neg c18] at H
          exact absurd H (by simp)

end Go.Proofs.YthafpbidfgmacaaDoor.Q
