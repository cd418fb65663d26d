-- Printed by a copy of the print program over stub bodies; what stood in the stubs' place is hand-made (post.py)
import Derived.Test.YthafpbidfgmacaaDoorQ0
import Derived.Test.YthafpbidfgmacaaDoorQB
namespace Go.Proofs.YthafpbidfgmacaaDoor.Q
open Go.RowKit Go.Proofs.YthafpbidfgmacaaDoorW.PrintWords Go.Proofs.YthafpbidfgmacaaDoorW.PrintLast Go.Proofs.YthafpbidfgmacaaDoorW.PrintMore
attribute [local go_sem] max2_int min2_int max_two min_two max_three min_three max_four min_four   -- for this text's walks alone
set_option linter.unusedVariables false
set_option linter.unusedSimpArgs false

/-! ### rillbedref06_Subtree: function 44 -/
def rillbedref06_Subtree.f (k : Nat) (l0 : List ByteArray) : Option (ByteArray × ByteArray × ByteArray × ByteArray) := (rillbedref06_Right.f k l0).bind fun t233 => (if t233 = true then (if (l0.length : Int) = 0 then (some ((⟨#[109]⟩ : ByteArray), (⟨#[110]⟩ : ByteArray), (⟨#[100]⟩ : ByteArray), (⟨#[101]⟩ : ByteArray))) else ((rillbedref06_Joint.f k l0).bind fun t234 => (if 1 + t234.size ≤ 9223372036854775807 then (if ((⟨#[109]⟩ : ByteArray) ++ t234).size + 1 ≤ 9223372036854775807 then (if ((⟨#[100]⟩ : ByteArray) ++ t234).size + 1 ≤ 9223372036854775807 then (some ((⟨#[109]⟩ : ByteArray) ++ t234, ((⟨#[109]⟩ : ByteArray) ++ t234) ++ (⟨#[1]⟩ : ByteArray), (⟨#[100]⟩ : ByteArray) ++ t234, ((⟨#[100]⟩ : ByteArray) ++ t234) ++ (⟨#[1]⟩ : ByteArray))) else (none)) else (none)) else (none)))) else (some ((⟨#[]⟩ : ByteArray), (⟨#[]⟩ : ByteArray), (⟨#[]⟩ : ByteArray), (⟨#[]⟩ : ByteArray))))
theorem rillbedref06_Subtree.mono : ∀ a0 k, LeO (rillbedref06_Subtree.f k a0) (rillbedref06_Subtree.f (k + 1) a0) := by
  intro a0 k
  unfold rillbedref06_Subtree.f
  repeat' first
      | (with_reducible exact rillbedref06_Joint.mono _ _)
      | (with_reducible exact rillbedref06_Right.mono _ _)
      | (with_reducible exact LeO.refl _)
      | (with_reducible exact LeO.none _)
      | (with_reducible refine LeO.ite ?_ ?_)
      | (with_reducible refine LeO.bind ?_ (fun _ => ?_))
      | exact rillbedref06_Joint.mono _ _
      | exact rillbedref06_Right.mono _ _
      | exact LeO.none _
      | refine LeO.ite ?_ ?_
      | refine LeO.bind ?_ (fun _ => ?_)
set_option maxHeartbeats 8000000 in
set_option maxRecDepth 100000 in
theorem rillbedref06_Subtree.calls (k : Nat) (A0 : Option Addr) (c0 : Nat) (l0 : List ByteArray) (r1 : ByteArray) (r2 : ByteArray) (r3 : ByteArray) (r4 : ByteArray) (w : World) (hr0 : Kd.C Kd.string w A0 l0.length l0) (hc0 : l0.length ≤ c0) (h : rillbedref06_Subtree.f k l0 = some (r1, r2, r3, r4)) :
    Calls Tryd.prog 44 #[.slice A0 l0.length c0] w fun e w' => e = .returned (.tuple #[.string r1, .string r2, .string r3, .string r4]) ∧ Drawn0 w w' := by
  have HR0 := Aside0.mk hr0
  have HC0 := Aside0.mk hc0
  clear hr0 hc0
  have H : ((rillbedref06_Right.f k l0).bind fun t233 => (if t233 = true then (if (l0.length : Int) = 0 then (some ((⟨#[109]⟩ : ByteArray), (⟨#[110]⟩ : ByteArray), (⟨#[100]⟩ : ByteArray), (⟨#[101]⟩ : ByteArray))) else ((rillbedref06_Joint.f k l0).bind fun t234 => (if 1 + t234.size ≤ 9223372036854775807 then (if ((⟨#[109]⟩ : ByteArray) ++ t234).size + 1 ≤ 9223372036854775807 then (if ((⟨#[100]⟩ : ByteArray) ++ t234).size + 1 ≤ 9223372036854775807 then (some ((⟨#[109]⟩ : ByteArray) ++ t234, ((⟨#[109]⟩ : ByteArray) ++ t234) ++ (⟨#[1]⟩ : ByteArray), (⟨#[100]⟩ : ByteArray) ++ t234, ((⟨#[100]⟩ : ByteArray) ++ t234) ++ (⟨#[1]⟩ : ByteArray))) else (none)) else (none)) else (none)))) else (some ((⟨#[]⟩ : ByteArray), (⟨#[]⟩ : ByteArray), (⟨#[]⟩ : ByteArray), (⟨#[]⟩ : ByteArray))))) = some (r1, r2, r3, r4) := h
  clear h
  replace H := Option.bind_eq_some_iff.mp H
  obtain ⟨t233, A20, H⟩ := H
  replace H : (if t233 = true then (if (l0.length : Int) = 0 then (some ((⟨#[109]⟩ : ByteArray), (⟨#[110]⟩ : ByteArray), (⟨#[100]⟩ : ByteArray), (⟨#[101]⟩ : ByteArray))) else ((rillbedref06_Joint.f k l0).bind fun t234 => (if 1 + t234.size ≤ 9223372036854775807 then (if ((⟨#[109]⟩ : ByteArray) ++ t234).size + 1 ≤ 9223372036854775807 then (if ((⟨#[100]⟩ : ByteArray) ++ t234).size + 1 ≤ 9223372036854775807 then (some ((⟨#[109]⟩ : ByteArray) ++ t234, ((⟨#[109]⟩ : ByteArray) ++ t234) ++ (⟨#[1]⟩ : ByteArray), (⟨#[100]⟩ : ByteArray) ++ t234, ((⟨#[100]⟩ : ByteArray) ++ t234) ++ (⟨#[1]⟩ : ByteArray))) else (none)) else (none)) else (none)))) else (some ((⟨#[]⟩ : ByteArray), (⟨#[]⟩ : ByteArray), (⟨#[]⟩ : ByteArray), (⟨#[]⟩ : ByteArray)))) = some (r1, r2, r3, r4) := H
  have A2 := Aside0.mk A20
  clear A20
  by_cases c3 : t233 = true
  · subst c3
    have H1 : (if (l0.length : Int) = 0 then (some ((⟨#[109]⟩ : ByteArray), (⟨#[110]⟩ : ByteArray), (⟨#[100]⟩ : ByteArray), (⟨#[101]⟩ : ByteArray))) else ((rillbedref06_Joint.f k l0).bind fun t234 => (if 1 + t234.size ≤ 9223372036854775807 then (if ((⟨#[109]⟩ : ByteArray) ++ t234).size + 1 ≤ 9223372036854775807 then (if ((⟨#[100]⟩ : ByteArray) ++ t234).size + 1 ≤ 9223372036854775807 then (some ((⟨#[109]⟩ : ByteArray) ++ t234, ((⟨#[109]⟩ : ByteArray) ++ t234) ++ (⟨#[1]⟩ : ByteArray), (⟨#[100]⟩ : ByteArray) ++ t234, ((⟨#[100]⟩ : ByteArray) ++ t234) ++ (⟨#[1]⟩ : ByteArray))) else (none)) else (none)) else (none)))) = some (r1, r2, r3, r4) := by rw [if_pos rfl] at H; exact H
    clear H
    have H := H1
    clear H1
    by_cases c4 : (l0.length : Int) = 0
    · rw [if_pos c4] at H
      have c4b0 : ((l0.length : Int) == 0) = true := beq_iff_eq.mpr c4
      have c4b1 : ((l0.length : Int) != 0) = false := bne_eq_false_iff_eq.mpr c4
      clear c4
      simp only [Option.some.injEq, Prod.mk.injEq] at H
      obtain ⟨rfl, rfl, rfl, rfl⟩ := H
      go_enter Tryd.func44, Tryd.ntmps44
      go_wp2_with (first | ((with_reducible refine gate_callee (f := 84) rfl ?_); refine goesL_ (some 8) rfl rfl Tryd.func84 (by kernel_rfl) rfl #[.slice A0 l0.length c0] rfl (by (try simp only [List.map_toArray, List.map_cons, List.map_nil]); first | done | rfl | (simp only [List.length_drop, List.length_take]; rfl)) ?_; (with_reducible refine (rillbedref06_Right.calls k _ _ l0 true _ ?side1 ?side2 A2.out).mono ?_); (case side1 => repeat (first | exact HR0.out | (with_reducible refine Kd.C_alloc ?_ _) | (with_reducible refine Kd.C_drewN ?_ _) | (with_reducible refine Kd.C_drew ?_))); (case side2 => exact HC0.out); rintro e w' ⟨rfl, ⟨nd, rfl⟩⟩; refine ⟨_, rfl, ?_⟩))
      refine bodyPost_ret (results_list (rs := [.tmp 2, .tmp 3, .tmp 4, .tmp 5]) rfl (by simp) (.tmp (.tmp (.tmp (.tmp .nil))))) rfl ?_
      exact ⟨by first | rfl | (simp; done) | (simp [*]; done), by repeat (first | exact Drawn0.refl _ | apply Drawn0.step)⟩
    · rw [if_neg c4] at H
      have c4b0 : ((l0.length : Int) == 0) = false := beq_eq_false_iff_ne.mpr c4
      have c4b1 : ((l0.length : Int) != 0) = true := bne_iff_ne.mpr c4
      have c4b2 : ¬ (l0 = []) := fun h_ => c4 (by rw [h_]; rfl)
      replace H := Option.bind_eq_some_iff.mp H
      obtain ⟨t234, A50, H⟩ := H
      replace H : (if 1 + t234.size ≤ 9223372036854775807 then (if ((⟨#[109]⟩ : ByteArray) ++ t234).size + 1 ≤ 9223372036854775807 then (if ((⟨#[100]⟩ : ByteArray) ++ t234).size + 1 ≤ 9223372036854775807 then (some ((⟨#[109]⟩ : ByteArray) ++ t234, ((⟨#[109]⟩ : ByteArray) ++ t234) ++ (⟨#[1]⟩ : ByteArray), (⟨#[100]⟩ : ByteArray) ++ t234, ((⟨#[100]⟩ : ByteArray) ++ t234) ++ (⟨#[1]⟩ : ByteArray))) else (none)) else (none)) else (none)) = some (r1, r2, r3, r4) := H
      have A5 := Aside0.mk A50
      clear A50
      by_cases c6 : 1 + t234.size ≤ 9223372036854775807
      · rw [if_pos c6] at H
        have c6b0 := eq_true c6
        have c6b1 : decide (1 + t234.size ≤ 9223372036854775807) = true := decide_eq_true c6
        try have c6b2 : (9223372036854775807 < 1 + t234.size) = False := eq_false (Nat.not_lt.2 c6)
        by_cases c7 : ((⟨#[109]⟩ : ByteArray) ++ t234).size + 1 ≤ 9223372036854775807
        · rw [if_pos c7] at H
          have c7b0 := eq_true c7
          try (have c7b0w := c7b0; simp only [ByteArray.size_append, ByteArray.size_extract, Nat.min_self, szl1, szl2, szl3, szl4] at c7b0w)
          have c7b1 : decide (((⟨#[109]⟩ : ByteArray) ++ t234).size + 1 ≤ 9223372036854775807) = true := decide_eq_true c7
          try (have c7b1w := c7b1; simp only [ByteArray.size_append, ByteArray.size_extract, Nat.min_self, szl1, szl2, szl3, szl4] at c7b1w)
          try have c7b2 : (9223372036854775807 < ((⟨#[109]⟩ : ByteArray) ++ t234).size + 1) = False := eq_false (Nat.not_lt.2 c7)
          try (have c7b2w := c7b2; simp only [ByteArray.size_append, ByteArray.size_extract, Nat.min_self, szl1, szl2, szl3, szl4] at c7b2w)
          by_cases c8 : ((⟨#[100]⟩ : ByteArray) ++ t234).size + 1 ≤ 9223372036854775807
          · rw [if_pos c8] at H
            have c8b0 := eq_true c8
            try (have c8b0w := c8b0; simp only [ByteArray.size_append, ByteArray.size_extract, Nat.min_self, szl1, szl2, szl3, szl4] at c8b0w)
            have c8b1 : decide (((⟨#[100]⟩ : ByteArray) ++ t234).size + 1 ≤ 9223372036854775807) = true := decide_eq_true c8
            try (have c8b1w := c8b1; simp only [ByteArray.size_append, ByteArray.size_extract, Nat.min_self, szl1, szl2, szl3, szl4] at c8b1w)
            try have c8b2 : (9223372036854775807 < ((⟨#[100]⟩ : ByteArray) ++ t234).size + 1) = False := eq_false (Nat.not_lt.2 c8)
            try (have c8b2w := c8b2; simp only [ByteArray.size_append, ByteArray.size_extract, Nat.min_self, szl1, szl2, szl3, szl4] at c8b2w)
            simp only [Option.some.injEq, Prod.mk.injEq] at H
            obtain ⟨rfl, rfl, rfl, rfl⟩ := H
            go_enter Tryd.func44, Tryd.ntmps44
            go_wp2_with (first | ((with_reducible refine gate_callee (f := 84) rfl ?_); refine goesL_ (some 8) rfl rfl Tryd.func84 (by kernel_rfl) rfl #[.slice A0 l0.length c0] rfl (by (try simp only [List.map_toArray, List.map_cons, List.map_nil]); first | done | rfl | (simp only [List.length_drop, List.length_take]; rfl)) ?_; (with_reducible refine (rillbedref06_Right.calls k _ _ l0 true _ ?side1 ?side2 A2.out).mono ?_); (case side1 => repeat (first | exact HR0.out | (with_reducible refine Kd.C_alloc ?_ _) | (with_reducible refine Kd.C_drewN ?_ _) | (with_reducible refine Kd.C_drew ?_))); (case side2 => exact HC0.out); rintro e w' ⟨rfl, ⟨nd, rfl⟩⟩; refine ⟨_, rfl, ?_⟩) | ((with_reducible refine gate_callee (f := 86) rfl ?_); refine goesL_ (some 14) rfl rfl Tryd.func86 (by kernel_rfl) rfl #[.slice A0 l0.length c0] rfl (by (try simp only [List.map_toArray, List.map_cons, List.map_nil]); first | done | rfl | (simp only [List.length_drop, List.length_take]; rfl)) ?_; (with_reducible refine (rillbedref06_Joint.calls k _ _ l0 t234 _ ?side1 ?side2 A5.out).mono ?_); (case side1 => repeat (first | exact HR0.out | (with_reducible refine Kd.C_alloc ?_ _) | (with_reducible refine Kd.C_drewN ?_ _) | (with_reducible refine Kd.C_drew ?_))); (case side2 => exact HC0.out); rintro e w' ⟨rfl, ⟨nd, rfl⟩⟩; refine ⟨_, rfl, ?_⟩))
            refine bodyPost_ret (results_list (rs := [.tmp 2, .tmp 3, .tmp 4, .tmp 5]) rfl (by simp) (.tmp (.tmp (.tmp (.tmp .nil))))) rfl ?_
            exact ⟨by first | rfl | (simp; done) | (simp [*]; done), by repeat (first | exact Drawn0.refl _ | apply Drawn0.step)⟩
          · rw [if_neg c8] at H
            exact absurd H (by simp)
        · rw [if_neg c7] at H
          exact absurd H (by simp)
      · rw [if_neg c6] at H
        exact absurd H (by simp)
  · replace c3 := Bool.eq_false_iff.mpr c3
    subst c3
    have H1 : (some ((⟨#[]⟩ : ByteArray), (⟨#[]⟩ : ByteArray), (⟨#[]⟩ : ByteArray), (⟨#[]⟩ : ByteArray))) = some (r1, r2, r3, r4) := by rw [if_neg (show ¬ (false = true) by decide)] at H; exact H
    clear H
    have H := H1
    clear H1
    simp only [Option.some.injEq, Prod.mk.injEq] at H
    obtain ⟨rfl, rfl, rfl, rfl⟩ := H
    go_enter Tryd.func44, Tryd.ntmps44
    go_wp2_with (first | ((with_reducible refine gate_callee (f := 84) rfl ?_); refine goesL_ (some 8) rfl rfl Tryd.func84 (by kernel_rfl) rfl #[.slice A0 l0.length c0] rfl (by (try simp only [List.map_toArray, List.map_cons, List.map_nil]); first | done | rfl | (simp only [List.length_drop, List.length_take]; rfl)) ?_; (with_reducible refine (rillbedref06_Right.calls k _ _ l0 false _ ?side1 ?side2 A2.out).mono ?_); (case side1 => repeat (first | exact HR0.out | (with_reducible refine Kd.C_alloc ?_ _) | (with_reducible refine Kd.C_drewN ?_ _) | (with_reducible refine Kd.C_drew ?_))); (case side2 => exact HC0.out); rintro e w' ⟨rfl, ⟨nd, rfl⟩⟩; refine ⟨_, rfl, ?_⟩))
    refine bodyPost_ret (results_list (rs := [.tmp 2, .tmp 3, .tmp 4, .tmp 5]) rfl (by simp) (.tmp (.tmp (.tmp (.tmp .nil))))) rfl ?_
    exact ⟨by first | rfl | (simp; done) | (simp [*]; done), by repeat (first | exact Drawn0.refl _ | apply Drawn0.step)⟩

/-! ### rillbedref06_Meta: function 47 -/
def rillbedref06_Meta.f (k : Nat) (l0 : List ByteArray) : Option (ByteArray) := (rillbedref06_Right.f k l0).bind fun t235 => (if t235 = true then ((rillbedref06_Joint.f k l0).bind fun t236 => (if 1 + t236.size ≤ 9223372036854775807 then (some ((⟨#[109]⟩ : ByteArray) ++ t236)) else (none))) else (some (⟨#[]⟩ : ByteArray)))
theorem rillbedref06_Meta.mono : ∀ a0 k, LeO (rillbedref06_Meta.f k a0) (rillbedref06_Meta.f (k + 1) a0) := by
  intro a0 k
  unfold rillbedref06_Meta.f
  repeat' first
      | (with_reducible exact rillbedref06_Joint.mono _ _)
      | (with_reducible exact rillbedref06_Right.mono _ _)
      | (with_reducible exact LeO.refl _)
      | (with_reducible exact LeO.none _)
      | (with_reducible refine LeO.ite ?_ ?_)
      | (with_reducible refine LeO.bind ?_ (fun _ => ?_))
      | exact rillbedref06_Joint.mono _ _
      | exact rillbedref06_Right.mono _ _
      | exact LeO.none _
      | refine LeO.ite ?_ ?_
      | refine LeO.bind ?_ (fun _ => ?_)
set_option maxHeartbeats 8000000 in
set_option maxRecDepth 100000 in
theorem rillbedref06_Meta.calls (k : Nat) (A0 : Option Addr) (c0 : Nat) (l0 : List ByteArray) (r : ByteArray) (w : World) (hr0 : Kd.C Kd.string w A0 l0.length l0) (hc0 : l0.length ≤ c0) (h : rillbedref06_Meta.f k l0 = some r) :
    Calls Tryd.prog 47 #[.slice A0 l0.length c0] w fun e w' => e = .returned (.string r) ∧ Drawn0 w w' := by
  have HR0 := Aside0.mk hr0
  have HC0 := Aside0.mk hc0
  clear hr0 hc0
  have H : ((rillbedref06_Right.f k l0).bind fun t235 => (if t235 = true then ((rillbedref06_Joint.f k l0).bind fun t236 => (if 1 + t236.size ≤ 9223372036854775807 then (some ((⟨#[109]⟩ : ByteArray) ++ t236)) else (none))) else (some (⟨#[]⟩ : ByteArray)))) = some r := h
  clear h
  replace H := Option.bind_eq_some_iff.mp H
  obtain ⟨t235, A20, H⟩ := H
  replace H : (if t235 = true then ((rillbedref06_Joint.f k l0).bind fun t236 => (if 1 + t236.size ≤ 9223372036854775807 then (some ((⟨#[109]⟩ : ByteArray) ++ t236)) else (none))) else (some (⟨#[]⟩ : ByteArray))) = some r := H
  have A2 := Aside0.mk A20
  clear A20
  by_cases c3 : t235 = true
  · subst c3
    have H1 : ((rillbedref06_Joint.f k l0).bind fun t236 => (if 1 + t236.size ≤ 9223372036854775807 then (some ((⟨#[109]⟩ : ByteArray) ++ t236)) else (none))) = some r := by rw [if_pos rfl] at H; exact H
    clear H
    have H := H1
    clear H1
    replace H := Option.bind_eq_some_iff.mp H
    obtain ⟨t236, A40, H⟩ := H
    replace H : (if 1 + t236.size ≤ 9223372036854775807 then (some ((⟨#[109]⟩ : ByteArray) ++ t236)) else (none)) = some r := H
    have A4 := Aside0.mk A40
    clear A40
    by_cases c5 : 1 + t236.size ≤ 9223372036854775807
    · rw [if_pos c5] at H
      have c5b0 := eq_true c5
      have c5b1 : decide (1 + t236.size ≤ 9223372036854775807) = true := decide_eq_true c5
      try have c5b2 : (9223372036854775807 < 1 + t236.size) = False := eq_false (Nat.not_lt.2 c5)
      obtain rfl := Option.some.inj H
      go_enter Tryd.func47, Tryd.ntmps47
      go_wp2_with (first | ((with_reducible refine gate_callee (f := 84) rfl ?_); refine goesL_ (some 4) rfl rfl Tryd.func84 (by kernel_rfl) rfl #[.slice A0 l0.length c0] rfl (by (try simp only [List.map_toArray, List.map_cons, List.map_nil]); first | done | rfl | (simp only [List.length_drop, List.length_take]; rfl)) ?_; (with_reducible refine (rillbedref06_Right.calls k _ _ l0 true _ ?side1 ?side2 A2.out).mono ?_); (case side1 => repeat (first | exact HR0.out | (with_reducible refine Kd.C_alloc ?_ _) | (with_reducible refine Kd.C_drewN ?_ _) | (with_reducible refine Kd.C_drew ?_))); (case side2 => exact HC0.out); rintro e w' ⟨rfl, ⟨nd, rfl⟩⟩; refine ⟨_, rfl, ?_⟩) | ((with_reducible refine gate_callee (f := 86) rfl ?_); refine goesL_ (some 7) rfl rfl Tryd.func86 (by kernel_rfl) rfl #[.slice A0 l0.length c0] rfl (by (try simp only [List.map_toArray, List.map_cons, List.map_nil]); first | done | rfl | (simp only [List.length_drop, List.length_take]; rfl)) ?_; (with_reducible refine (rillbedref06_Joint.calls k _ _ l0 t236 _ ?side1 ?side2 A4.out).mono ?_); (case side1 => repeat (first | exact HR0.out | (with_reducible refine Kd.C_alloc ?_ _) | (with_reducible refine Kd.C_drewN ?_ _) | (with_reducible refine Kd.C_drew ?_))); (case side2 => exact HC0.out); rintro e w' ⟨rfl, ⟨nd, rfl⟩⟩; refine ⟨_, rfl, ?_⟩))
      go_ret
      exact ⟨by first | rfl | (simp; done) | (simp [*]; done), by repeat (first | exact Drawn0.refl _ | apply Drawn0.step)⟩
    · rw [if_neg c5] at H
      exact absurd H (by simp)
  · replace c3 := Bool.eq_false_iff.mpr c3
    subst c3
    have H1 : (some (⟨#[]⟩ : ByteArray)) = some r := by rw [if_neg (show ¬ (false = true) by decide)] at H; exact H
    clear H
    have H := H1
    clear H1
    obtain rfl := Option.some.inj H
    go_enter Tryd.func47, Tryd.ntmps47
    go_wp2_with (first | ((with_reducible refine gate_callee (f := 84) rfl ?_); refine goesL_ (some 4) rfl rfl Tryd.func84 (by kernel_rfl) rfl #[.slice A0 l0.length c0] rfl (by (try simp only [List.map_toArray, List.map_cons, List.map_nil]); first | done | rfl | (simp only [List.length_drop, List.length_take]; rfl)) ?_; (with_reducible refine (rillbedref06_Right.calls k _ _ l0 false _ ?side1 ?side2 A2.out).mono ?_); (case side1 => repeat (first | exact HR0.out | (with_reducible refine Kd.C_alloc ?_ _) | (with_reducible refine Kd.C_drewN ?_ _) | (with_reducible refine Kd.C_drew ?_))); (case side2 => exact HC0.out); rintro e w' ⟨rfl, ⟨nd, rfl⟩⟩; refine ⟨_, rfl, ?_⟩))
    go_ret
    exact ⟨by first | rfl | (simp; done) | (simp [*]; done), by repeat (first | exact Drawn0.refl _ | apply Drawn0.step)⟩

/-! ### rillbedref06_Past: function 49 -/
def rillbedref06_Past.f (k : Nat) (l0 : List ByteArray) : Option (ByteArray) := (rillbedref06_Right.f k l0).bind fun t237 => (if t237 = true then (if (l0.length : Int) = 0 then (some (⟨#[110]⟩ : ByteArray)) else ((rillbedref06_Joint.f k l0).bind fun t238 => (if 1 + t238.size ≤ 9223372036854775807 then (if ((⟨#[109]⟩ : ByteArray) ++ t238).size + 1 ≤ 9223372036854775807 then (some (((⟨#[109]⟩ : ByteArray) ++ t238) ++ (⟨#[1]⟩ : ByteArray))) else (none)) else (none)))) else (some (⟨#[]⟩ : ByteArray)))
theorem rillbedref06_Past.mono : ∀ a0 k, LeO (rillbedref06_Past.f k a0) (rillbedref06_Past.f (k + 1) a0) := by
  intro a0 k
  unfold rillbedref06_Past.f
  repeat' first
      | (with_reducible exact rillbedref06_Joint.mono _ _)
      | (with_reducible exact rillbedref06_Right.mono _ _)
      | (with_reducible exact LeO.refl _)
      | (with_reducible exact LeO.none _)
      | (with_reducible refine LeO.ite ?_ ?_)
      | (with_reducible refine LeO.bind ?_ (fun _ => ?_))
      | exact rillbedref06_Joint.mono _ _
      | exact rillbedref06_Right.mono _ _
      | exact LeO.none _
      | refine LeO.ite ?_ ?_
      | refine LeO.bind ?_ (fun _ => ?_)
set_option maxHeartbeats 8000000 in
set_option maxRecDepth 100000 in
theorem rillbedref06_Past.calls (k : Nat) (A0 : Option Addr) (c0 : Nat) (l0 : List ByteArray) (r : ByteArray) (w : World) (hr0 : Kd.C Kd.string w A0 l0.length l0) (hc0 : l0.length ≤ c0) (h : rillbedref06_Past.f k l0 = some r) :
    Calls Tryd.prog 49 #[.slice A0 l0.length c0] w fun e w' => e = .returned (.string r) ∧ Drawn0 w w' := by
  have HR0 := Aside0.mk hr0
  have HC0 := Aside0.mk hc0
  clear hr0 hc0
  have H : ((rillbedref06_Right.f k l0).bind fun t237 => (if t237 = true then (if (l0.length : Int) = 0 then (some (⟨#[110]⟩ : ByteArray)) else ((rillbedref06_Joint.f k l0).bind fun t238 => (if 1 + t238.size ≤ 9223372036854775807 then (if ((⟨#[109]⟩ : ByteArray) ++ t238).size + 1 ≤ 9223372036854775807 then (some (((⟨#[109]⟩ : ByteArray) ++ t238) ++ (⟨#[1]⟩ : ByteArray))) else (none)) else (none)))) else (some (⟨#[]⟩ : ByteArray)))) = some r := h
  clear h
  replace H := Option.bind_eq_some_iff.mp H
  obtain ⟨t237, A20, H⟩ := H
  replace H : (if t237 = true then (if (l0.length : Int) = 0 then (some (⟨#[110]⟩ : ByteArray)) else ((rillbedref06_Joint.f k l0).bind fun t238 => (if 1 + t238.size ≤ 9223372036854775807 then (if ((⟨#[109]⟩ : ByteArray) ++ t238).size + 1 ≤ 9223372036854775807 then (some (((⟨#[109]⟩ : ByteArray) ++ t238) ++ (⟨#[1]⟩ : ByteArray))) else (none)) else (none)))) else (some (⟨#[]⟩ : ByteArray))) = some r := H
  have A2 := Aside0.mk A20
  clear A20
  by_cases c3 : t237 = true
  · subst c3
    have H1 : (if (l0.length : Int) = 0 then (some (⟨#[110]⟩ : ByteArray)) else ((rillbedref06_Joint.f k l0).bind fun t238 => (if 1 + t238.size ≤ 9223372036854775807 then (if ((⟨#[109]⟩ : ByteArray) ++ t238).size + 1 ≤ 9223372036854775807 then (some (((⟨#[109]⟩ : ByteArray) ++ t238) ++ (⟨#[1]⟩ : ByteArray))) else (none)) else (none)))) = some r := by rw [if_pos rfl] at H; exact H
    clear H
    have H := H1
    clear H1
    by_cases c4 : (l0.length : Int) = 0
    · rw [if_pos c4] at H
      have c4b0 : ((l0.length : Int) == 0) = true := beq_iff_eq.mpr c4
      have c4b1 : ((l0.length : Int) != 0) = false := bne_eq_false_iff_eq.mpr c4
      clear c4
      obtain rfl := Option.some.inj H
      go_enter Tryd.func49, Tryd.ntmps49
      go_wp2_with (first | ((with_reducible refine gate_callee (f := 84) rfl ?_); refine goesL_ (some 4) rfl rfl Tryd.func84 (by kernel_rfl) rfl #[.slice A0 l0.length c0] rfl (by (try simp only [List.map_toArray, List.map_cons, List.map_nil]); first | done | rfl | (simp only [List.length_drop, List.length_take]; rfl)) ?_; (with_reducible refine (rillbedref06_Right.calls k _ _ l0 true _ ?side1 ?side2 A2.out).mono ?_); (case side1 => repeat (first | exact HR0.out | (with_reducible refine Kd.C_alloc ?_ _) | (with_reducible refine Kd.C_drewN ?_ _) | (with_reducible refine Kd.C_drew ?_))); (case side2 => exact HC0.out); rintro e w' ⟨rfl, ⟨nd, rfl⟩⟩; refine ⟨_, rfl, ?_⟩))
      go_ret
      exact ⟨by first | rfl | (simp; done) | (simp [*]; done), by repeat (first | exact Drawn0.refl _ | apply Drawn0.step)⟩
    · rw [if_neg c4] at H
      have c4b0 : ((l0.length : Int) == 0) = false := beq_eq_false_iff_ne.mpr c4
      have c4b1 : ((l0.length : Int) != 0) = true := bne_iff_ne.mpr c4
      have c4b2 : ¬ (l0 = []) := fun h_ => c4 (by rw [h_]; rfl)
      replace H := Option.bind_eq_some_iff.mp H
      obtain ⟨t238, A50, H⟩ := H
      replace H : (if 1 + t238.size ≤ 9223372036854775807 then (if ((⟨#[109]⟩ : ByteArray) ++ t238).size + 1 ≤ 9223372036854775807 then (some (((⟨#[109]⟩ : ByteArray) ++ t238) ++ (⟨#[1]⟩ : ByteArray))) else (none)) else (none)) = some r := H
      have A5 := Aside0.mk A50
      clear A50
      by_cases c6 : 1 + t238.size ≤ 9223372036854775807
      · rw [if_pos c6] at H
        have c6b0 := eq_true c6
        have c6b1 : decide (1 + t238.size ≤ 9223372036854775807) = true := decide_eq_true c6
        try have c6b2 : (9223372036854775807 < 1 + t238.size) = False := eq_false (Nat.not_lt.2 c6)
        by_cases c7 : ((⟨#[109]⟩ : ByteArray) ++ t238).size + 1 ≤ 9223372036854775807
        · rw [if_pos c7] at H
          have c7b0 := eq_true c7
          try (have c7b0w := c7b0; simp only [ByteArray.size_append, ByteArray.size_extract, Nat.min_self, szl1, szl2, szl3, szl4] at c7b0w)
          have c7b1 : decide (((⟨#[109]⟩ : ByteArray) ++ t238).size + 1 ≤ 9223372036854775807) = true := decide_eq_true c7
          try (have c7b1w := c7b1; simp only [ByteArray.size_append, ByteArray.size_extract, Nat.min_self, szl1, szl2, szl3, szl4] at c7b1w)
          try have c7b2 : (9223372036854775807 < ((⟨#[109]⟩ : ByteArray) ++ t238).size + 1) = False := eq_false (Nat.not_lt.2 c7)
          try (have c7b2w := c7b2; simp only [ByteArray.size_append, ByteArray.size_extract, Nat.min_self, szl1, szl2, szl3, szl4] at c7b2w)
          obtain rfl := Option.some.inj H
          go_enter Tryd.func49, Tryd.ntmps49
          go_wp2_with (first | ((with_reducible refine gate_callee (f := 84) rfl ?_); refine goesL_ (some 4) rfl rfl Tryd.func84 (by kernel_rfl) rfl #[.slice A0 l0.length c0] rfl (by (try simp only [List.map_toArray, List.map_cons, List.map_nil]); first | done | rfl | (simp only [List.length_drop, List.length_take]; rfl)) ?_; (with_reducible refine (rillbedref06_Right.calls k _ _ l0 true _ ?side1 ?side2 A2.out).mono ?_); (case side1 => repeat (first | exact HR0.out | (with_reducible refine Kd.C_alloc ?_ _) | (with_reducible refine Kd.C_drewN ?_ _) | (with_reducible refine Kd.C_drew ?_))); (case side2 => exact HC0.out); rintro e w' ⟨rfl, ⟨nd, rfl⟩⟩; refine ⟨_, rfl, ?_⟩) | ((with_reducible refine gate_callee (f := 86) rfl ?_); refine goesL_ (some 10) rfl rfl Tryd.func86 (by kernel_rfl) rfl #[.slice A0 l0.length c0] rfl (by (try simp only [List.map_toArray, List.map_cons, List.map_nil]); first | done | rfl | (simp only [List.length_drop, List.length_take]; rfl)) ?_; (with_reducible refine (rillbedref06_Joint.calls k _ _ l0 t238 _ ?side1 ?side2 A5.out).mono ?_); (case side1 => repeat (first | exact HR0.out | (with_reducible refine Kd.C_alloc ?_ _) | (with_reducible refine Kd.C_drewN ?_ _) | (with_reducible refine Kd.C_drew ?_))); (case side2 => exact HC0.out); rintro e w' ⟨rfl, ⟨nd, rfl⟩⟩; refine ⟨_, rfl, ?_⟩))
          go_ret
          exact ⟨by first | rfl | (simp; done) | (simp [*]; done), by repeat (first | exact Drawn0.refl _ | apply Drawn0.step)⟩
        · rw [if_neg c7] at H
          exact absurd H (by simp)
      · rw [if_neg c6] at H
        exact absurd H (by simp)
  · replace c3 := Bool.eq_false_iff.mpr c3
    subst c3
    have H1 : (some (⟨#[]⟩ : ByteArray)) = some r := by rw [if_neg (show ¬ (false = true) by decide)] at H; exact H
    clear H
    have H := H1
    clear H1
    obtain rfl := Option.some.inj H
    go_enter Tryd.func49, Tryd.ntmps49
    go_wp2_with (first | ((with_reducible refine gate_callee (f := 84) rfl ?_); refine goesL_ (some 4) rfl rfl Tryd.func84 (by kernel_rfl) rfl #[.slice A0 l0.length c0] rfl (by (try simp only [List.map_toArray, List.map_cons, List.map_nil]); first | done | rfl | (simp only [List.length_drop, List.length_take]; rfl)) ?_; (with_reducible refine (rillbedref06_Right.calls k _ _ l0 false _ ?side1 ?side2 A2.out).mono ?_); (case side1 => repeat (first | exact HR0.out | (with_reducible refine Kd.C_alloc ?_ _) | (with_reducible refine Kd.C_drewN ?_ _) | (with_reducible refine Kd.C_drew ?_))); (case side2 => exact HC0.out); rintro e w' ⟨rfl, ⟨nd, rfl⟩⟩; refine ⟨_, rfl, ?_⟩))
    go_ret
    exact ⟨by first | rfl | (simp; done) | (simp [*]; done), by repeat (first | exact Drawn0.refl _ | apply Drawn0.step)⟩

/-! ### rillbedref06_Below: function 45 -/
def rillbedref06_Below.f (k : Nat) (l0 : List ByteArray) : Option (ByteArray × ByteArray) := (rillbedref06_Right.f k l0).bind fun t239 => (if t239 = true then ((rillbedref06_Meta.f k l0).bind fun t240 => (if t240.size + 1 ≤ 9223372036854775807 then ((rillbedref06_Past.f k l0).bind fun t241 => (some (t240 ++ (⟨#[0]⟩ : ByteArray), t241))) else (none))) else (some ((⟨#[]⟩ : ByteArray), (⟨#[]⟩ : ByteArray))))
theorem rillbedref06_Below.mono : ∀ a0 k, LeO (rillbedref06_Below.f k a0) (rillbedref06_Below.f (k + 1) a0) := by
  intro a0 k
  unfold rillbedref06_Below.f
  repeat' first
      | (with_reducible exact rillbedref06_Meta.mono _ _)
      | (with_reducible exact rillbedref06_Past.mono _ _)
      | (with_reducible exact rillbedref06_Right.mono _ _)
      | (with_reducible exact LeO.refl _)
      | (with_reducible exact LeO.none _)
      | (with_reducible refine LeO.ite ?_ ?_)
      | (with_reducible refine LeO.bind ?_ (fun _ => ?_))
      | exact rillbedref06_Meta.mono _ _
      | exact rillbedref06_Past.mono _ _
      | exact rillbedref06_Right.mono _ _
      | exact LeO.none _
      | refine LeO.ite ?_ ?_
      | refine LeO.bind ?_ (fun _ => ?_)
set_option maxHeartbeats 8000000 in
set_option maxRecDepth 100000 in
theorem rillbedref06_Below.calls (k : Nat) (A0 : Option Addr) (c0 : Nat) (l0 : List ByteArray) (r1 : ByteArray) (r2 : ByteArray) (w : World) (hr0 : Kd.C Kd.string w A0 l0.length l0) (hc0 : l0.length ≤ c0) (h : rillbedref06_Below.f k l0 = some (r1, r2)) :
    Calls Tryd.prog 45 #[.slice A0 l0.length c0] w fun e w' => e = .returned (.tuple #[.string r1, .string r2]) ∧ Drawn0 w w' := by
  have HR0 := Aside0.mk hr0
  have HC0 := Aside0.mk hc0
  clear hr0 hc0
  have H : ((rillbedref06_Right.f k l0).bind fun t239 => (if t239 = true then ((rillbedref06_Meta.f k l0).bind fun t240 => (if t240.size + 1 ≤ 9223372036854775807 then ((rillbedref06_Past.f k l0).bind fun t241 => (some (t240 ++ (⟨#[0]⟩ : ByteArray), t241))) else (none))) else (some ((⟨#[]⟩ : ByteArray), (⟨#[]⟩ : ByteArray))))) = some (r1, r2) := h
  clear h
  replace H := Option.bind_eq_some_iff.mp H
  obtain ⟨t239, A20, H⟩ := H
  replace H : (if t239 = true then ((rillbedref06_Meta.f k l0).bind fun t240 => (if t240.size + 1 ≤ 9223372036854775807 then ((rillbedref06_Past.f k l0).bind fun t241 => (some (t240 ++ (⟨#[0]⟩ : ByteArray), t241))) else (none))) else (some ((⟨#[]⟩ : ByteArray), (⟨#[]⟩ : ByteArray)))) = some (r1, r2) := H
  have A2 := Aside0.mk A20
  clear A20
  by_cases c3 : t239 = true
  · subst c3
    have H1 : ((rillbedref06_Meta.f k l0).bind fun t240 => (if t240.size + 1 ≤ 9223372036854775807 then ((rillbedref06_Past.f k l0).bind fun t241 => (some (t240 ++ (⟨#[0]⟩ : ByteArray), t241))) else (none))) = some (r1, r2) := by rw [if_pos rfl] at H; exact H
    clear H
    have H := H1
    clear H1
    replace H := Option.bind_eq_some_iff.mp H
    obtain ⟨t240, A40, H⟩ := H
    replace H : (if t240.size + 1 ≤ 9223372036854775807 then ((rillbedref06_Past.f k l0).bind fun t241 => (some (t240 ++ (⟨#[0]⟩ : ByteArray), t241))) else (none)) = some (r1, r2) := H
    have A4 := Aside0.mk A40
    clear A40
    by_cases c5 : t240.size + 1 ≤ 9223372036854775807
    · rw [if_pos c5] at H
      have c5b0 := eq_true c5
      have c5b1 : decide (t240.size + 1 ≤ 9223372036854775807) = true := decide_eq_true c5
      try have c5b2 : (9223372036854775807 < t240.size + 1) = False := eq_false (Nat.not_lt.2 c5)
      replace H := Option.bind_eq_some_iff.mp H
      obtain ⟨t241, A60, H⟩ := H
      replace H : (some (t240 ++ (⟨#[0]⟩ : ByteArray), t241)) = some (r1, r2) := H
      have A6 := Aside0.mk A60
      clear A60
      simp only [Option.some.injEq, Prod.mk.injEq] at H
      obtain ⟨rfl, rfl⟩ := H
      go_enter Tryd.func45, Tryd.ntmps45
      go_wp2_with (first | ((with_reducible refine gate_callee (f := 84) rfl ?_); refine goesL_ (some 5) rfl rfl Tryd.func84 (by kernel_rfl) rfl #[.slice A0 l0.length c0] rfl (by (try simp only [List.map_toArray, List.map_cons, List.map_nil]); first | done | rfl | (simp only [List.length_drop, List.length_take]; rfl)) ?_; (with_reducible refine (rillbedref06_Right.calls k _ _ l0 true _ ?side1 ?side2 A2.out).mono ?_); (case side1 => repeat (first | exact HR0.out | (with_reducible refine Kd.C_alloc ?_ _) | (with_reducible refine Kd.C_drewN ?_ _) | (with_reducible refine Kd.C_drew ?_))); (case side2 => exact HC0.out); rintro e w' ⟨rfl, ⟨nd, rfl⟩⟩; refine ⟨_, rfl, ?_⟩) | ((with_reducible refine gate_callee (f := 47) rfl ?_); refine goesL_ (some 8) rfl rfl Tryd.func47 (by kernel_rfl) rfl #[.slice A0 l0.length c0] rfl (by (try simp only [List.map_toArray, List.map_cons, List.map_nil]); first | done | rfl | (simp only [List.length_drop, List.length_take]; rfl)) ?_; (with_reducible refine (rillbedref06_Meta.calls k _ _ l0 t240 _ ?side1 ?side2 A4.out).mono ?_); (case side1 => repeat (first | exact HR0.out | (with_reducible refine Kd.C_alloc ?_ _) | (with_reducible refine Kd.C_drewN ?_ _) | (with_reducible refine Kd.C_drew ?_))); (case side2 => exact HC0.out); rintro e w' ⟨rfl, ⟨nd, rfl⟩⟩; refine ⟨_, rfl, ?_⟩) | ((with_reducible refine gate_callee (f := 49) rfl ?_); refine goesL_ (some 11) rfl rfl Tryd.func49 (by kernel_rfl) rfl #[.slice A0 l0.length c0] rfl (by (try simp only [List.map_toArray, List.map_cons, List.map_nil]); first | done | rfl | (simp only [List.length_drop, List.length_take]; rfl)) ?_; (with_reducible refine (rillbedref06_Past.calls k _ _ l0 t241 _ ?side1 ?side2 A6.out).mono ?_); (case side1 => repeat (first | exact HR0.out | (with_reducible refine Kd.C_alloc ?_ _) | (with_reducible refine Kd.C_drewN ?_ _) | (with_reducible refine Kd.C_drew ?_))); (case side2 => exact HC0.out); rintro e w' ⟨rfl, ⟨nd, rfl⟩⟩; refine ⟨_, rfl, ?_⟩))
      go_ret2
      exact ⟨by first | rfl | (simp; done) | (simp [*]; done), by repeat (first | exact Drawn0.refl _ | apply Drawn0.step)⟩
    · rw [if_neg c5] at H
      exact absurd H (by simp)
  · replace c3 := Bool.eq_false_iff.mpr c3
    subst c3
    have H1 : (some ((⟨#[]⟩ : ByteArray), (⟨#[]⟩ : ByteArray))) = some (r1, r2) := by rw [if_neg (show ¬ (false = true) by decide)] at H; exact H
    clear H
    have H := H1
    clear H1
    simp only [Option.some.injEq, Prod.mk.injEq] at H
    obtain ⟨rfl, rfl⟩ := H
    go_enter Tryd.func45, Tryd.ntmps45
    go_wp2_with (first | ((with_reducible refine gate_callee (f := 84) rfl ?_); refine goesL_ (some 5) rfl rfl Tryd.func84 (by kernel_rfl) rfl #[.slice A0 l0.length c0] rfl (by (try simp only [List.map_toArray, List.map_cons, List.map_nil]); first | done | rfl | (simp only [List.length_drop, List.length_take]; rfl)) ?_; (with_reducible refine (rillbedref06_Right.calls k _ _ l0 false _ ?side1 ?side2 A2.out).mono ?_); (case side1 => repeat (first | exact HR0.out | (with_reducible refine Kd.C_alloc ?_ _) | (with_reducible refine Kd.C_drewN ?_ _) | (with_reducible refine Kd.C_drew ?_))); (case side2 => exact HC0.out); rintro e w' ⟨rfl, ⟨nd, rfl⟩⟩; refine ⟨_, rfl, ?_⟩))
    go_ret2
    exact ⟨by first | rfl | (simp; done) | (simp [*]; done), by repeat (first | exact Drawn0.refl _ | apply Drawn0.step)⟩

/-! ### rillbedref06_Blocks: function 46 -/
def rillbedref06_Blocks.f (k : Nat) (l0 : List ByteArray) : Option (ByteArray × ByteArray) := (rillbedref06_Right.f k l0).bind fun t242 => (if t242 = true then ((rillbedref06_Joint.f k l0).bind fun t243 => (if 1 + t243.size ≤ 9223372036854775807 then (if ((⟨#[100]⟩ : ByteArray) ++ t243).size + 2 ≤ 9223372036854775807 then ((rillbedref06_Joint.f k l0).bind fun t244 => (if 1 + t244.size ≤ 9223372036854775807 then (if ((⟨#[100]⟩ : ByteArray) ++ t244).size + 2 ≤ 9223372036854775807 then (some (((⟨#[100]⟩ : ByteArray) ++ t243) ++ (⟨#[0, 0]⟩ : ByteArray), ((⟨#[100]⟩ : ByteArray) ++ t244) ++ (⟨#[0, 1]⟩ : ByteArray))) else (none)) else (none))) else (none)) else (none))) else (some ((⟨#[]⟩ : ByteArray), (⟨#[]⟩ : ByteArray))))
theorem rillbedref06_Blocks.mono : ∀ a0 k, LeO (rillbedref06_Blocks.f k a0) (rillbedref06_Blocks.f (k + 1) a0) := by
  intro a0 k
  unfold rillbedref06_Blocks.f
  repeat' first
      | (with_reducible exact rillbedref06_Joint.mono _ _)
      | (with_reducible exact rillbedref06_Right.mono _ _)
      | (with_reducible exact LeO.refl _)
      | (with_reducible exact LeO.none _)
      | (with_reducible refine LeO.ite ?_ ?_)
      | (with_reducible refine LeO.bind ?_ (fun _ => ?_))
      | exact rillbedref06_Joint.mono _ _
      | exact rillbedref06_Right.mono _ _
      | exact LeO.none _
      | refine LeO.ite ?_ ?_
      | refine LeO.bind ?_ (fun _ => ?_)
set_option maxHeartbeats 8000000 in
set_option maxRecDepth 100000 in
theorem rillbedref06_Blocks.calls (k : Nat) (A0 : Option Addr) (c0 : Nat) (l0 : List ByteArray) (r1 : ByteArray) (r2 : ByteArray) (w : World) (hr0 : Kd.C Kd.string w A0 l0.length l0) (hc0 : l0.length ≤ c0) (h : rillbedref06_Blocks.f k l0 = some (r1, r2)) :
    Calls Tryd.prog 46 #[.slice A0 l0.length c0] w fun e w' => e = .returned (.tuple #[.string r1, .string r2]) ∧ Drawn0 w w' := by
  have HR0 := Aside0.mk hr0
  have HC0 := Aside0.mk hc0
  clear hr0 hc0
  have H : ((rillbedref06_Right.f k l0).bind fun t242 => (if t242 = true then ((rillbedref06_Joint.f k l0).bind fun t243 => (if 1 + t243.size ≤ 9223372036854775807 then (if ((⟨#[100]⟩ : ByteArray) ++ t243).size + 2 ≤ 9223372036854775807 then ((rillbedref06_Joint.f k l0).bind fun t244 => (if 1 + t244.size ≤ 9223372036854775807 then (if ((⟨#[100]⟩ : ByteArray) ++ t244).size + 2 ≤ 9223372036854775807 then (some (((⟨#[100]⟩ : ByteArray) ++ t243) ++ (⟨#[0, 0]⟩ : ByteArray), ((⟨#[100]⟩ : ByteArray) ++ t244) ++ (⟨#[0, 1]⟩ : ByteArray))) else (none)) else (none))) else (none)) else (none))) else (some ((⟨#[]⟩ : ByteArray), (⟨#[]⟩ : ByteArray))))) = some (r1, r2) := h
  clear h
  replace H := Option.bind_eq_some_iff.mp H
  obtain ⟨t242, A20, H⟩ := H
  replace H : (if t242 = true then ((rillbedref06_Joint.f k l0).bind fun t243 => (if 1 + t243.size ≤ 9223372036854775807 then (if ((⟨#[100]⟩ : ByteArray) ++ t243).size + 2 ≤ 9223372036854775807 then ((rillbedref06_Joint.f k l0).bind fun t244 => (if 1 + t244.size ≤ 9223372036854775807 then (if ((⟨#[100]⟩ : ByteArray) ++ t244).size + 2 ≤ 9223372036854775807 then (some (((⟨#[100]⟩ : ByteArray) ++ t243) ++ (⟨#[0, 0]⟩ : ByteArray), ((⟨#[100]⟩ : ByteArray) ++ t244) ++ (⟨#[0, 1]⟩ : ByteArray))) else (none)) else (none))) else (none)) else (none))) else (some ((⟨#[]⟩ : ByteArray), (⟨#[]⟩ : ByteArray)))) = some (r1, r2) := H
  have A2 := Aside0.mk A20
  clear A20
  by_cases c3 : t242 = true
  · subst c3
    have H1 : ((rillbedref06_Joint.f k l0).bind fun t243 => (if 1 + t243.size ≤ 9223372036854775807 then (if ((⟨#[100]⟩ : ByteArray) ++ t243).size + 2 ≤ 9223372036854775807 then ((rillbedref06_Joint.f k l0).bind fun t244 => (if 1 + t244.size ≤ 9223372036854775807 then (if ((⟨#[100]⟩ : ByteArray) ++ t244).size + 2 ≤ 9223372036854775807 then (some (((⟨#[100]⟩ : ByteArray) ++ t243) ++ (⟨#[0, 0]⟩ : ByteArray), ((⟨#[100]⟩ : ByteArray) ++ t244) ++ (⟨#[0, 1]⟩ : ByteArray))) else (none)) else (none))) else (none)) else (none))) = some (r1, r2) := by rw [if_pos rfl] at H; exact H
    clear H
    have H := H1
    clear H1
    replace H := Option.bind_eq_some_iff.mp H
    obtain ⟨t243, A40, H⟩ := H
    replace H : (if 1 + t243.size ≤ 9223372036854775807 then (if ((⟨#[100]⟩ : ByteArray) ++ t243).size + 2 ≤ 9223372036854775807 then ((rillbedref06_Joint.f k l0).bind fun t244 => (if 1 + t244.size ≤ 9223372036854775807 then (if ((⟨#[100]⟩ : ByteArray) ++ t244).size + 2 ≤ 9223372036854775807 then (some (((⟨#[100]⟩ : ByteArray) ++ t243) ++ (⟨#[0, 0]⟩ : ByteArray), ((⟨#[100]⟩ : ByteArray) ++ t244) ++ (⟨#[0, 1]⟩ : ByteArray))) else (none)) else (none))) else (none)) else (none)) = some (r1, r2) := H
    have A4 := Aside0.mk A40
    clear A40
    by_cases c5 : 1 + t243.size ≤ 9223372036854775807
    · rw [if_pos c5] at H
      have c5b0 := eq_true c5
      have c5b1 : decide (1 + t243.size ≤ 9223372036854775807) = true := decide_eq_true c5
      try have c5b2 : (9223372036854775807 < 1 + t243.size) = False := eq_false (Nat.not_lt.2 c5)
      by_cases c6 : ((⟨#[100]⟩ : ByteArray) ++ t243).size + 2 ≤ 9223372036854775807
      · rw [if_pos c6] at H
        have c6b0 := eq_true c6
        try (have c6b0w := c6b0; simp only [ByteArray.size_append, ByteArray.size_extract, Nat.min_self, szl1, szl2, szl3, szl4] at c6b0w)
        have c6b1 : decide (((⟨#[100]⟩ : ByteArray) ++ t243).size + 2 ≤ 9223372036854775807) = true := decide_eq_true c6
        try (have c6b1w := c6b1; simp only [ByteArray.size_append, ByteArray.size_extract, Nat.min_self, szl1, szl2, szl3, szl4] at c6b1w)
        try have c6b2 : (9223372036854775807 < ((⟨#[100]⟩ : ByteArray) ++ t243).size + 2) = False := eq_false (Nat.not_lt.2 c6)
        try (have c6b2w := c6b2; simp only [ByteArray.size_append, ByteArray.size_extract, Nat.min_self, szl1, szl2, szl3, szl4] at c6b2w)
        replace H := Option.bind_eq_some_iff.mp H
        obtain ⟨t244, A70, H⟩ := H
        replace H : (if 1 + t244.size ≤ 9223372036854775807 then (if ((⟨#[100]⟩ : ByteArray) ++ t244).size + 2 ≤ 9223372036854775807 then (some (((⟨#[100]⟩ : ByteArray) ++ t243) ++ (⟨#[0, 0]⟩ : ByteArray), ((⟨#[100]⟩ : ByteArray) ++ t244) ++ (⟨#[0, 1]⟩ : ByteArray))) else (none)) else (none)) = some (r1, r2) := H
        have A7 := Aside0.mk A70
        clear A70
        by_cases c8 : 1 + t244.size ≤ 9223372036854775807
        · rw [if_pos c8] at H
          have c8b0 := eq_true c8
          have c8b1 : decide (1 + t244.size ≤ 9223372036854775807) = true := decide_eq_true c8
          try have c8b2 : (9223372036854775807 < 1 + t244.size) = False := eq_false (Nat.not_lt.2 c8)
          by_cases c9 : ((⟨#[100]⟩ : ByteArray) ++ t244).size + 2 ≤ 9223372036854775807
          · rw [if_pos c9] at H
            have c9b0 := eq_true c9
            try (have c9b0w := c9b0; simp only [ByteArray.size_append, ByteArray.size_extract, Nat.min_self, szl1, szl2, szl3, szl4] at c9b0w)
            have c9b1 : decide (((⟨#[100]⟩ : ByteArray) ++ t244).size + 2 ≤ 9223372036854775807) = true := decide_eq_true c9
            try (have c9b1w := c9b1; simp only [ByteArray.size_append, ByteArray.size_extract, Nat.min_self, szl1, szl2, szl3, szl4] at c9b1w)
            try have c9b2 : (9223372036854775807 < ((⟨#[100]⟩ : ByteArray) ++ t244).size + 2) = False := eq_false (Nat.not_lt.2 c9)
            try (have c9b2w := c9b2; simp only [ByteArray.size_append, ByteArray.size_extract, Nat.min_self, szl1, szl2, szl3, szl4] at c9b2w)
            simp only [Option.some.injEq, Prod.mk.injEq] at H
            obtain ⟨rfl, rfl⟩ := H
            go_enter Tryd.func46, Tryd.ntmps46
            go_wp2_with (first | ((with_reducible refine gate_callee (f := 84) rfl ?_); refine goesL_ (some 5) rfl rfl Tryd.func84 (by kernel_rfl) rfl #[.slice A0 l0.length c0] rfl (by (try simp only [List.map_toArray, List.map_cons, List.map_nil]); first | done | rfl | (simp only [List.length_drop, List.length_take]; rfl)) ?_; (with_reducible refine (rillbedref06_Right.calls k _ _ l0 true _ ?side1 ?side2 A2.out).mono ?_); (case side1 => repeat (first | exact HR0.out | (with_reducible refine Kd.C_alloc ?_ _) | (with_reducible refine Kd.C_drewN ?_ _) | (with_reducible refine Kd.C_drew ?_))); (case side2 => exact HC0.out); rintro e w' ⟨rfl, ⟨nd, rfl⟩⟩; refine ⟨_, rfl, ?_⟩) | ((with_reducible refine gate_callee (f := 86) rfl ?_); refine goesL_ (some 8) rfl rfl Tryd.func86 (by kernel_rfl) rfl #[.slice A0 l0.length c0] rfl (by (try simp only [List.map_toArray, List.map_cons, List.map_nil]); first | done | rfl | (simp only [List.length_drop, List.length_take]; rfl)) ?_; (with_reducible refine (rillbedref06_Joint.calls k _ _ l0 t243 _ ?side1 ?side2 A4.out).mono ?_); (case side1 => repeat (first | exact HR0.out | (with_reducible refine Kd.C_alloc ?_ _) | (with_reducible refine Kd.C_drewN ?_ _) | (with_reducible refine Kd.C_drew ?_))); (case side2 => exact HC0.out); rintro e w' ⟨rfl, ⟨nd, rfl⟩⟩; refine ⟨_, rfl, ?_⟩) | ((with_reducible refine gate_callee (f := 86) rfl ?_); refine goesL_ (some 12) rfl rfl Tryd.func86 (by kernel_rfl) rfl #[.slice A0 l0.length c0] rfl (by (try simp only [List.map_toArray, List.map_cons, List.map_nil]); first | done | rfl | (simp only [List.length_drop, List.length_take]; rfl)) ?_; (with_reducible refine (rillbedref06_Joint.calls k _ _ l0 t244 _ ?side1 ?side2 A7.out).mono ?_); (case side1 => repeat (first | exact HR0.out | (with_reducible refine Kd.C_alloc ?_ _) | (with_reducible refine Kd.C_drewN ?_ _) | (with_reducible refine Kd.C_drew ?_))); (case side2 => exact HC0.out); rintro e w' ⟨rfl, ⟨nd, rfl⟩⟩; refine ⟨_, rfl, ?_⟩))
            go_ret2
            exact ⟨by first | rfl | (simp; done) | (simp [*]; done), by repeat (first | exact Drawn0.refl _ | apply Drawn0.step)⟩
          · rw [if_neg c9] at H
            exact absurd H (by simp)
        · rw [if_neg c8] at H
          exact absurd H (by simp)
      · rw [if_neg c6] at H
        exact absurd H (by simp)
    · rw [if_neg c5] at H
      exact absurd H (by simp)
  · replace c3 := Bool.eq_false_iff.mpr c3
    subst c3
    have H1 : (some ((⟨#[]⟩ : ByteArray), (⟨#[]⟩ : ByteArray))) = some (r1, r2) := by rw [if_neg (show ¬ (false = true) by decide)] at H; exact H
    clear H
    have H := H1
    clear H1
    simp only [Option.some.injEq, Prod.mk.injEq] at H
    obtain ⟨rfl, rfl⟩ := H
    go_enter Tryd.func46, Tryd.ntmps46
    go_wp2_with (first | ((with_reducible refine gate_callee (f := 84) rfl ?_); refine goesL_ (some 5) rfl rfl Tryd.func84 (by kernel_rfl) rfl #[.slice A0 l0.length c0] rfl (by (try simp only [List.map_toArray, List.map_cons, List.map_nil]); first | done | rfl | (simp only [List.length_drop, List.length_take]; rfl)) ?_; (with_reducible refine (rillbedref06_Right.calls k _ _ l0 false _ ?side1 ?side2 A2.out).mono ?_); (case side1 => repeat (first | exact HR0.out | (with_reducible refine Kd.C_alloc ?_ _) | (with_reducible refine Kd.C_drewN ?_ _) | (with_reducible refine Kd.C_drew ?_))); (case side2 => exact HC0.out); rintro e w' ⟨rfl, ⟨nd, rfl⟩⟩; refine ⟨_, rfl, ?_⟩))
    go_ret2
    exact ⟨by first | rfl | (simp; done) | (simp [*]; done), by repeat (first | exact Drawn0.refl _ | apply Drawn0.step)⟩

end Go.Proofs.YthafpbidfgmacaaDoor.Q
