-- Printed by a copy of the print program over stub bodies; what stood in the stubs' place is hand-made (post.py)
import Derived.Test.YtddepmeikglhgaaDoorR0
import Derived.Test.YtddepmeikglhgaaDoorRE
namespace Go.Proofs.YtddepmeikglhgaaDoor.Q
open Go.RowKit Go.Proofs.YtddepmeikglhgaaDoorW.PrintWords Go.Proofs.YtddepmeikglhgaaDoorW.PrintLast Go.Proofs.YtddepmeikglhgaaDoorW.PrintMore
attribute [local go_sem] max2_int min2_int max_two min_two max_three min_three max_four min_four   -- for this text's walks alone
set_option linter.unusedVariables false
set_option linter.unusedSimpArgs false

/-! ### rillbedref05_Text: function 17 -/
mutual
def rillbedref05_Text.j0 : Nat → ByteArray → List ByteArray → Bool → Option (ByteArray × Int)
  | 0, _, _, _ => none
  | k + 1, x0, x1, x19 => if x19 = true then (some ((⟨#[]⟩ : ByteArray), 4)) else (rillbedref05_Text.l0 k x0 x1 0)
def rillbedref05_Text.l0 : Nat → ByteArray → List ByteArray → Int → Option (ByteArray × Int)
  | 0, _, _, _ => none
  | k + 1, x0, x1, x6 => if x6 < (x1.length : Int) then (if 0 ≤ x6 then ((rillbedref05_Check.f k (rdOf ByteArray.empty x1 x6)).bind fun t200 => (if t200 = 0 then (rillbedref05_Text.l0 k x0 x1 (wrap64 (x6 + 1))) else (some ((⟨#[]⟩ : ByteArray), 4)))) else (none)) else (if (x1.length : Int) > 6 then (some ((⟨#[]⟩ : ByteArray), 3)) else (rillbedref05_Text.l1 k x0 x1 (⟨#[]⟩ : ByteArray) 0))
def rillbedref05_Text.l1 : Nat → ByteArray → List ByteArray → ByteArray → Int → Option (ByteArray × Int)
  | 0, _, _, _, _ => none
  | k + 1, x0, x1, x7, x8 => if x8 < (x1.length : Int) then (if x7.size + 1 ≤ 9223372036854775807 then (if 0 ≤ x8 then (if (x7 ++ (⟨#[47]⟩ : ByteArray)).size + (rdOf ByteArray.empty x1 x8).size ≤ 9223372036854775807 then (rillbedref05_Text.l1 k x0 x1 ((x7 ++ (⟨#[47]⟩ : ByteArray)) ++ (rdOf ByteArray.empty x1 x8)) (wrap64 (x8 + 1))) else (none)) else (none)) else (none)) else (if x7.toList = ([] : List UInt8) then (if x0.toList = ([] : List UInt8) then (some ((⟨#[47]⟩ : ByteArray), 0)) else (if x0.size + 1 ≤ 9223372036854775807 then (if (x0 ++ (⟨#[58]⟩ : ByteArray)).size + 1 ≤ 9223372036854775807 then (some ((x0 ++ (⟨#[58]⟩ : ByteArray)) ++ (⟨#[47]⟩ : ByteArray), 0)) else (none)) else (none))) else (if x0.toList = ([] : List UInt8) then (some (x7, 0)) else (if x0.size + 1 ≤ 9223372036854775807 then (if (x0 ++ (⟨#[58]⟩ : ByteArray)).size + x7.size ≤ 9223372036854775807 then (some ((x0 ++ (⟨#[58]⟩ : ByteArray)) ++ x7, 0)) else (none)) else (none))))
end
def rillbedref05_Text.f (k : Nat) (a0 : ByteArray) (l1 : List ByteArray) : Option (ByteArray × Int) := if a0.toList = ([] : List UInt8) then (rillbedref05_Text.j0 k a0 l1 false) else ((rillbedref05_Check.f k a0).bind fun t197 => (if t197 = 0 then ((rillbedref05_has.f k a0 58).bind fun t198 => (rillbedref05_Text.j0 k a0 l1 t198)) else (rillbedref05_Text.j0 k a0 l1 true)))
theorem rillbedref05_Text.mono_l : ∀ k, (∀ y0 y1 y2, LeO (rillbedref05_Text.j0 k y0 y1 y2) (rillbedref05_Text.j0 (k + 1) y0 y1 y2)) ∧ (∀ y0 y1 y2, LeO (rillbedref05_Text.l0 k y0 y1 y2) (rillbedref05_Text.l0 (k + 1) y0 y1 y2)) ∧ (∀ y0 y1 y2 y3, LeO (rillbedref05_Text.l1 k y0 y1 y2 y3) (rillbedref05_Text.l1 (k + 1) y0 y1 y2 y3))
  | 0 => ⟨fun _ _ _ r h => by simp [rillbedref05_Text.j0] at h, fun _ _ _ r h => by simp [rillbedref05_Text.l0] at h, fun _ _ _ _ r h => by simp [rillbedref05_Text.l1] at h⟩
  | k + 1 => by
    obtain ⟨ih0, ih1, ih2⟩ := rillbedref05_Text.mono_l k
    refine ⟨?_, ?_, ?_⟩
    · intro y0 y1 y2
      unfold rillbedref05_Text.j0
      repeat' first
      | (with_reducible exact ih0 _ _ _)
      | (with_reducible exact ih1 _ _ _)
      | (with_reducible exact ih2 _ _ _ _)
      | (with_reducible exact rillbedref05_Check.mono _ _)
      | (with_reducible exact rillbedref05_has.mono _ _ _)
      | (with_reducible exact LeO.refl _)
      | (with_reducible exact LeO.none _)
      | (with_reducible refine LeO.ite ?_ ?_)
      | (with_reducible refine LeO.bind ?_ (fun _ => ?_))
      | exact ih0 _ _ _
      | exact ih1 _ _ _
      | exact ih2 _ _ _ _
      | exact rillbedref05_Check.mono _ _
      | exact rillbedref05_has.mono _ _ _
      | exact LeO.none _
      | refine LeO.ite ?_ ?_
      | refine LeO.bind ?_ (fun _ => ?_)
    · intro y0 y1 y2
      unfold rillbedref05_Text.l0
      repeat' first
      | (with_reducible exact ih0 _ _ _)
      | (with_reducible exact ih1 _ _ _)
      | (with_reducible exact ih2 _ _ _ _)
      | (with_reducible exact rillbedref05_Check.mono _ _)
      | (with_reducible exact rillbedref05_has.mono _ _ _)
      | (with_reducible exact LeO.refl _)
      | (with_reducible exact LeO.none _)
      | (with_reducible refine LeO.ite ?_ ?_)
      | (with_reducible refine LeO.bind ?_ (fun _ => ?_))
      | exact ih0 _ _ _
      | exact ih1 _ _ _
      | exact ih2 _ _ _ _
      | exact rillbedref05_Check.mono _ _
      | exact rillbedref05_has.mono _ _ _
      | exact LeO.none _
      | refine LeO.ite ?_ ?_
      | refine LeO.bind ?_ (fun _ => ?_)
    · intro y0 y1 y2 y3
      unfold rillbedref05_Text.l1
      repeat' first
      | (with_reducible exact ih0 _ _ _)
      | (with_reducible exact ih1 _ _ _)
      | (with_reducible exact ih2 _ _ _ _)
      | (with_reducible exact rillbedref05_Check.mono _ _)
      | (with_reducible exact rillbedref05_has.mono _ _ _)
      | (with_reducible exact LeO.refl _)
      | (with_reducible exact LeO.none _)
      | (with_reducible refine LeO.ite ?_ ?_)
      | (with_reducible refine LeO.bind ?_ (fun _ => ?_))
      | exact ih0 _ _ _
      | exact ih1 _ _ _
      | exact ih2 _ _ _ _
      | exact rillbedref05_Check.mono _ _
      | exact rillbedref05_has.mono _ _ _
      | exact LeO.none _
      | refine LeO.ite ?_ ?_
      | refine LeO.bind ?_ (fun _ => ?_)
theorem rillbedref05_Text.mono : ∀ a0 a1 k, LeO (rillbedref05_Text.f k a0 a1) (rillbedref05_Text.f (k + 1) a0 a1) := by
  intro a0 a1 k
  obtain ⟨ih0, ih1, ih2⟩ := rillbedref05_Text.mono_l k
  unfold rillbedref05_Text.f
  repeat' first
      | (with_reducible exact ih0 _ _ _)
      | (with_reducible exact ih1 _ _ _)
      | (with_reducible exact ih2 _ _ _ _)
      | (with_reducible exact rillbedref05_Check.mono _ _)
      | (with_reducible exact rillbedref05_has.mono _ _ _)
      | (with_reducible exact LeO.refl _)
      | (with_reducible exact LeO.none _)
      | (with_reducible refine LeO.ite ?_ ?_)
      | (with_reducible refine LeO.bind ?_ (fun _ => ?_))
      | exact ih0 _ _ _
      | exact ih1 _ _ _
      | exact ih2 _ _ _ _
      | exact rillbedref05_Check.mono _ _
      | exact rillbedref05_has.mono _ _ _
      | exact LeO.none _
      | refine LeO.ite ?_ ?_
      | refine LeO.bind ?_ (fun _ => ?_)
set_option maxHeartbeats 8000000 in
set_option maxRecDepth 100000 in
theorem rillbedref05_Text.calls (k : Nat) (a0 : ByteArray) (A1 : Option Addr) (c1 : Nat) (l1 : List ByteArray) (r1 : ByteArray) (r2 : Int) (w : World) (hr1 : Kd.C Kd.string w A1 l1.length l1) (hc1 : l1.length ≤ c1) (h : rillbedref05_Text.f k a0 l1 = some (r1, r2)) :
    Calls Tryd.prog 17 #[.string a0, .slice A1 l1.length c1] w fun e w' => e = .returned (.tuple #[.string r1, .int .i64 r2]) ∧ Drawn0 w w' := by
  have HR1 := Aside0.mk hr1
  have HC1 := Aside0.mk hc1
  clear hr1 hc1
  have H : (if a0.toList = ([] : List UInt8) then (rillbedref05_Text.j0 k a0 l1 false) else ((rillbedref05_Check.f k a0).bind fun t197 => (if t197 = 0 then ((rillbedref05_has.f k a0 58).bind fun t198 => (rillbedref05_Text.j0 k a0 l1 t198)) else (rillbedref05_Text.j0 k a0 l1 true)))) = some (r1, r2) := h
  clear h
  have HC3 := Aside0.mk H
  clear H
  go_enter Tryd.func17, Tryd.ntmps17
  go_upto_region 1 with (fail)
  go_cut [19] (fun v19 wc => ∃ (kq : Nat) (x19_2 : Bool), v19 = .bool x19_2 ∧ Aside0 (rillbedref05_Text.j0 kq a0 l1 x19_2 = some (r1, r2)) ∧ Aside0 (kq ≤ k) ∧ Drawn0 w wc)
  case first =>
    have H := HC3.out
    clear HC3
    by_cases c4 : a0.toList = ([] : List UInt8)
    · rw [if_pos c4] at H
      have c4b0 : (a0.toList == ([] : List UInt8)) = true := beq_iff_eq.mpr c4
      have c4b1 : (a0.toList != ([] : List UInt8)) = false := bne_eq_false_iff_eq.mpr c4
      clear c4
      (first | rw [c4b0] | (simp only [i64_w, i32_w]; rw [c4b0]) | skip)
      have H' := Aside0.mk H
      clear H
      go_wp2
      go_meet
      case rel => exact ⟨_, (false), (by first | rfl | (simp; done) | (simp [*]; done)), H', ⟨by first | omega | exact Nat.le_refl _⟩, by repeat (first | exact Drawn0.refl _ | apply Drawn0.step)⟩
    · rw [if_neg c4] at H
      have c4b0 : (a0.toList == ([] : List UInt8)) = false := beq_eq_false_iff_ne.mpr c4
      have c4b1 : (a0.toList != ([] : List UInt8)) = true := bne_iff_ne.mpr c4
      (first | rw [c4b0] | (simp only [i64_w, i32_w]; rw [c4b0]) | skip)
      replace H := Option.bind_eq_some_iff.mp H
      obtain ⟨t197, A50, H⟩ := H
      replace H : (if t197 = 0 then ((rillbedref05_has.f k a0 58).bind fun t198 => (rillbedref05_Text.j0 k a0 l1 t198)) else (rillbedref05_Text.j0 k a0 l1 true)) = some (r1, r2) := H
      have A5 := Aside0.mk A50
      clear A50
      by_cases c6 : t197 = 0
      · rw [if_pos c6] at H
        have c6b0 : (t197 == 0) = true := beq_iff_eq.mpr c6
        have c6b1 : (t197 != 0) = false := bne_eq_false_iff_eq.mpr c6
        clear c6
        replace H := Option.bind_eq_some_iff.mp H
        obtain ⟨t198, A70, H⟩ := H
        replace H : (rillbedref05_Text.j0 k a0 l1 t198) = some (r1, r2) := H
        have A7 := Aside0.mk A70
        clear A70
        have H' := Aside0.mk H
        clear H
        go_wp2_with (first | (go_at_call 14; (with_reducible refine (rillbedref05_Check.calls k a0 t197 _ A5.out).mono ?_); rintro e w' ⟨rfl, ⟨nd, rfl⟩⟩) | (go_at_call 34; (with_reducible refine (rillbedref05_has.calls k a0 58 t198 _ A7.out).mono ?_); rintro e w' ⟨rfl, ⟨nd, rfl⟩⟩))
        go_meet
        case rel => exact ⟨_, (t198), (by first | rfl | (simp; done) | (simp [*]; done)), H', ⟨by first | omega | exact Nat.le_refl _⟩, by repeat (first | exact Drawn0.refl _ | apply Drawn0.step)⟩
      · rw [if_neg c6] at H
        have c6b0 : (t197 == 0) = false := beq_eq_false_iff_ne.mpr c6
        have c6b1 : (t197 != 0) = true := bne_iff_ne.mpr c6
        have H' := Aside0.mk H
        clear H
        go_wp2_with (first | (go_at_call 14; (with_reducible refine (rillbedref05_Check.calls k a0 t197 _ A5.out).mono ?_); rintro e w' ⟨rfl, ⟨nd, rfl⟩⟩))
        go_meet
        case rel => exact ⟨_, (true), (by first | rfl | (simp; done) | (simp [*]; done)), H', ⟨by first | omega | exact Nat.le_refl _⟩, by repeat (first | exact Drawn0.refl _ | apply Drawn0.step)⟩
  case rest =>
    clear HC3
    try clear c1
    try clear p2
    try clear c4
    try clear c4b0
    try clear c4b1
    try clear c6
    try clear c6b0
    try clear c6b1
    obtain ⟨kq, x19_2, rfl, HA, HJ2, ⟨mc2, rfl⟩⟩ := hcut
    cases kq with
    | zero => exact absurd HA.out (by simp [rillbedref05_Text.j0])
    | succ kj2 =>
      have H := HA.out
      clear HA
      simp only [rillbedref05_Text.j0] at H
      by_cases c8 : x19_2 = true
      · subst c8
        have H1 : (some ((⟨#[]⟩ : ByteArray), 4)) = some (r1, r2) := by rw [if_pos rfl] at H; exact H
        clear H
        have H := H1
        clear H1
        simp only [Option.some.injEq, Prod.mk.injEq] at H
        obtain ⟨rfl, rfl⟩ := H
        go_wp2
        go_ret2
        exact ⟨by first | rfl | (simp; done) | (simp [*]; done), by repeat (first | exact Drawn0.refl _ | apply Drawn0.step)⟩
      · replace c8 := Bool.eq_false_iff.mpr c8
        subst c8
        have H1 : (rillbedref05_Text.l0 kj2 a0 l1 0) = some (r1, r2) := by rw [if_neg (show ¬ (false = true) by decide)] at H; exact H
        clear H
        have H := H1
        clear H1
        have H' := Aside0.mk H
        clear H
        go_wp2
        go_loopg [6] kj2 (fun kq v6 w' => ∃ (x6_2 : Int), v6 = .int .i64 x6_2 ∧ Aside0 (rillbedref05_Text.l0 kq a0 l1 x6_2 = some (r1, r2)) ∧ Aside0 (kq ≤ kj2) ∧ Drawn0 w w')
        case atStart => exact ⟨(0), (by first | rfl | (simp; done) | (simp [*]; done)), H', ⟨Nat.le_refl _⟩, by repeat (first | exact Drawn0.refl _ | apply Drawn0.step)⟩
        case round =>
          clear H'
          try clear c1
          try clear c2
          try clear p2
          try clear c4
          try clear c4b0
          try clear c4b1
          try clear c6
          try clear c6b0
          try clear c6b1
          try clear c8
          try clear p2
          obtain ⟨x6_2, rfl, HA, HK2, ⟨m2, rfl⟩⟩ := hrel
          cases gk with
          | zero => exact absurd HA.out (by simp [rillbedref05_Text.l0])
          | succ k2 =>
            have H := HA.out
            clear HA
            simp only [rillbedref05_Text.l0] at H
            by_cases c9 : x6_2 < (l1.length : Int)
            · rw [if_pos c9] at H
              have c9b0 : decide (x6_2 < (l1.length : Int)) = true := decide_eq_true c9
              clear c9
              by_cases c10 : 0 ≤ x6_2
              · rw [if_pos c10] at H
                have c10b0 : decide (0 ≤ x6_2) = true := decide_eq_true c10
                clear c10
                replace H := Option.bind_eq_some_iff.mp H
                obtain ⟨t200, A110, H⟩ := H
                replace H : (if t200 = 0 then (rillbedref05_Text.l0 k2 a0 l1 (wrap64 (x6_2 + 1))) else (some ((⟨#[]⟩ : ByteArray), 4))) = some (r1, r2) := H
                have A11 := Aside0.mk A110
                clear A110
                by_cases c12 : t200 = 0
                · rw [if_pos c12] at H
                  have c12b0 : (t200 == 0) = true := beq_iff_eq.mpr c12
                  have c12b1 : (t200 != 0) = false := bne_eq_false_iff_eq.mpr c12
                  clear c12
                  have H' := Aside0.mk H
                  clear H
                  have p199 : 0 ≤ (x6_2 : Int) := of_decide_eq_true (by first | (with_reducible assumption) | assumption)
                  have q199 : x6_2 < (l1.length : Int) := of_decide_eq_true (by first | (with_reducible assumption) | assumption)
                  obtain ⟨ad199, e199, hx199_0⟩ := Kd.at_string HR1.out x6_2 p199 q199
                  cases e199
                  replace p199 := eq_true p199
                  replace q199 := eq_true q199
                  go_wp2_with (first | ((with_reducible refine gate_callee (f := 14) rfl ?_); refine goesL_ (some 30) rfl rfl Tryd.func14 (by kernel_rfl) rfl #[.string (rdOf ByteArray.empty l1 x6_2)] rfl (by (try simp only [List.map_toArray, List.map_cons, List.map_nil]); first | done | rfl | (simp only [List.length_drop, List.length_take]; rfl)) ?_; (with_reducible refine (rillbedref05_Check.calls k2 (rdOf ByteArray.empty l1 x6_2) t200 _ A11.out).mono ?_); rintro e w' ⟨rfl, ⟨nd, rfl⟩⟩; refine ⟨_, rfl, ?_⟩))
                  go_roundg k2
                  case measure => have := HJ2.out; have := HK2.out; omega
                  case rel => exact ⟨(wrap64 (x6_2 + 1)), (by first | rfl | (simp; done) | (simp [*]; done)), H', ⟨by have := HJ2.out; have := HK2.out; omega⟩, by repeat (first | exact Drawn0.refl _ | apply Drawn0.step)⟩
                · rw [if_neg c12] at H
                  have c12b0 : (t200 == 0) = false := beq_eq_false_iff_ne.mpr c12
                  have c12b1 : (t200 != 0) = true := bne_iff_ne.mpr c12
                  simp only [Option.some.injEq, Prod.mk.injEq] at H
                  obtain ⟨rfl, rfl⟩ := H
                  have p199 : 0 ≤ (x6_2 : Int) := of_decide_eq_true (by first | (with_reducible assumption) | assumption)
                  have q199 : x6_2 < (l1.length : Int) := of_decide_eq_true (by first | (with_reducible assumption) | assumption)
                  obtain ⟨ad199, e199, hx199_0⟩ := Kd.at_string HR1.out x6_2 p199 q199
                  cases e199
                  replace p199 := eq_true p199
                  replace q199 := eq_true q199
                  go_wp2_with (first | ((with_reducible refine gate_callee (f := 14) rfl ?_); refine goesL_ (some 30) rfl rfl Tryd.func14 (by kernel_rfl) rfl #[.string (rdOf ByteArray.empty l1 x6_2)] rfl (by (try simp only [List.map_toArray, List.map_cons, List.map_nil]); first | done | rfl | (simp only [List.length_drop, List.length_take]; rfl)) ?_; (with_reducible refine (rillbedref05_Check.calls k2 (rdOf ByteArray.empty l1 x6_2) t200 _ A11.out).mono ?_); rintro e w' ⟨rfl, ⟨nd, rfl⟩⟩; refine ⟨_, rfl, ?_⟩))
                  go_ret2
                  exact ⟨by first | rfl | (simp; done) | (simp [*]; done), by repeat (first | exact Drawn0.refl _ | apply Drawn0.step)⟩
              · rw [if_neg c10] at H
                exact absurd H (by simp)
            · rw [if_neg c9] at H
              have c9b0 : decide (x6_2 < (l1.length : Int)) = false := decide_eq_false c9
              clear c9
              by_cases c13 : (l1.length : Int) > 6
              · rw [if_pos c13] at H
                have c13b0 : decide (6 < (l1.length : Int)) = true := decide_eq_true c13
                have c13b1 : decide (6 < l1.length) = true := decide_eq_true (by omega)
                clear c13
                simp only [Option.some.injEq, Prod.mk.injEq] at H
                obtain ⟨rfl, rfl⟩ := H
                go_wp2
                go_ret2
                exact ⟨by first | rfl | (simp; done) | (simp [*]; done), by repeat (first | exact Drawn0.refl _ | apply Drawn0.step)⟩
              · rw [if_neg c13] at H
                have c13b0 : decide (6 < (l1.length : Int)) = false := decide_eq_false c13
                have c13b1 : decide (6 < l1.length) = false := decide_eq_false (by omega)
                clear c13
                have H' := Aside0.mk H
                clear H
                go_wp2
                go_loopg [7, 8] k2 (fun kq v7 v8 w' => ∃ (x7_3 : ByteArray) (x8_3 : Int), v7 = .string x7_3 ∧ v8 = .int .i64 x8_3 ∧ Aside0 (rillbedref05_Text.l1 kq a0 l1 x7_3 x8_3 = some (r1, r2)) ∧ Aside0 (kq ≤ k2) ∧ Drawn0 w w')
                case atStart => exact ⟨((⟨#[]⟩ : ByteArray)), (0), (by first | rfl | (simp; done) | (simp [*]; done)), (by first | rfl | (simp; done) | (simp [*]; done)), H', ⟨Nat.le_refl _⟩, by repeat (first | exact Drawn0.refl _ | apply Drawn0.step)⟩
                case round =>
                  clear H'
                  try clear c1
                  try clear p1
                  try clear q1
                  try clear hx1
                  try clear c2
                  try clear p2
                  try clear c4
                  try clear c4b0
                  try clear c4b1
                  try clear c6
                  try clear c6b0
                  try clear c6b1
                  try clear p6
                  try clear c8
                  try clear c9
                  try clear c9b0
                  try clear c10
                  try clear c10b0
                  try clear c12
                  try clear c12b0
                  try clear c12b1
                  try clear c13
                  try clear c13b0
                  try clear c13b1
                  try clear hx199_0
                  try clear p199
                  try clear p2
                  try clear q199
                  obtain ⟨x7_3, x8_3, rfl, rfl, HA, HK3, ⟨m3, rfl⟩⟩ := hrel
                  cases gk with
                  | zero => exact absurd HA.out (by simp [rillbedref05_Text.l1])
                  | succ k3 =>
                    have H := HA.out
                    clear HA
                    simp only [rillbedref05_Text.l1] at H
                    by_cases c14 : x8_3 < (l1.length : Int)
                    · rw [if_pos c14] at H
                      have c14b0 : decide (x8_3 < (l1.length : Int)) = true := decide_eq_true c14
                      clear c14
                      by_cases c15 : x7_3.size + 1 ≤ 9223372036854775807
                      · rw [if_pos c15] at H
                        have c15b0 := eq_true c15
                        have c15b1 : decide (x7_3.size + 1 ≤ 9223372036854775807) = true := decide_eq_true c15
                        try have c15b2 : (9223372036854775807 < x7_3.size + 1) = False := eq_false (Nat.not_lt.2 c15)
                        by_cases c16 : 0 ≤ x8_3
                        · rw [if_pos c16] at H
                          have c16b0 : decide (0 ≤ x8_3) = true := decide_eq_true c16
                          clear c16
                          by_cases c17 : (x7_3 ++ (⟨#[47]⟩ : ByteArray)).size + (rdOf ByteArray.empty l1 x8_3).size ≤ 9223372036854775807
                          · rw [if_pos c17] at H
                            have c17b0 := eq_true c17
                            try (have c17b0w := c17b0; simp only [ByteArray.size_append, ByteArray.size_extract, Nat.min_self, szl1, szl2, szl3, szl4] at c17b0w)
                            have c17b1 : decide ((x7_3 ++ (⟨#[47]⟩ : ByteArray)).size + (rdOf ByteArray.empty l1 x8_3).size ≤ 9223372036854775807) = true := decide_eq_true c17
                            try (have c17b1w := c17b1; simp only [ByteArray.size_append, ByteArray.size_extract, Nat.min_self, szl1, szl2, szl3, szl4] at c17b1w)
                            try have c17b2 : (9223372036854775807 < (x7_3 ++ (⟨#[47]⟩ : ByteArray)).size + (rdOf ByteArray.empty l1 x8_3).size) = False := eq_false (Nat.not_lt.2 c17)
                            try (have c17b2w := c17b2; simp only [ByteArray.size_append, ByteArray.size_extract, Nat.min_self, szl1, szl2, szl3, szl4] at c17b2w)
                            have H' := Aside0.mk H
                            clear H
                            have p201 : 0 ≤ (x8_3 : Int) := of_decide_eq_true (by first | (with_reducible assumption) | assumption)
                            have q201 : x8_3 < (l1.length : Int) := of_decide_eq_true (by first | (with_reducible assumption) | assumption)
                            obtain ⟨ad201, e201, hx201_0⟩ := Kd.at_string HR1.out x8_3 p201 q201
                            cases e201
                            replace p201 := eq_true p201
                            replace q201 := eq_true q201
                            go_wp2
                            go_roundg k3
                            case measure => have := HJ2.out; have := HK2.out; have := HK3.out; omega
                            case rel => exact ⟨((x7_3 ++ (⟨#[47]⟩ : ByteArray)) ++ (rdOf ByteArray.empty l1 x8_3)), (wrap64 (x8_3 + 1)), (by first | rfl | (simp; done) | (simp [*]; done)), (by first | rfl | (simp; done) | (simp [*]; done)), H', ⟨by have := HJ2.out; have := HK2.out; have := HK3.out; omega⟩, by repeat (first | exact Drawn0.refl _ | apply Drawn0.step)⟩
                          · rw [if_neg c17] at H
                            exact absurd H (by simp)
                        · rw [if_neg c16] at H
                          exact absurd H (by simp)
                      · rw [if_neg c15] at H
                        exact absurd H (by simp)
                    · rw [if_neg c14] at H
                      have c14b0 : decide (x8_3 < (l1.length : Int)) = false := decide_eq_false c14
                      clear c14
                      by_cases c18 : x7_3.toList = ([] : List UInt8)
                      · rw [if_pos c18] at H
                        have c18b0 : (x7_3.toList == ([] : List UInt8)) = true := beq_iff_eq.mpr c18
                        have c18b1 : (x7_3.toList != ([] : List UInt8)) = false := bne_eq_false_iff_eq.mpr c18
                        clear c18
                        by_cases c19 : a0.toList = ([] : List UInt8)
                        · rw [if_pos c19] at H
                          have c19b0 : (a0.toList == ([] : List UInt8)) = true := beq_iff_eq.mpr c19
                          have c19b1 : (a0.toList != ([] : List UInt8)) = false := bne_eq_false_iff_eq.mpr c19
                          clear c19
                          simp only [Option.some.injEq, Prod.mk.injEq] at H
                          obtain ⟨rfl, rfl⟩ := H
                          go_wp2
                          go_ret2
                          exact ⟨by first | rfl | (simp; done) | (simp [*]; done), by repeat (first | exact Drawn0.refl _ | apply Drawn0.step)⟩
                        · rw [if_neg c19] at H
                          have c19b0 : (a0.toList == ([] : List UInt8)) = false := beq_eq_false_iff_ne.mpr c19
                          have c19b1 : (a0.toList != ([] : List UInt8)) = true := bne_iff_ne.mpr c19
                          by_cases c20 : a0.size + 1 ≤ 9223372036854775807
                          · rw [if_pos c20] at H
                            have c20b0 := eq_true c20
                            have c20b1 : decide (a0.size + 1 ≤ 9223372036854775807) = true := decide_eq_true c20
                            try have c20b2 : (9223372036854775807 < a0.size + 1) = False := eq_false (Nat.not_lt.2 c20)
                            by_cases c21 : (a0 ++ (⟨#[58]⟩ : ByteArray)).size + 1 ≤ 9223372036854775807
                            · rw [if_pos c21] at H
                              have c21b0 := eq_true c21
                              try (have c21b0w := c21b0; simp only [ByteArray.size_append, ByteArray.size_extract, Nat.min_self, szl1, szl2, szl3, szl4] at c21b0w)
                              have c21b1 : decide ((a0 ++ (⟨#[58]⟩ : ByteArray)).size + 1 ≤ 9223372036854775807) = true := decide_eq_true c21
                              try (have c21b1w := c21b1; simp only [ByteArray.size_append, ByteArray.size_extract, Nat.min_self, szl1, szl2, szl3, szl4] at c21b1w)
                              try have c21b2 : (9223372036854775807 < (a0 ++ (⟨#[58]⟩ : ByteArray)).size + 1) = False := eq_false (Nat.not_lt.2 c21)
                              try (have c21b2w := c21b2; simp only [ByteArray.size_append, ByteArray.size_extract, Nat.min_self, szl1, szl2, szl3, szl4] at c21b2w)
                              simp only [Option.some.injEq, Prod.mk.injEq] at H
                              obtain ⟨rfl, rfl⟩ := H
                              go_wp2
                              go_ret2
                              exact ⟨by first | rfl | (simp; done) | (simp [*]; done), by repeat (first | exact Drawn0.refl _ | apply Drawn0.step)⟩
                            · rw [if_neg c21] at H
                              exact absurd H (by simp)
                          · rw [if_neg c20] at H
                            exact absurd H (by simp)
                      · rw [if_neg c18] at H
                        have c18b0 : (x7_3.toList == ([] : List UInt8)) = false := beq_eq_false_iff_ne.mpr c18
                        have c18b1 : (x7_3.toList != ([] : List UInt8)) = true := bne_iff_ne.mpr c18
                        by_cases c22 : a0.toList = ([] : List UInt8)
                        · rw [if_pos c22] at H
                          have c22b0 : (a0.toList == ([] : List UInt8)) = true := beq_iff_eq.mpr c22
                          have c22b1 : (a0.toList != ([] : List UInt8)) = false := bne_eq_false_iff_eq.mpr c22
                          clear c22
                          simp only [Option.some.injEq, Prod.mk.injEq] at H
                          obtain ⟨rfl, rfl⟩ := H
                          go_wp2
                          go_ret2
                          exact ⟨by first | rfl | (simp; done) | (simp [*]; done), by repeat (first | exact Drawn0.refl _ | apply Drawn0.step)⟩
                        · rw [if_neg c22] at H
                          have c22b0 : (a0.toList == ([] : List UInt8)) = false := beq_eq_false_iff_ne.mpr c22
                          have c22b1 : (a0.toList != ([] : List UInt8)) = true := bne_iff_ne.mpr c22
                          by_cases c23 : a0.size + 1 ≤ 9223372036854775807
                          · rw [if_pos c23] at H
                            have c23b0 := eq_true c23
                            have c23b1 : decide (a0.size + 1 ≤ 9223372036854775807) = true := decide_eq_true c23
                            try have c23b2 : (9223372036854775807 < a0.size + 1) = False := eq_false (Nat.not_lt.2 c23)
                            by_cases c24 : (a0 ++ (⟨#[58]⟩ : ByteArray)).size + x7_3.size ≤ 9223372036854775807
                            · rw [if_pos c24] at H
                              have c24b0 := eq_true c24
                              try (have c24b0w := c24b0; simp only [ByteArray.size_append, ByteArray.size_extract, Nat.min_self, szl1, szl2, szl3, szl4] at c24b0w)
                              have c24b1 : decide ((a0 ++ (⟨#[58]⟩ : ByteArray)).size + x7_3.size ≤ 9223372036854775807) = true := decide_eq_true c24
                              try (have c24b1w := c24b1; simp only [ByteArray.size_append, ByteArray.size_extract, Nat.min_self, szl1, szl2, szl3, szl4] at c24b1w)
                              try have c24b2 : (9223372036854775807 < (a0 ++ (⟨#[58]⟩ : ByteArray)).size + x7_3.size) = False := eq_false (Nat.not_lt.2 c24)
                              try (have c24b2w := c24b2; simp only [ByteArray.size_append, ByteArray.size_extract, Nat.min_self, szl1, szl2, szl3, szl4] at c24b2w)
                              simp only [Option.some.injEq, Prod.mk.injEq] at H
                              obtain ⟨rfl, rfl⟩ := H
                              go_wp2
                              go_ret2
                              exact ⟨by first | rfl | (simp; done) | (simp [*]; done), by repeat (first | exact Drawn0.refl _ | apply Drawn0.step)⟩
                            · rw [if_neg c24] at H
                              exact absurd H (by simp)
                          · rw [if_neg c23] at H
                            exact absurd H (by simp)

end Go.Proofs.YtddepmeikglhgaaDoor.Q
