-- Printed by a copy of the print program over stub bodies; what stood in the stubs' place is hand-made (post.py)
import Derived.Test.YtddepmeikglhgaaDoorR0
import Derived.Test.YtddepmeikglhgaaDoorRE
namespace Go.Proofs.YtddepmeikglhgaaDoor.Q
open Go.RowKit Go.Proofs.YtddepmeikglhgaaDoorW.PrintWords Go.Proofs.YtddepmeikglhgaaDoorW.PrintLast Go.Proofs.YtddepmeikglhgaaDoorW.PrintMore
attribute [local go_sem] max2_int min2_int max_two min_two max_three min_three max_four min_four   -- for this text's walks alone
set_option linter.unusedVariables false
set_option linter.unusedSimpArgs false

/-! ### rillbedref05_Parse: function 11 -/
mutual
def rillbedref05_Parse.j1 : Nat → List ByteArray → ByteArray → Option (ByteArray × List ByteArray × Int)
  | 0, _, _ => none
  | k + 1, x5, x6 => if (x5.length : Int) = 2 then (if 1 < (x5.length : Int) then (rillbedref05_Parse.j2 k x5 x6 ((rdOf ByteArray.empty x5 1).toList == ([] : List UInt8))) else (none)) else (rillbedref05_Parse.j2 k x5 x6 false)
def rillbedref05_Parse.j2 : Nat → List ByteArray → ByteArray → Bool → Option (ByteArray × List ByteArray × Int)
  | 0, _, _, _ => none
  | k + 1, x5, x6, x56 => if x56 = true then (some (x6, ([] : List ByteArray), 0)) else (rillbedref05_Parse.l0 k x5 x6 1)
def rillbedref05_Parse.l0 : Nat → List ByteArray → ByteArray → Int → Option (ByteArray × List ByteArray × Int)
  | 0, _, _, _ => none
  | k + 1, x5, x6, x9 => if x9 < (x5.length : Int) then (if 0 ≤ x9 then ((rillbedref05_Check.f k (rdOf ByteArray.empty x5 x9)).bind fun t176 => (if t176 = 0 then (if x9 > 6 then (some ((⟨#[]⟩ : ByteArray), ([] : List ByteArray), 3)) else (rillbedref05_Parse.l0 k x5 x6 (wrap64 (x9 + 1)))) else (some ((⟨#[]⟩ : ByteArray), ([] : List ByteArray), t176)))) else (none)) else (if 1 ≤ (x5.length : Int) then (some (x6, (x5.drop (1 : Int).toNat), 0)) else (none))
def rillbedref05_Parse.j0 : Nat → List ByteArray → ByteArray → Bool → Option (ByteArray × List ByteArray × Int)
  | 0, _, _, _ => none
  | k + 1, x5, x6, x42 => if x42 = true then (some ((⟨#[]⟩ : ByteArray), ([] : List ByteArray), 4)) else ((rillbedref05_Check.f k x6).bind fun t170 => (if t170 = 0 then (rillbedref05_Parse.j1 k x5 x6) else (some ((⟨#[]⟩ : ByteArray), ([] : List ByteArray), t170))))
end
def rillbedref05_Parse.f (k : Nat) (a0 : ByteArray) : Option (ByteArray × List ByteArray × Int) := if (a0.size : Int) > 120 then (some ((⟨#[]⟩ : ByteArray), ([] : List ByteArray), 3)) else ((rillbedref05_Split.f k a0).bind fun t162 => (if (t162.length : Int) < 2 then (some ((⟨#[]⟩ : ByteArray), ([] : List ByteArray), 4)) else (if 0 < (t162.length : Int) then (if (rdOf ByteArray.empty t162 0).toList = ([] : List UInt8) then (rillbedref05_Parse.j1 k t162 (⟨#[]⟩ : ByteArray)) else (if 0 ≤ (wrap64 (((rdOf ByteArray.empty t162 0).size : Int) - 1)) then (if (wrap64 (((rdOf ByteArray.empty t162 0).size : Int) - 1)) ≤ ((rdOf ByteArray.empty t162 0).size : Int) then (if (wrap64 (((rdOf ByteArray.empty t162 0).size : Int) - 1)) < ((rdOf ByteArray.empty t162 0).size : Int) then (if (bt (rdOf ByteArray.empty t162 0) (wrap64 (((rdOf ByteArray.empty t162 0).size : Int) - 1))) = 58 then ((rillbedref05_has.f k ((rdOf ByteArray.empty t162 0).extract 0 ((wrap64 (((rdOf ByteArray.empty t162 0).size : Int) - 1)) : Int).toNat) 58).bind fun t169 => (rillbedref05_Parse.j0 k t162 ((rdOf ByteArray.empty t162 0).extract 0 ((wrap64 (((rdOf ByteArray.empty t162 0).size : Int) - 1)) : Int).toNat) t169)) else (rillbedref05_Parse.j0 k t162 ((rdOf ByteArray.empty t162 0).extract 0 ((wrap64 (((rdOf ByteArray.empty t162 0).size : Int) - 1)) : Int).toNat) true)) else (none)) else (none)) else (none))) else (none))))
theorem rillbedref05_Parse.mono_l : ∀ k, (∀ y0 y1, LeO (rillbedref05_Parse.j1 k y0 y1) (rillbedref05_Parse.j1 (k + 1) y0 y1)) ∧ (∀ y0 y1 y2, LeO (rillbedref05_Parse.j2 k y0 y1 y2) (rillbedref05_Parse.j2 (k + 1) y0 y1 y2)) ∧ (∀ y0 y1 y2, LeO (rillbedref05_Parse.l0 k y0 y1 y2) (rillbedref05_Parse.l0 (k + 1) y0 y1 y2)) ∧ (∀ y0 y1 y2, LeO (rillbedref05_Parse.j0 k y0 y1 y2) (rillbedref05_Parse.j0 (k + 1) y0 y1 y2))
  | 0 => ⟨fun _ _ r h => by simp [rillbedref05_Parse.j1] at h, fun _ _ _ r h => by simp [rillbedref05_Parse.j2] at h, fun _ _ _ r h => by simp [rillbedref05_Parse.l0] at h, fun _ _ _ r h => by simp [rillbedref05_Parse.j0] at h⟩
  | k + 1 => by
    obtain ⟨ih0, ih1, ih2, ih3⟩ := rillbedref05_Parse.mono_l k
    refine ⟨?_, ?_, ?_, ?_⟩
    · intro y0 y1
      unfold rillbedref05_Parse.j1
      repeat' first
      | (with_reducible exact ih0 _ _)
      | (with_reducible exact ih1 _ _ _)
      | (with_reducible exact ih2 _ _ _)
      | (with_reducible exact ih3 _ _ _)
      | (with_reducible exact rillbedref05_Check.mono _ _)
      | (with_reducible exact rillbedref05_Split.mono _ _)
      | (with_reducible exact rillbedref05_has.mono _ _ _)
      | (with_reducible exact LeO.refl _)
      | (with_reducible exact LeO.none _)
      | (with_reducible refine LeO.ite ?_ ?_)
      | (with_reducible refine LeO.bind ?_ (fun _ => ?_))
      | exact ih0 _ _
      | exact ih1 _ _ _
      | exact ih2 _ _ _
      | exact ih3 _ _ _
      | exact rillbedref05_Check.mono _ _
      | exact rillbedref05_Split.mono _ _
      | exact rillbedref05_has.mono _ _ _
      | exact LeO.none _
      | refine LeO.ite ?_ ?_
      | refine LeO.bind ?_ (fun _ => ?_)
    · intro y0 y1 y2
      unfold rillbedref05_Parse.j2
      repeat' first
      | (with_reducible exact ih0 _ _)
      | (with_reducible exact ih1 _ _ _)
      | (with_reducible exact ih2 _ _ _)
      | (with_reducible exact ih3 _ _ _)
      | (with_reducible exact rillbedref05_Check.mono _ _)
      | (with_reducible exact rillbedref05_Split.mono _ _)
      | (with_reducible exact rillbedref05_has.mono _ _ _)
      | (with_reducible exact LeO.refl _)
      | (with_reducible exact LeO.none _)
      | (with_reducible refine LeO.ite ?_ ?_)
      | (with_reducible refine LeO.bind ?_ (fun _ => ?_))
      | exact ih0 _ _
      | exact ih1 _ _ _
      | exact ih2 _ _ _
      | exact ih3 _ _ _
      | exact rillbedref05_Check.mono _ _
      | exact rillbedref05_Split.mono _ _
      | exact rillbedref05_has.mono _ _ _
      | exact LeO.none _
      | refine LeO.ite ?_ ?_
      | refine LeO.bind ?_ (fun _ => ?_)
    · intro y0 y1 y2
      unfold rillbedref05_Parse.l0
      repeat' first
      | (with_reducible exact ih0 _ _)
      | (with_reducible exact ih1 _ _ _)
      | (with_reducible exact ih2 _ _ _)
      | (with_reducible exact ih3 _ _ _)
      | (with_reducible exact rillbedref05_Check.mono _ _)
      | (with_reducible exact rillbedref05_Split.mono _ _)
      | (with_reducible exact rillbedref05_has.mono _ _ _)
      | (with_reducible exact LeO.refl _)
      | (with_reducible exact LeO.none _)
      | (with_reducible refine LeO.ite ?_ ?_)
      | (with_reducible refine LeO.bind ?_ (fun _ => ?_))
      | exact ih0 _ _
      | exact ih1 _ _ _
      | exact ih2 _ _ _
      | exact ih3 _ _ _
      | exact rillbedref05_Check.mono _ _
      | exact rillbedref05_Split.mono _ _
      | exact rillbedref05_has.mono _ _ _
      | exact LeO.none _
      | refine LeO.ite ?_ ?_
      | refine LeO.bind ?_ (fun _ => ?_)
    · intro y0 y1 y2
      unfold rillbedref05_Parse.j0
      repeat' first
      | (with_reducible exact ih0 _ _)
      | (with_reducible exact ih1 _ _ _)
      | (with_reducible exact ih2 _ _ _)
      | (with_reducible exact ih3 _ _ _)
      | (with_reducible exact rillbedref05_Check.mono _ _)
      | (with_reducible exact rillbedref05_Split.mono _ _)
      | (with_reducible exact rillbedref05_has.mono _ _ _)
      | (with_reducible exact LeO.refl _)
      | (with_reducible exact LeO.none _)
      | (with_reducible refine LeO.ite ?_ ?_)
      | (with_reducible refine LeO.bind ?_ (fun _ => ?_))
      | exact ih0 _ _
      | exact ih1 _ _ _
      | exact ih2 _ _ _
      | exact ih3 _ _ _
      | exact rillbedref05_Check.mono _ _
      | exact rillbedref05_Split.mono _ _
      | exact rillbedref05_has.mono _ _ _
      | exact LeO.none _
      | refine LeO.ite ?_ ?_
      | refine LeO.bind ?_ (fun _ => ?_)
theorem rillbedref05_Parse.mono : ∀ a0 k, LeO (rillbedref05_Parse.f k a0) (rillbedref05_Parse.f (k + 1) a0) := by
  intro a0 k
  obtain ⟨ih0, ih1, ih2, ih3⟩ := rillbedref05_Parse.mono_l k
  unfold rillbedref05_Parse.f
  repeat' first
      | (with_reducible exact ih0 _ _)
      | (with_reducible exact ih1 _ _ _)
      | (with_reducible exact ih2 _ _ _)
      | (with_reducible exact ih3 _ _ _)
      | (with_reducible exact rillbedref05_Check.mono _ _)
      | (with_reducible exact rillbedref05_Split.mono _ _)
      | (with_reducible exact rillbedref05_has.mono _ _ _)
      | (with_reducible exact LeO.refl _)
      | (with_reducible exact LeO.none _)
      | (with_reducible refine LeO.ite ?_ ?_)
      | (with_reducible refine LeO.bind ?_ (fun _ => ?_))
      | exact ih0 _ _
      | exact ih1 _ _ _
      | exact ih2 _ _ _
      | exact ih3 _ _ _
      | exact rillbedref05_Check.mono _ _
      | exact rillbedref05_Split.mono _ _
      | exact rillbedref05_has.mono _ _ _
      | exact LeO.none _
      | refine LeO.ite ?_ ?_
      | refine LeO.bind ?_ (fun _ => ?_)
set_option maxHeartbeats 8000000 in
set_option maxRecDepth 100000 in
theorem rillbedref05_Parse.calls (k : Nat) (a0 : ByteArray) (r1 : ByteArray) (r2 : List ByteArray) (r3 : Int) (w : World) (h : rillbedref05_Parse.f k a0 = some (r1, r2, r3)) :
    Calls Tryd.prog 11 #[.string a0] w fun e w' => ∃ v1_ : Value, e = .returned (.tuple #[.string r1, v1_, .int .i64 r3]) ∧ Kd.Q Kd.string 9 w' w.heap.size (fun _ => True) v1_ r2 ∧ Below w.heap.size w w' := by
  have HB := Aside0.mk (Below.refl w.heap.size w)
  have H : (if (a0.size : Int) > 120 then (some ((⟨#[]⟩ : ByteArray), ([] : List ByteArray), 3)) else ((rillbedref05_Split.f k a0).bind fun t162 => (if (t162.length : Int) < 2 then (some ((⟨#[]⟩ : ByteArray), ([] : List ByteArray), 4)) else (if 0 < (t162.length : Int) then (if (rdOf ByteArray.empty t162 0).toList = ([] : List UInt8) then (rillbedref05_Parse.j1 k t162 (⟨#[]⟩ : ByteArray)) else (if 0 ≤ (wrap64 (((rdOf ByteArray.empty t162 0).size : Int) - 1)) then (if (wrap64 (((rdOf ByteArray.empty t162 0).size : Int) - 1)) ≤ ((rdOf ByteArray.empty t162 0).size : Int) then (if (wrap64 (((rdOf ByteArray.empty t162 0).size : Int) - 1)) < ((rdOf ByteArray.empty t162 0).size : Int) then (if (bt (rdOf ByteArray.empty t162 0) (wrap64 (((rdOf ByteArray.empty t162 0).size : Int) - 1))) = 58 then ((rillbedref05_has.f k ((rdOf ByteArray.empty t162 0).extract 0 ((wrap64 (((rdOf ByteArray.empty t162 0).size : Int) - 1)) : Int).toNat) 58).bind fun t169 => (rillbedref05_Parse.j0 k t162 ((rdOf ByteArray.empty t162 0).extract 0 ((wrap64 (((rdOf ByteArray.empty t162 0).size : Int) - 1)) : Int).toNat) t169)) else (rillbedref05_Parse.j0 k t162 ((rdOf ByteArray.empty t162 0).extract 0 ((wrap64 (((rdOf ByteArray.empty t162 0).size : Int) - 1)) : Int).toNat) true)) else (none)) else (none)) else (none))) else (none))))) = some (r1, r2, r3) := h
  clear h
  by_cases c2 : (a0.size : Int) > 120
  · rw [if_pos c2] at H
    have c2b0 : decide (120 < (a0.size : Int)) = true := decide_eq_true c2
    have c2b1 : decide (120 < a0.size) = true := decide_eq_true (by omega)
    clear c2
    simp only [Option.some.injEq, Prod.mk.injEq] at H
    obtain ⟨rfl, rfl, rfl⟩ := H
    go_enter Tryd.func11, Tryd.ntmps11
    go_wp2
    repeat (go_quiet (fail); try go_wp2)
    go_ret3
    exact ⟨_, by first | rfl | (simp [errW_none, errW_some] <;> rfl) | (simp [*, errW_none, errW_some] <;> rfl), Kd.Q_of_R (by first | exact Kd.R_nil _ _ _ _ _ | exact Kd.N_nil _ _ _ _ _ | exact Kd.V_nil _ _ _ _ _ | exact Kd.Q_nil _ _ _ _ _ | exact Kd.S_nil _ _ _ _ _), by repeat (first | (with_reducible first | exact HB.out | apply below_alloc | apply pw_below_drewN | apply below_drew1) | exact HB.out)⟩
  · rw [if_neg c2] at H
    have c2b0 : decide (120 < (a0.size : Int)) = false := decide_eq_false c2
    have c2b1 : decide (120 < a0.size) = false := decide_eq_false (by omega)
    clear c2
    replace H := Option.bind_eq_some_iff.mp H
    obtain ⟨t162, A30, H⟩ := H
    replace H : (if (t162.length : Int) < 2 then (some ((⟨#[]⟩ : ByteArray), ([] : List ByteArray), 4)) else (if 0 < (t162.length : Int) then (if (rdOf ByteArray.empty t162 0).toList = ([] : List UInt8) then (rillbedref05_Parse.j1 k t162 (⟨#[]⟩ : ByteArray)) else (if 0 ≤ (wrap64 (((rdOf ByteArray.empty t162 0).size : Int) - 1)) then (if (wrap64 (((rdOf ByteArray.empty t162 0).size : Int) - 1)) ≤ ((rdOf ByteArray.empty t162 0).size : Int) then (if (wrap64 (((rdOf ByteArray.empty t162 0).size : Int) - 1)) < ((rdOf ByteArray.empty t162 0).size : Int) then (if (bt (rdOf ByteArray.empty t162 0) (wrap64 (((rdOf ByteArray.empty t162 0).size : Int) - 1))) = 58 then ((rillbedref05_has.f k ((rdOf ByteArray.empty t162 0).extract 0 ((wrap64 (((rdOf ByteArray.empty t162 0).size : Int) - 1)) : Int).toNat) 58).bind fun t169 => (rillbedref05_Parse.j0 k t162 ((rdOf ByteArray.empty t162 0).extract 0 ((wrap64 (((rdOf ByteArray.empty t162 0).size : Int) - 1)) : Int).toNat) t169)) else (rillbedref05_Parse.j0 k t162 ((rdOf ByteArray.empty t162 0).extract 0 ((wrap64 (((rdOf ByteArray.empty t162 0).size : Int) - 1)) : Int).toNat) true)) else (none)) else (none)) else (none))) else (none))) = some (r1, r2, r3) := H
    have A3 := Aside0.mk A30
    clear A30
    by_cases c4 : (t162.length : Int) < 2
    · rw [if_pos c4] at H
      have c4b0 : decide ((t162.length : Int) < 2) = true := decide_eq_true c4
      have c4b1 : decide (t162.length < 2) = true := decide_eq_true (by omega)
      clear c4
      simp only [Option.some.injEq, Prod.mk.injEq] at H
      obtain ⟨rfl, rfl, rfl⟩ := H
      go_enter Tryd.func11, Tryd.ntmps11
      go_wp2_with (first | (go_at_call 33; (with_reducible refine (rillbedref05_Split.calls k a0 t162 _ A3.out).mono ?_); rintro e w5 ⟨v163, rfl, ho0, hb⟩; have n0_ := Aside0.mk (Kd.R_lower ho0 (below_size (by repeat (first | (with_reducible first | exact HB.out | apply below_alloc | apply pw_below_drewN | apply below_drew1) | exact HB.out)))); have n1_ := Aside0.mk (below_step (by repeat (first | (with_reducible first | exact HB.out | apply below_alloc | apply pw_below_drewN | apply below_drew1) | exact HB.out)) hb); clear HB; have HO164 := n0_; have HB := n1_; clear n0_ n1_; (try clear hb); (try clear hb2); (try clear hk); (try clear hi); (try clear ho0); obtain ⟨Ao6, co6, eo6⟩ := Kd.R_slice HO164.out; subst eo6))
      repeat (go_quiet (first | (go_at_call 33; (with_reducible refine (rillbedref05_Split.calls k a0 t162 _ A3.out).mono ?_); rintro e w5 ⟨v163, rfl, ho0, hb⟩; have n0_ := Aside0.mk (Kd.R_lower ho0 (below_size (by repeat (first | (with_reducible first | exact HB.out | apply below_alloc | apply pw_below_drewN | apply below_drew1) | exact HB.out)))); have n1_ := Aside0.mk (below_step (by repeat (first | (with_reducible first | exact HB.out | apply below_alloc | apply pw_below_drewN | apply below_drew1) | exact HB.out)) hb); clear HB; have HO164 := n0_; have HB := n1_; clear n0_ n1_; (try clear hb); (try clear hb2); (try clear hk); (try clear hi); (try clear ho0); obtain ⟨Ao6, co6, eo6⟩ := Kd.R_slice HO164.out; subst eo6)); try go_wp2_with (first | (go_at_call 33; (with_reducible refine (rillbedref05_Split.calls k a0 t162 _ A3.out).mono ?_); rintro e w5 ⟨v163, rfl, ho0, hb⟩; have n0_ := Aside0.mk (Kd.R_lower ho0 (below_size (by repeat (first | (with_reducible first | exact HB.out | apply below_alloc | apply pw_below_drewN | apply below_drew1) | exact HB.out)))); have n1_ := Aside0.mk (below_step (by repeat (first | (with_reducible first | exact HB.out | apply below_alloc | apply pw_below_drewN | apply below_drew1) | exact HB.out)) hb); clear HB; have HO164 := n0_; have HB := n1_; clear n0_ n1_; (try clear hb); (try clear hb2); (try clear hk); (try clear hi); (try clear ho0); obtain ⟨Ao6, co6, eo6⟩ := Kd.R_slice HO164.out; subst eo6)))
      go_ret3
      exact ⟨_, by first | rfl | (simp [errW_none, errW_some] <;> rfl) | (simp [*, errW_none, errW_some] <;> rfl), Kd.Q_of_R (by first | exact Kd.R_nil _ _ _ _ _ | exact Kd.N_nil _ _ _ _ _ | exact Kd.V_nil _ _ _ _ _ | exact Kd.Q_nil _ _ _ _ _ | exact Kd.S_nil _ _ _ _ _), by repeat (first | (with_reducible first | exact HB.out | apply below_alloc | apply pw_below_drewN | apply below_drew1) | exact HB.out)⟩
    · rw [if_neg c4] at H
      have c4b0 : decide ((t162.length : Int) < 2) = false := decide_eq_false c4
      have c4b1 : decide (t162.length < 2) = false := decide_eq_false (by omega)
      clear c4
      by_cases c7 : 0 < (t162.length : Int)
      · rw [if_pos c7] at H
        have c7b0 : decide (0 < (t162.length : Int)) = true := decide_eq_true c7
        have c7b1 : decide (0 < t162.length) = true := decide_eq_true (by omega)
        clear c7
        have HC8 := Aside0.mk H
        clear H
        go_enter Tryd.func11, Tryd.ntmps11
        go_upto_if 22 with (first | (go_at_call 33; (with_reducible refine (rillbedref05_Split.calls k a0 t162 _ A3.out).mono ?_); rintro e w9 ⟨v163, rfl, ho0, hb⟩; have n0_ := Aside0.mk (Kd.R_lower ho0 (below_size (by repeat (first | (with_reducible first | exact HB.out | apply below_alloc | apply pw_below_drewN | apply below_drew1) | exact HB.out)))); have n1_ := Aside0.mk (below_step (by repeat (first | (with_reducible first | exact HB.out | apply below_alloc | apply pw_below_drewN | apply below_drew1) | exact HB.out)) hb); clear HB; have HO164 := n0_; have HB := n1_; clear n0_ n1_; (try clear hb); (try clear hb2); (try clear hk); (try clear hi); (try clear ho0); obtain ⟨Ao10, co10, eo10⟩ := Kd.R_slice HO164.out; subst eo10; have p165 : 0 ≤ (0 : Int) := (by omega); have q165 : 0 < (t162.length : Int) := of_decide_eq_true (by first | (with_reducible assumption) | assumption); obtain ⟨ad165, e165, hx165_0⟩ := Kd.at_string (Kd.R_reads' HO164.out).2.2 0 p165 q165; cases e165; have qi165 : (0 < t162.length) = True := eq_true (by omega); (try rw [show ((0 : Int)).toNat = 0 from rfl] at hx165_0); (try rw [Addr.add_zero'] at hx165_0); replace p165 := eq_true p165; replace q165 := eq_true q165))
        repeat (go_quiet (first | (go_at_call 33; (with_reducible refine (rillbedref05_Split.calls k a0 t162 _ A3.out).mono ?_); rintro e w9 ⟨v163, rfl, ho0, hb⟩; have n0_ := Aside0.mk (Kd.R_lower ho0 (below_size (by repeat (first | (with_reducible first | exact HB.out | apply below_alloc | apply pw_below_drewN | apply below_drew1) | exact HB.out)))); have n1_ := Aside0.mk (below_step (by repeat (first | (with_reducible first | exact HB.out | apply below_alloc | apply pw_below_drewN | apply below_drew1) | exact HB.out)) hb); clear HB; have HO164 := n0_; have HB := n1_; clear n0_ n1_; (try clear hb); (try clear hb2); (try clear hk); (try clear hi); (try clear ho0); obtain ⟨Ao10, co10, eo10⟩ := Kd.R_slice HO164.out; subst eo10; have p165 : 0 ≤ (0 : Int) := (by omega); have q165 : 0 < (t162.length : Int) := of_decide_eq_true (by first | (with_reducible assumption) | assumption); obtain ⟨ad165, e165, hx165_0⟩ := Kd.at_string (Kd.R_reads' HO164.out).2.2 0 p165 q165; cases e165; have qi165 : (0 < t162.length) = True := eq_true (by omega); (try rw [show ((0 : Int)).toNat = 0 from rfl] at hx165_0); (try rw [Addr.add_zero'] at hx165_0); replace p165 := eq_true p165; replace q165 := eq_true q165)); go_upto_if 22 with (first | (go_at_call 33; (with_reducible refine (rillbedref05_Split.calls k a0 t162 _ A3.out).mono ?_); rintro e w9 ⟨v163, rfl, ho0, hb⟩; have n0_ := Aside0.mk (Kd.R_lower ho0 (below_size (by repeat (first | (with_reducible first | exact HB.out | apply below_alloc | apply pw_below_drewN | apply below_drew1) | exact HB.out)))); have n1_ := Aside0.mk (below_step (by repeat (first | (with_reducible first | exact HB.out | apply below_alloc | apply pw_below_drewN | apply below_drew1) | exact HB.out)) hb); clear HB; have HO164 := n0_; have HB := n1_; clear n0_ n1_; (try clear hb); (try clear hb2); (try clear hk); (try clear hi); (try clear ho0); obtain ⟨Ao10, co10, eo10⟩ := Kd.R_slice HO164.out; subst eo10; have p165 : 0 ≤ (0 : Int) := (by omega); have q165 : 0 < (t162.length : Int) := of_decide_eq_true (by first | (with_reducible assumption) | assumption); obtain ⟨ad165, e165, hx165_0⟩ := Kd.at_string (Kd.R_reads' HO164.out).2.2 0 p165 q165; cases e165; have qi165 : (0 < t162.length) = True := eq_true (by omega); (try rw [show ((0 : Int)).toNat = 0 from rfl] at hx165_0); (try rw [Addr.add_zero'] at hx165_0); replace p165 := eq_true p165; replace q165 := eq_true q165)))
        (try simp only [Act.put, List.setIfInBounds_toArray, List.set_cons_zero, List.set_cons_succ])
        go_cut [6] (fun v6 wc => ∃ (kq : Nat) (x6_7 : ByteArray), v6 = .string x6_7 ∧ Aside0 (rillbedref05_Parse.j1 kq t162 x6_7 = some (r1, r2, r3)) ∧ Aside0 (kq ≤ k) ∧ Aside0 (Kd.R Kd.string 9 wc w.heap.size (fun _ => True) (.slice (some ad165) t162.length co10) t162) ∧ Aside0 (Below w.heap.size w wc))
        case first =>
          have H := HC8.out
          clear HC8
          by_cases c11 : (rdOf ByteArray.empty t162 0).toList = ([] : List UInt8)
          · rw [if_pos c11] at H
            have c11b0 : ((rdOf ByteArray.empty t162 0).toList == ([] : List UInt8)) = true := beq_iff_eq.mpr c11
            have c11e0 : (rdOf ByteArray.empty t162 0).toList.isEmpty = true := by simpa using c11b0
            have c11b1 : ((rdOf ByteArray.empty t162 0).toList != ([] : List UInt8)) = false := bne_eq_false_iff_eq.mpr c11
            clear c11
            (first | rw [c11b0] | (simp only [i64_w, i32_w]; rw [c11b0]) | skip)
            try rw [c11e0]
            have H' := Aside0.mk H
            clear H
            go_wp2
            repeat (go_quiet (fail); try go_wp2)
            go_meet
            case rel => exact ⟨_, ((⟨#[]⟩ : ByteArray)), (by first | rfl | (simp; done) | (simp [*]; done)), H', ⟨by first | omega | exact Nat.le_refl _⟩, ⟨by (with_reducible repeat (first | apply Kd.R_alloc | apply Kd.R_drewN | apply Kd.R_drew)); exact HO164.out⟩, ⟨by repeat (first | (with_reducible first | exact HB.out | apply below_alloc | apply pw_below_drewN | apply below_drew1) | exact HB.out)⟩⟩
          · rw [if_neg c11] at H
            have c11b0 : ((rdOf ByteArray.empty t162 0).toList == ([] : List UInt8)) = false := beq_eq_false_iff_ne.mpr c11
            have c11e0 : (rdOf ByteArray.empty t162 0).toList.isEmpty = false := by simpa using c11b0
            have c11b1 : ((rdOf ByteArray.empty t162 0).toList != ([] : List UInt8)) = true := bne_iff_ne.mpr c11
            (first | rw [c11b0] | (simp only [i64_w, i32_w]; rw [c11b0]) | skip)
            try rw [c11e0]
            obtain ⟨ji12, hji12⟩ : ∃ j_ : Int, (wrap64 (((rdOf ByteArray.empty t162 0).size : Int) - 1)) = j_ := ⟨_, rfl⟩
            replace H : (if 0 ≤ (ji12) then (if (ji12) ≤ ((rdOf ByteArray.empty t162 0).size : Int) then (if (ji12) < ((rdOf ByteArray.empty t162 0).size : Int) then (if (bt (rdOf ByteArray.empty t162 0) (ji12)) = 58 then ((rillbedref05_has.f k ((rdOf ByteArray.empty t162 0).extract 0 ((ji12) : Int).toNat) 58).bind fun t169 => (rillbedref05_Parse.j0 k t162 ((rdOf ByteArray.empty t162 0).extract 0 ((ji12) : Int).toNat) t169)) else (rillbedref05_Parse.j0 k t162 ((rdOf ByteArray.empty t162 0).extract 0 ((ji12) : Int).toNat) true)) else (none)) else (none)) else (none)) = some (r1, r2, r3) := by first | (rw [hji12] at H; exact H) | (simp only [hji12] at H ⊢; exact H)
            have hji12w : (IntKind.i64.wrap (((rdOf ByteArray.empty t162 0).size : Int) - 1)) = ji12 := (i64_w _).trans hji12
            by_cases c13 : 0 ≤ (ji12)
            · rw [if_pos c13] at H
              have c13b0 := eq_true c13
              have c13b1 : decide (0 ≤ (ji12)) = true := decide_eq_true c13
              clear c13
              by_cases c14 : (ji12) ≤ ((rdOf ByteArray.empty t162 0).size : Int)
              · rw [if_pos c14] at H
                have c14b0 := eq_true c14
                try (have c14b0w := c14b0; simp only [ByteArray.size_append, ByteArray.size_extract, Nat.min_self, szl1, szl2, szl3, szl4] at c14b0w)
                have c14b1 : decide ((ji12) ≤ ((rdOf ByteArray.empty t162 0).size : Int)) = true := decide_eq_true c14
                try (have c14b1w := c14b1; simp only [ByteArray.size_append, ByteArray.size_extract, Nat.min_self, szl1, szl2, szl3, szl4] at c14b1w)
                clear c14
                have HC15 := Aside0.mk H
                clear H
                have p166 : 0 ≤ (0 : Int) := (by omega)
                have q166 : 0 < (t162.length : Int) := of_decide_eq_true (by first | (with_reducible assumption) | assumption)
                obtain ⟨ad166, e166, hx166_0⟩ := Kd.at_string (Kd.R_reads' HO164.out).2.2 0 p166 q166
                obtain rfl : ad165 = ad166 := (by injection e166)
                have qi166 : (0 < t162.length) = True := eq_true (by omega)
                (try rw [show ((0 : Int)).toNat = 0 from rfl] at hx166_0)
                (try rw [Addr.add_zero'] at hx166_0)
                replace p166 := eq_true p166
                replace q166 := eq_true q166
                have p167 : 0 ≤ (0 : Int) := (by omega)
                have q167 : 0 < (t162.length : Int) := of_decide_eq_true (by first | (with_reducible assumption) | assumption)
                obtain ⟨ad167, e167, hx167_0⟩ := Kd.at_string (Kd.R_reads' HO164.out).2.2 0 p167 q167
                obtain rfl : ad165 = ad167 := (by injection e167)
                have qi167 : (0 < t162.length) = True := eq_true (by omega)
                (try rw [show ((0 : Int)).toNat = 0 from rfl] at hx167_0)
                (try rw [Addr.add_zero'] at hx167_0)
                replace p167 := eq_true p167
                replace q167 := eq_true q167
                go_upto_region 10 with (fail)
                repeat (go_quiet (fail); go_upto_region 10 with (fail))
                go_cut [42] (fun v42 wc => ∃ (kq : Nat) (x42_14 : Bool), v42 = .bool x42_14 ∧ Aside0 (rillbedref05_Parse.j0 kq t162 ((rdOf ByteArray.empty t162 0).extract 0 ((ji12) : Int).toNat) x42_14 = some (r1, r2, r3)) ∧ Aside0 (kq ≤ k) ∧ Aside0 (Kd.R Kd.string 9 wc w.heap.size (fun _ => True) (.slice (some ad165) t162.length co10) t162) ∧ Aside0 (Below w.heap.size w wc))
                case first =>
                  have H := HC15.out
                  clear HC15
                  by_cases c16 : (ji12) < ((rdOf ByteArray.empty t162 0).size : Int)
                  · rw [if_pos c16] at H
                    have c16b0 : decide ((ji12) < ((rdOf ByteArray.empty t162 0).size : Int)) = true := decide_eq_true c16
                    try (have c16b0w := c16b0; simp only [ByteArray.size_append, ByteArray.size_extract, Nat.min_self, szl1, szl2, szl3, szl4] at c16b0w)
                    clear c16
                    (first | rw [c16b0] | (simp only [i64_w, i32_w]; rw [c16b0]) | skip)
                    by_cases c18 : (bt (rdOf ByteArray.empty t162 0) (ji12)) = 58
                    · rw [if_pos c18] at H
                      have c18b0 : ((bt (rdOf ByteArray.empty t162 0) (ji12)) == 58) = true := beq_iff_eq.mpr c18
                      have c18b1 : ((bt (rdOf ByteArray.empty t162 0) (ji12)) != 58) = false := bne_eq_false_iff_eq.mpr c18
                      clear c18
                      replace H := Option.bind_eq_some_iff.mp H
                      obtain ⟨t169, A190, H⟩ := H
                      replace H : (rillbedref05_Parse.j0 k t162 ((rdOf ByteArray.empty t162 0).extract 0 ((ji12) : Int).toNat) t169) = some (r1, r2, r3) := H
                      have A19 := Aside0.mk A190
                      clear A190
                      have H' := Aside0.mk H
                      clear H
                      have p168 : 0 ≤ (0 : Int) := (by omega)
                      have q168 : 0 < (t162.length : Int) := of_decide_eq_true (by first | (with_reducible assumption) | assumption)
                      obtain ⟨ad168, e168, hx168_0⟩ := Kd.at_string (Kd.R_reads' HO164.out).2.2 0 p168 q168
                      obtain rfl : ad165 = ad168 := (by injection e168)
                      have qi168 : (0 < t162.length) = True := eq_true (by omega)
                      (try rw [show ((0 : Int)).toNat = 0 from rfl] at hx168_0)
                      (try rw [Addr.add_zero'] at hx168_0)
                      replace p168 := eq_true p168
                      replace q168 := eq_true q168
                      have p17 : 0 ≤ ((ji12) : Int) := of_decide_eq_true (by first | (with_reducible assumption) | assumption)
                      have q17 : (ji12) < ((rdOf ByteArray.empty t162 0).size : Int) := of_decide_eq_true (by first | (with_reducible assumption) | assumption)
                      have hx17 := bt_at (rdOf ByteArray.empty t162 0) (ji12)
                      replace p17 := eq_true p17
                      replace q17 := eq_true q17
                      go_wp2_with (first | (go_at_call 34; (with_reducible refine (rillbedref05_has.calls k ((rdOf ByteArray.empty t162 0).extract 0 ((ji12) : Int).toNat) 58 t169 _ A19.out).mono ?_); rintro e w' ⟨rfl, ⟨nd, rfl⟩⟩; (try first | exact ⟨rfl, _, World.drewN_drewN _ _ _⟩ | exact ⟨rfl, _, Eq.trans (World.drewN_drewN _ _ _) (congrArg (World.drewN _) (Nat.add_assoc _ _ _))⟩)))
                      repeat (go_quiet (first | (go_at_call 34; (with_reducible refine (rillbedref05_has.calls k ((rdOf ByteArray.empty t162 0).extract 0 ((ji12) : Int).toNat) 58 t169 _ A19.out).mono ?_); rintro e w' ⟨rfl, ⟨nd, rfl⟩⟩; (try first | exact ⟨rfl, _, World.drewN_drewN _ _ _⟩ | exact ⟨rfl, _, Eq.trans (World.drewN_drewN _ _ _) (congrArg (World.drewN _) (Nat.add_assoc _ _ _))⟩))); try go_wp2_with (first | (go_at_call 34; (with_reducible refine (rillbedref05_has.calls k ((rdOf ByteArray.empty t162 0).extract 0 ((ji12) : Int).toNat) 58 t169 _ A19.out).mono ?_); rintro e w' ⟨rfl, ⟨nd, rfl⟩⟩; (try first | exact ⟨rfl, _, World.drewN_drewN _ _ _⟩ | exact ⟨rfl, _, Eq.trans (World.drewN_drewN _ _ _) (congrArg (World.drewN _) (Nat.add_assoc _ _ _))⟩))))
                      go_meet
                      case rel => exact ⟨_, (t169), (by first | rfl | (simp; done) | (simp [*]; done)), H', ⟨by first | omega | exact Nat.le_refl _⟩, ⟨by (with_reducible repeat (first | apply Kd.R_alloc | apply Kd.R_drewN | apply Kd.R_drew)); exact HO164.out⟩, ⟨by repeat (first | (with_reducible first | exact HB.out | apply below_alloc | apply pw_below_drewN | apply below_drew1) | exact HB.out)⟩⟩
                    · rw [if_neg c18] at H
                      have c18b0 : ((bt (rdOf ByteArray.empty t162 0) (ji12)) == 58) = false := beq_eq_false_iff_ne.mpr c18
                      have c18b1 : ((bt (rdOf ByteArray.empty t162 0) (ji12)) != 58) = true := bne_iff_ne.mpr c18
                      have H' := Aside0.mk H
                      clear H
                      have p168 : 0 ≤ (0 : Int) := (by omega)
                      have q168 : 0 < (t162.length : Int) := of_decide_eq_true (by first | (with_reducible assumption) | assumption)
                      obtain ⟨ad168, e168, hx168_0⟩ := Kd.at_string (Kd.R_reads' HO164.out).2.2 0 p168 q168
                      obtain rfl : ad165 = ad168 := (by injection e168)
                      have qi168 : (0 < t162.length) = True := eq_true (by omega)
                      (try rw [show ((0 : Int)).toNat = 0 from rfl] at hx168_0)
                      (try rw [Addr.add_zero'] at hx168_0)
                      replace p168 := eq_true p168
                      replace q168 := eq_true q168
                      have p17 : 0 ≤ ((ji12) : Int) := of_decide_eq_true (by first | (with_reducible assumption) | assumption)
                      have q17 : (ji12) < ((rdOf ByteArray.empty t162 0).size : Int) := of_decide_eq_true (by first | (with_reducible assumption) | assumption)
                      have hx17 := bt_at (rdOf ByteArray.empty t162 0) (ji12)
                      replace p17 := eq_true p17
                      replace q17 := eq_true q17
                      go_wp2
                      repeat (go_quiet (fail); try go_wp2)
                      go_meet
                      case rel => exact ⟨_, (true), (by first | rfl | (simp; done) | (simp [*]; done)), H', ⟨by first | omega | exact Nat.le_refl _⟩, ⟨by (with_reducible repeat (first | apply Kd.R_alloc | apply Kd.R_drewN | apply Kd.R_drew)); exact HO164.out⟩, ⟨by repeat (first | (with_reducible first | exact HB.out | apply below_alloc | apply pw_below_drewN | apply below_drew1) | exact HB.out)⟩⟩
                  · rw [if_neg c16] at H
                    exact absurd H (by simp)
                case rest =>
                  clear HC15
                  try clear c1
                  try clear p1
                  try clear q1
                  try clear hx1
                  try clear qi1
                  try clear c2
                  try clear c2b0
                  try clear c2b1
                  try clear p2
                  try clear c4
                  try clear c4b0
                  try clear c4b1
                  try clear p6
                  try clear c7
                  try clear c7b0
                  try clear c7b1
                  try clear c11
                  try clear c11b0
                  try clear c11b1
                  try clear c13
                  try clear c13b0
                  try clear c13b1
                  try clear c14
                  try clear c14b0
                  try clear c14b1
                  try clear c16
                  try clear c16b0
                  try clear p16
                  try clear q16
                  try clear hx16
                  try clear qi16
                  try clear p17
                  try clear q17
                  try clear hx17
                  try clear c18
                  try clear c18b0
                  try clear c18b1
                  try clear hx165_0
                  try clear hx166_0
                  try clear hx167_0
                  try clear hx168_0
                  try clear p165
                  try clear p166
                  try clear p167
                  try clear p168
                  try clear p17
                  try clear q165
                  try clear q166
                  try clear q167
                  try clear q168
                  try clear q17
                  obtain ⟨kq, x42_14, rfl, HA, HJ14, HO_5, HB⟩ := hcut
                  cases kq with
                  | zero => exact absurd HA.out (by simp [rillbedref05_Parse.j0])
                  | succ kj14 =>
                    have H := HA.out
                    clear HA
                    simp only [rillbedref05_Parse.j0] at H
                    by_cases c20 : x42_14 = true
                    · subst c20
                      have H1 : (some ((⟨#[]⟩ : ByteArray), ([] : List ByteArray), 4)) = some (r1, r2, r3) := by rw [if_pos rfl] at H; exact H
                      clear H
                      have H := H1
                      clear H1
                      simp only [Option.some.injEq, Prod.mk.injEq] at H
                      obtain ⟨rfl, rfl, rfl⟩ := H
                      go_wp2
                      repeat (go_quiet (fail); try go_wp2)
                      go_ret3
                      exact ⟨_, by first | rfl | (simp [errW_none, errW_some] <;> rfl) | (simp only [← hji12]; first | rfl | (simp [errW_none, errW_some] <;> rfl)) | (simp [*, errW_none, errW_some] <;> rfl), Kd.Q_of_R (by first | exact Kd.R_nil _ _ _ _ _ | exact Kd.N_nil _ _ _ _ _ | exact Kd.V_nil _ _ _ _ _ | exact Kd.Q_nil _ _ _ _ _ | exact Kd.S_nil _ _ _ _ _), by repeat (first | (with_reducible first | exact HB.out | apply below_alloc | apply pw_below_drewN | apply below_drew1) | exact HB.out)⟩
                    · replace c20 := Bool.eq_false_iff.mpr c20
                      subst c20
                      have H1 : ((rillbedref05_Check.f kj14 ((rdOf ByteArray.empty t162 0).extract 0 ((ji12) : Int).toNat)).bind fun t170 => (if t170 = 0 then (rillbedref05_Parse.j1 kj14 t162 ((rdOf ByteArray.empty t162 0).extract 0 ((ji12) : Int).toNat)) else (some ((⟨#[]⟩ : ByteArray), ([] : List ByteArray), t170)))) = some (r1, r2, r3) := by rw [if_neg (show ¬ (false = true) by decide)] at H; exact H
                      clear H
                      have H := H1
                      clear H1
                      replace H := Option.bind_eq_some_iff.mp H
                      obtain ⟨t170, A210, H⟩ := H
                      replace H : (if t170 = 0 then (rillbedref05_Parse.j1 kj14 t162 ((rdOf ByteArray.empty t162 0).extract 0 ((ji12) : Int).toNat)) else (some ((⟨#[]⟩ : ByteArray), ([] : List ByteArray), t170))) = some (r1, r2, r3) := H
                      have A21 := Aside0.mk A210
                      clear A210
                      by_cases c22 : t170 = 0
                      · rw [if_pos c22] at H
                        have c22b0 : (t170 == 0) = true := beq_iff_eq.mpr c22
                        have c22b1 : (t170 != 0) = false := bne_eq_false_iff_eq.mpr c22
                        clear c22
                        have H' := Aside0.mk H
                        clear H
                        go_wp2_with (first | (go_at_call 14; (with_reducible refine (rillbedref05_Check.calls kj14 ((rdOf ByteArray.empty t162 0).extract 0 ((ji12) : Int).toNat) t170 _ A21.out).mono ?_); rintro e w' ⟨rfl, ⟨nd, rfl⟩⟩; (try first | exact ⟨rfl, _, World.drewN_drewN _ _ _⟩ | exact ⟨rfl, _, Eq.trans (World.drewN_drewN _ _ _) (congrArg (World.drewN _) (Nat.add_assoc _ _ _))⟩)))
                        repeat (go_quiet (first | (go_at_call 14; (with_reducible refine (rillbedref05_Check.calls kj14 ((rdOf ByteArray.empty t162 0).extract 0 ((ji12) : Int).toNat) t170 _ A21.out).mono ?_); rintro e w' ⟨rfl, ⟨nd, rfl⟩⟩; (try first | exact ⟨rfl, _, World.drewN_drewN _ _ _⟩ | exact ⟨rfl, _, Eq.trans (World.drewN_drewN _ _ _) (congrArg (World.drewN _) (Nat.add_assoc _ _ _))⟩))); try go_wp2_with (first | (go_at_call 14; (with_reducible refine (rillbedref05_Check.calls kj14 ((rdOf ByteArray.empty t162 0).extract 0 ((ji12) : Int).toNat) t170 _ A21.out).mono ?_); rintro e w' ⟨rfl, ⟨nd, rfl⟩⟩; (try first | exact ⟨rfl, _, World.drewN_drewN _ _ _⟩ | exact ⟨rfl, _, Eq.trans (World.drewN_drewN _ _ _) (congrArg (World.drewN _) (Nat.add_assoc _ _ _))⟩))))
                        go_meet
                        case rel => exact ⟨_, (((rdOf ByteArray.empty t162 0).extract 0 ((ji12) : Int).toNat)), (by first | rfl | (simp; done) | (simp only [← hji12] <;> (first | rfl | simp)) | (simp [*]; done)), H', ⟨by have := HJ14.out; first | omega | exact Nat.le_refl _⟩, ⟨by (with_reducible repeat (first | apply Kd.R_alloc | apply Kd.R_drewN | apply Kd.R_drew)); exact HO_5.out⟩, ⟨by repeat (first | (with_reducible first | exact HB.out | apply below_alloc | apply pw_below_drewN | apply below_drew1) | exact HB.out)⟩⟩
                      · rw [if_neg c22] at H
                        have c22b0 : (t170 == 0) = false := beq_eq_false_iff_ne.mpr c22
                        have c22b1 : (t170 != 0) = true := bne_iff_ne.mpr c22
                        simp only [Option.some.injEq, Prod.mk.injEq] at H
                        obtain ⟨rfl, rfl, rfl⟩ := H
                        go_wp2_with (first | (go_at_call 14; (with_reducible refine (rillbedref05_Check.calls kj14 ((rdOf ByteArray.empty t162 0).extract 0 ((ji12) : Int).toNat) t170 _ A21.out).mono ?_); rintro e w' ⟨rfl, ⟨nd, rfl⟩⟩; (try first | exact ⟨rfl, _, World.drewN_drewN _ _ _⟩ | exact ⟨rfl, _, Eq.trans (World.drewN_drewN _ _ _) (congrArg (World.drewN _) (Nat.add_assoc _ _ _))⟩)))
                        repeat (go_quiet (first | (go_at_call 14; (with_reducible refine (rillbedref05_Check.calls kj14 ((rdOf ByteArray.empty t162 0).extract 0 ((ji12) : Int).toNat) t170 _ A21.out).mono ?_); rintro e w' ⟨rfl, ⟨nd, rfl⟩⟩; (try first | exact ⟨rfl, _, World.drewN_drewN _ _ _⟩ | exact ⟨rfl, _, Eq.trans (World.drewN_drewN _ _ _) (congrArg (World.drewN _) (Nat.add_assoc _ _ _))⟩))); try go_wp2_with (first | (go_at_call 14; (with_reducible refine (rillbedref05_Check.calls kj14 ((rdOf ByteArray.empty t162 0).extract 0 ((ji12) : Int).toNat) t170 _ A21.out).mono ?_); rintro e w' ⟨rfl, ⟨nd, rfl⟩⟩; (try first | exact ⟨rfl, _, World.drewN_drewN _ _ _⟩ | exact ⟨rfl, _, Eq.trans (World.drewN_drewN _ _ _) (congrArg (World.drewN _) (Nat.add_assoc _ _ _))⟩))))
                        go_ret3
                        exact ⟨_, by first | rfl | (simp [errW_none, errW_some] <;> rfl) | (simp only [← hji12]; first | rfl | (simp [errW_none, errW_some] <;> rfl)) | (simp [*, errW_none, errW_some] <;> rfl), Kd.Q_of_R (by first | exact Kd.R_nil _ _ _ _ _ | exact Kd.N_nil _ _ _ _ _ | exact Kd.V_nil _ _ _ _ _ | exact Kd.Q_nil _ _ _ _ _ | exact Kd.S_nil _ _ _ _ _), by repeat (first | (with_reducible first | exact HB.out | apply below_alloc | apply pw_below_drewN | apply below_drew1) | exact HB.out)⟩
              · rw [if_neg c14] at H
                exact absurd H (by simp)
            · rw [if_neg c13] at H
              exact absurd H (by simp)
        case rest =>
          clear HC8
          try clear c1
          try clear p1
          try clear q1
          try clear hx1
          try clear qi1
          try clear c2
          try clear c2b0
          try clear c2b1
          try clear p2
          try clear c4
          try clear c4b0
          try clear c4b1
          try clear p6
          try clear c7
          try clear c7b0
          try clear c7b1
          try clear c11
          try clear c11b0
          try clear c11b1
          try clear c13
          try clear c13b0
          try clear c13b1
          try clear c14
          try clear c14b0
          try clear c14b1
          try clear c16
          try clear c16b0
          try clear p16
          try clear q16
          try clear hx16
          try clear qi16
          try clear p17
          try clear q17
          try clear hx17
          try clear c18
          try clear c18b0
          try clear c18b1
          try clear c20
          try clear c22
          try clear c22b0
          try clear c22b1
          try clear hx165_0
          try clear hx166_0
          try clear hx167_0
          try clear hx168_0
          try clear p1
          try clear p16
          try clear p165
          try clear p166
          try clear p167
          try clear p168
          try clear p17
          try clear p2
          try clear p6
          try clear q1
          try clear q16
          try clear q165
          try clear q166
          try clear q167
          try clear q168
          try clear q17
          obtain ⟨kq, x6_7, rfl, HA, HJ7, HO_5, HB⟩ := hcut
          cases kq with
          | zero => exact absurd HA.out (by simp [rillbedref05_Parse.j1])
          | succ kj7 =>
            have H := HA.out
            clear HA
            simp only [rillbedref05_Parse.j1] at H
            have HC23 := Aside0.mk H
            clear H
            go_upto_region 15 with (fail)
            repeat (go_quiet (fail); go_upto_region 15 with (fail))
            go_cut [56] (fun v56 wc => ∃ (kq : Nat) (x56_22 : Bool), v56 = .bool x56_22 ∧ Aside0 (rillbedref05_Parse.j2 kq t162 x6_7 x56_22 = some (r1, r2, r3)) ∧ Aside0 (kq ≤ kj7) ∧ Aside0 (Kd.R Kd.string 9 wc w.heap.size (fun _ => True) (.slice (some ad165) t162.length co10) t162) ∧ Aside0 (Below w.heap.size w wc))
            case first =>
              have H := HC23.out
              clear HC23
              by_cases c24 : (t162.length : Int) = 2
              · rw [if_pos c24] at H
                have c24b0 : ((t162.length : Int) == 2) = true := beq_iff_eq.mpr c24
                have c24b1 : ((t162.length : Int) != 2) = false := bne_eq_false_iff_eq.mpr c24
                clear c24
                (first | rw [c24b0] | (simp only [i64_w, i32_w]; rw [c24b0]) | skip)
                by_cases c25 : 1 < (t162.length : Int)
                · rw [if_pos c25] at H
                  have c25b0 : decide (1 < (t162.length : Int)) = true := decide_eq_true c25
                  have c25b1 : decide (1 < t162.length) = true := decide_eq_true (by omega)
                  clear c25
                  have H' := Aside0.mk H
                  clear H
                  have p171 : 0 ≤ (1 : Int) := (by omega)
                  have q171 : 1 < (t162.length : Int) := of_decide_eq_true (by first | (with_reducible assumption) | assumption)
                  obtain ⟨ad171, e171, hx171_0⟩ := Kd.at_string (Kd.R_reads' HO_5.out).2.2 1 p171 q171
                  obtain rfl : ad165 = ad171 := (by injection e171)
                  (try simp only [show (1 : Int).toNat = 1 from rfl, Nat.reduceMul, Nat.reduceEqDiff, Go.Addr.add, ↓reduceIte] at hx171_0)
                  have qi171 : (1 < t162.length) = True := eq_true (by omega)
                  (try rw [show ((1 : Int)).toNat = 1 from rfl] at hx171_0)
                  replace p171 := eq_true p171
                  replace q171 := eq_true q171
                  go_wp2
                  repeat (go_quiet (fail); try go_wp2)
                  go_meet
                  case rel => exact ⟨_, (((rdOf ByteArray.empty t162 1).toList == ([] : List UInt8))), (by first | rfl | (simp; done) | (simp [*]; done)), H', ⟨by have := HJ7.out; first | omega | exact Nat.le_refl _⟩, ⟨by (with_reducible repeat (first | apply Kd.R_alloc | apply Kd.R_drewN | apply Kd.R_drew)); exact HO_5.out⟩, ⟨by repeat (first | (with_reducible first | exact HB.out | apply below_alloc | apply pw_below_drewN | apply below_drew1) | exact HB.out)⟩⟩
                · rw [if_neg c25] at H
                  exact absurd H (by simp)
              · rw [if_neg c24] at H
                have c24b0 : ((t162.length : Int) == 2) = false := beq_eq_false_iff_ne.mpr c24
                have c24b1 : ((t162.length : Int) != 2) = true := bne_iff_ne.mpr c24
                (first | rw [c24b0] | (simp only [i64_w, i32_w]; rw [c24b0]) | skip)
                have H' := Aside0.mk H
                clear H
                go_wp2
                repeat (go_quiet (fail); try go_wp2)
                go_meet
                case rel => exact ⟨_, (false), (by first | rfl | (simp; done) | (simp [*]; done)), H', ⟨by have := HJ7.out; first | omega | exact Nat.le_refl _⟩, ⟨by (with_reducible repeat (first | apply Kd.R_alloc | apply Kd.R_drewN | apply Kd.R_drew)); exact HO_5.out⟩, ⟨by repeat (first | (with_reducible first | exact HB.out | apply below_alloc | apply pw_below_drewN | apply below_drew1) | exact HB.out)⟩⟩
            case rest =>
              clear HC23
              try clear c1
              try clear p1
              try clear q1
              try clear hx1
              try clear qi1
              try clear c2
              try clear c2b0
              try clear c2b1
              try clear p2
              try clear c4
              try clear c4b0
              try clear c4b1
              try clear p6
              try clear c7
              try clear c7b0
              try clear c7b1
              try clear c11
              try clear c11b0
              try clear c11b1
              try clear c13
              try clear c13b0
              try clear c13b1
              try clear c14
              try clear c14b0
              try clear c14b1
              try clear c16
              try clear c16b0
              try clear p16
              try clear q16
              try clear hx16
              try clear qi16
              try clear p17
              try clear q17
              try clear hx17
              try clear qi17
              try clear c18
              try clear c18b0
              try clear c18b1
              try clear c20
              try clear c22
              try clear c22b0
              try clear c22b1
              try clear c24
              try clear c24b0
              try clear c24b1
              try clear c25
              try clear c25b0
              try clear c25b1
              try clear hx165_0
              try clear hx166_0
              try clear hx167_0
              try clear hx168_0
              try clear hx171_0
              try clear p1
              try clear p16
              try clear p165
              try clear p166
              try clear p167
              try clear p168
              try clear p17
              try clear p171
              try clear p2
              try clear p6
              try clear q1
              try clear q16
              try clear q165
              try clear q166
              try clear q167
              try clear q168
              try clear q17
              try clear q171
              obtain ⟨kq, x56_22, rfl, HA, HJ22, HO_5, HB⟩ := hcut
              cases kq with
              | zero => exact absurd HA.out (by simp [rillbedref05_Parse.j2])
              | succ kj22 =>
                have H := HA.out
                clear HA
                simp only [rillbedref05_Parse.j2] at H
                by_cases c26 : x56_22 = true
                · subst c26
                  have H1 : (some (x6_7, ([] : List ByteArray), 0)) = some (r1, r2, r3) := by rw [if_pos rfl] at H; exact H
                  clear H
                  have H := H1
                  clear H1
                  simp only [Option.some.injEq, Prod.mk.injEq] at H
                  obtain ⟨rfl, rfl, rfl⟩ := H
                  go_wp2
                  repeat (go_quiet (fail); try go_wp2)
                  go_ret3
                  exact ⟨_, by first | rfl | (simp [errW_none, errW_some] <;> rfl) | (simp [*, errW_none, errW_some] <;> rfl), Kd.Q_of_R (by first | exact Kd.R_nil _ _ _ _ _ | exact Kd.N_nil _ _ _ _ _ | exact Kd.V_nil _ _ _ _ _ | exact Kd.Q_nil _ _ _ _ _ | exact Kd.S_nil _ _ _ _ _), by repeat (first | (with_reducible first | exact HB.out | apply below_alloc | apply pw_below_drewN | apply below_drew1) | exact HB.out)⟩
                · replace c26 := Bool.eq_false_iff.mpr c26
                  subst c26
                  have H1 : (rillbedref05_Parse.l0 kj22 t162 x6_7 1) = some (r1, r2, r3) := by rw [if_neg (show ¬ (false = true) by decide)] at H; exact H
                  clear H
                  have H := H1
                  clear H1
                  have H' := Aside0.mk H
                  clear H
                  go_wp2
                  repeat (go_quiet (fail); try go_wp2)
                  go_loopg [9] kj22 (fun kq v9 w' => ∃ (x9_3 : Int), v9 = .int .i64 x9_3 ∧ Aside0 (rillbedref05_Parse.l0 kq t162 x6_7 x9_3 = some (r1, r2, r3)) ∧ Aside0 (kq ≤ kj22) ∧ Aside0 (Kd.R Kd.string 9 w' w.heap.size (fun _ => True) (.slice (some ad165) t162.length co10) t162) ∧ Aside0 (Below w.heap.size w w'))
                  case atStart => exact ⟨(1), (by first | rfl | (simp; done) | (simp [*]; done)), H', ⟨Nat.le_refl _⟩, ⟨by (with_reducible repeat (first | apply Kd.R_alloc | apply Kd.R_drewN | apply Kd.R_drew)); exact HO_5.out⟩, ⟨by repeat (first | (with_reducible first | exact HB.out | apply below_alloc | apply pw_below_drewN | apply below_drew1) | exact HB.out)⟩⟩
                  case round =>
                    clear H'
                    try clear c1
                    try clear p1
                    try clear q1
                    try clear hx1
                    try clear qi1
                    try clear c2
                    try clear c2b0
                    try clear c2b1
                    try clear p2
                    try clear c4
                    try clear c4b0
                    try clear c4b1
                    try clear p6
                    try clear c7
                    try clear c7b0
                    try clear c7b1
                    try clear c11
                    try clear c11b0
                    try clear c11b1
                    try clear c13
                    try clear c13b0
                    try clear c13b1
                    try clear c14
                    try clear c14b0
                    try clear c14b1
                    try clear c16
                    try clear c16b0
                    try clear p16
                    try clear q16
                    try clear hx16
                    try clear qi16
                    try clear p17
                    try clear q17
                    try clear hx17
                    try clear qi17
                    try clear c18
                    try clear c18b0
                    try clear c18b1
                    try clear c20
                    try clear c22
                    try clear c22b0
                    try clear c22b1
                    try clear c24
                    try clear c24b0
                    try clear c24b1
                    try clear c25
                    try clear c25b0
                    try clear c25b1
                    try clear c26
                    try clear hx165_0
                    try clear hx166_0
                    try clear hx167_0
                    try clear hx168_0
                    try clear hx171_0
                    try clear p1
                    try clear p16
                    try clear p165
                    try clear p166
                    try clear p167
                    try clear p168
                    try clear p17
                    try clear p171
                    try clear p2
                    try clear p6
                    try clear q1
                    try clear q16
                    try clear q165
                    try clear q166
                    try clear q167
                    try clear q168
                    try clear q17
                    try clear q171
                    obtain ⟨x9_3, rfl, HA, HK3, HO_5, HB⟩ := hrel
                    cases gk with
                    | zero => exact absurd HA.out (by simp [rillbedref05_Parse.l0])
                    | succ k3 =>
                      have H := HA.out
                      clear HA
                      simp only [rillbedref05_Parse.l0] at H
                      by_cases c27 : x9_3 < (t162.length : Int)
                      · rw [if_pos c27] at H
                        have c27b0 : decide (x9_3 < (t162.length : Int)) = true := decide_eq_true c27
                        clear c27
                        by_cases c28 : 0 ≤ x9_3
                        · rw [if_pos c28] at H
                          have c28b0 : decide (0 ≤ x9_3) = true := decide_eq_true c28
                          clear c28
                          replace H := Option.bind_eq_some_iff.mp H
                          obtain ⟨t176, A290, H⟩ := H
                          replace H : (if t176 = 0 then (if x9_3 > 6 then (some ((⟨#[]⟩ : ByteArray), ([] : List ByteArray), 3)) else (rillbedref05_Parse.l0 k3 t162 x6_7 (wrap64 (x9_3 + 1)))) else (some ((⟨#[]⟩ : ByteArray), ([] : List ByteArray), t176))) = some (r1, r2, r3) := H
                          have A29 := Aside0.mk A290
                          clear A290
                          by_cases c30 : t176 = 0
                          · rw [if_pos c30] at H
                            have c30b0 : (t176 == 0) = true := beq_iff_eq.mpr c30
                            have c30b1 : (t176 != 0) = false := bne_eq_false_iff_eq.mpr c30
                            clear c30
                            by_cases c31 : x9_3 > 6
                            · rw [if_pos c31] at H
                              have c31b0 : decide (6 < x9_3) = true := decide_eq_true c31
                              clear c31
                              simp only [Option.some.injEq, Prod.mk.injEq] at H
                              obtain ⟨rfl, rfl, rfl⟩ := H
                              have p175 : 0 ≤ (x9_3 : Int) := of_decide_eq_true (by first | (with_reducible assumption) | assumption)
                              have q175 : x9_3 < (t162.length : Int) := of_decide_eq_true (by first | (with_reducible assumption) | assumption)
                              obtain ⟨ad175, e175, hx175_0⟩ := Kd.at_string (Kd.R_reads' HO_5.out).2.2 x9_3 p175 q175
                              obtain rfl : ad165 = ad175 := (by injection e175)
                              replace p175 := eq_true p175
                              replace q175 := eq_true q175
                              go_wp2_with (first | (go_at_call 14; (with_reducible refine (rillbedref05_Check.calls k3 (rdOf ByteArray.empty t162 x9_3) t176 _ A29.out).mono ?_); rintro e w' ⟨rfl, ⟨nd, rfl⟩⟩; (try first | exact ⟨rfl, _, World.drewN_drewN _ _ _⟩ | exact ⟨rfl, _, Eq.trans (World.drewN_drewN _ _ _) (congrArg (World.drewN _) (Nat.add_assoc _ _ _))⟩)))
                              repeat (go_quiet (first | (go_at_call 14; (with_reducible refine (rillbedref05_Check.calls k3 (rdOf ByteArray.empty t162 x9_3) t176 _ A29.out).mono ?_); rintro e w' ⟨rfl, ⟨nd, rfl⟩⟩; (try first | exact ⟨rfl, _, World.drewN_drewN _ _ _⟩ | exact ⟨rfl, _, Eq.trans (World.drewN_drewN _ _ _) (congrArg (World.drewN _) (Nat.add_assoc _ _ _))⟩))); try go_wp2_with (first | (go_at_call 14; (with_reducible refine (rillbedref05_Check.calls k3 (rdOf ByteArray.empty t162 x9_3) t176 _ A29.out).mono ?_); rintro e w' ⟨rfl, ⟨nd, rfl⟩⟩; (try first | exact ⟨rfl, _, World.drewN_drewN _ _ _⟩ | exact ⟨rfl, _, Eq.trans (World.drewN_drewN _ _ _) (congrArg (World.drewN _) (Nat.add_assoc _ _ _))⟩))))
                              go_ret3
                              exact ⟨_, by first | rfl | (simp [errW_none, errW_some] <;> rfl) | (simp [*, errW_none, errW_some] <;> rfl), Kd.Q_of_R (by first | exact Kd.R_nil _ _ _ _ _ | exact Kd.N_nil _ _ _ _ _ | exact Kd.V_nil _ _ _ _ _ | exact Kd.Q_nil _ _ _ _ _ | exact Kd.S_nil _ _ _ _ _), by repeat (first | (with_reducible first | exact HB.out | apply below_alloc | apply pw_below_drewN | apply below_drew1) | exact HB.out)⟩
                            · rw [if_neg c31] at H
                              have c31b0 : decide (6 < x9_3) = false := decide_eq_false c31
                              clear c31
                              have H' := Aside0.mk H
                              clear H
                              have p175 : 0 ≤ (x9_3 : Int) := of_decide_eq_true (by first | (with_reducible assumption) | assumption)
                              have q175 : x9_3 < (t162.length : Int) := of_decide_eq_true (by first | (with_reducible assumption) | assumption)
                              obtain ⟨ad175, e175, hx175_0⟩ := Kd.at_string (Kd.R_reads' HO_5.out).2.2 x9_3 p175 q175
                              obtain rfl : ad165 = ad175 := (by injection e175)
                              replace p175 := eq_true p175
                              replace q175 := eq_true q175
                              go_wp2_with (first | (go_at_call 14; (with_reducible refine (rillbedref05_Check.calls k3 (rdOf ByteArray.empty t162 x9_3) t176 _ A29.out).mono ?_); rintro e w' ⟨rfl, ⟨nd, rfl⟩⟩; (try first | exact ⟨rfl, _, World.drewN_drewN _ _ _⟩ | exact ⟨rfl, _, Eq.trans (World.drewN_drewN _ _ _) (congrArg (World.drewN _) (Nat.add_assoc _ _ _))⟩)))
                              repeat (go_quiet (first | (go_at_call 14; (with_reducible refine (rillbedref05_Check.calls k3 (rdOf ByteArray.empty t162 x9_3) t176 _ A29.out).mono ?_); rintro e w' ⟨rfl, ⟨nd, rfl⟩⟩; (try first | exact ⟨rfl, _, World.drewN_drewN _ _ _⟩ | exact ⟨rfl, _, Eq.trans (World.drewN_drewN _ _ _) (congrArg (World.drewN _) (Nat.add_assoc _ _ _))⟩))); try go_wp2_with (first | (go_at_call 14; (with_reducible refine (rillbedref05_Check.calls k3 (rdOf ByteArray.empty t162 x9_3) t176 _ A29.out).mono ?_); rintro e w' ⟨rfl, ⟨nd, rfl⟩⟩; (try first | exact ⟨rfl, _, World.drewN_drewN _ _ _⟩ | exact ⟨rfl, _, Eq.trans (World.drewN_drewN _ _ _) (congrArg (World.drewN _) (Nat.add_assoc _ _ _))⟩))))
                              go_roundg k3
                              case measure => have := HJ7.out; have := HJ22.out; have := HK3.out; omega
                              case rel => exact ⟨(wrap64 (x9_3 + 1)), (by first | rfl | (simp; done) | (simp [*]; done)), H', ⟨by have := HJ7.out; have := HJ22.out; have := HK3.out; omega⟩, ⟨by (with_reducible repeat (first | apply Kd.R_alloc | apply Kd.R_drewN | apply Kd.R_drew)); exact HO_5.out⟩, ⟨by repeat (first | (with_reducible first | exact HB.out | apply below_alloc | apply pw_below_drewN | apply below_drew1) | exact HB.out)⟩⟩
                          · rw [if_neg c30] at H
                            have c30b0 : (t176 == 0) = false := beq_eq_false_iff_ne.mpr c30
                            have c30b1 : (t176 != 0) = true := bne_iff_ne.mpr c30
                            simp only [Option.some.injEq, Prod.mk.injEq] at H
                            obtain ⟨rfl, rfl, rfl⟩ := H
                            have p175 : 0 ≤ (x9_3 : Int) := of_decide_eq_true (by first | (with_reducible assumption) | assumption)
                            have q175 : x9_3 < (t162.length : Int) := of_decide_eq_true (by first | (with_reducible assumption) | assumption)
                            obtain ⟨ad175, e175, hx175_0⟩ := Kd.at_string (Kd.R_reads' HO_5.out).2.2 x9_3 p175 q175
                            obtain rfl : ad165 = ad175 := (by injection e175)
                            replace p175 := eq_true p175
                            replace q175 := eq_true q175
                            go_wp2_with (first | (go_at_call 14; (with_reducible refine (rillbedref05_Check.calls k3 (rdOf ByteArray.empty t162 x9_3) t176 _ A29.out).mono ?_); rintro e w' ⟨rfl, ⟨nd, rfl⟩⟩; (try first | exact ⟨rfl, _, World.drewN_drewN _ _ _⟩ | exact ⟨rfl, _, Eq.trans (World.drewN_drewN _ _ _) (congrArg (World.drewN _) (Nat.add_assoc _ _ _))⟩)))
                            repeat (go_quiet (first | (go_at_call 14; (with_reducible refine (rillbedref05_Check.calls k3 (rdOf ByteArray.empty t162 x9_3) t176 _ A29.out).mono ?_); rintro e w' ⟨rfl, ⟨nd, rfl⟩⟩; (try first | exact ⟨rfl, _, World.drewN_drewN _ _ _⟩ | exact ⟨rfl, _, Eq.trans (World.drewN_drewN _ _ _) (congrArg (World.drewN _) (Nat.add_assoc _ _ _))⟩))); try go_wp2_with (first | (go_at_call 14; (with_reducible refine (rillbedref05_Check.calls k3 (rdOf ByteArray.empty t162 x9_3) t176 _ A29.out).mono ?_); rintro e w' ⟨rfl, ⟨nd, rfl⟩⟩; (try first | exact ⟨rfl, _, World.drewN_drewN _ _ _⟩ | exact ⟨rfl, _, Eq.trans (World.drewN_drewN _ _ _) (congrArg (World.drewN _) (Nat.add_assoc _ _ _))⟩))))
                            go_ret3
                            exact ⟨_, by first | rfl | (simp [errW_none, errW_some] <;> rfl) | (simp [*, errW_none, errW_some] <;> rfl), Kd.Q_of_R (by first | exact Kd.R_nil _ _ _ _ _ | exact Kd.N_nil _ _ _ _ _ | exact Kd.V_nil _ _ _ _ _ | exact Kd.Q_nil _ _ _ _ _ | exact Kd.S_nil _ _ _ _ _), by repeat (first | (with_reducible first | exact HB.out | apply below_alloc | apply pw_below_drewN | apply below_drew1) | exact HB.out)⟩
                        · rw [if_neg c28] at H
                          exact absurd H (by simp)
                      · rw [if_neg c27] at H
                        have c27b0 : decide (x9_3 < (t162.length : Int)) = false := decide_eq_false c27
                        clear c27
                        by_cases c32 : 1 ≤ (t162.length : Int)
                        · rw [if_pos c32] at H
                          have c32b0 := eq_true c32
                          have c32b1 : decide (1 ≤ (t162.length : Int)) = true := decide_eq_true c32
                          clear c32
                          obtain ⟨y172, hy172⟩ : ∃ y_ : List ByteArray, y_ = (t162.drop (1 : Int).toNat) := ⟨_, rfl⟩
                          replace H : (some (x6_7, y172, 0)) = some (r1, r2, r3) := by first | (rw [hy172]; with_reducible exact H) | (have H2_ := (Option.bind_some _ _).symm.trans H; rw [hy172]; with_reducible exact H2_) | (have H2_ := (Option.bind_some _ _).symm.trans H; with_reducible exact H2_) | with_reducible exact H | (rw [hy172]; exact H) | exact H
                          have Ny172 := Aside0.mk hy172
                          clear hy172
                          simp only [Option.some.injEq, Prod.mk.injEq] at H
                          obtain ⟨rfl, rfl, rfl⟩ := H
                          have q33 : (1 : Int) ≤ ((t162.length : Int) : Int) := of_decide_eq_true (by first | (with_reducible assumption) | assumption)
                          obtain ⟨i033, hi033, _, hsz33, _⟩ := info_parts info9
                          have hcut33 := cut_from (P := Tryd.prog) 23 9 .i64 Tryd.underlying23 hi033 1 hsz33 (some ad165) t162.length co10 1 (by omega) q33
                          have hr33 := Kd.Q_drop (k := (1 : Int).toNat) (Kd.Q_of_R HO_5.out) (by omega)
                          obtain ⟨A33, hA33⟩ : ∃ A1, A1 = (if co10 = (1 : Int).toNat then (some ad165) else ((some ad165) : Option Addr).map (·.add ((1 : Int).toNat * 1))) := ⟨_, rfl⟩
                          obtain ⟨c33, hc33⟩ : ∃ c1, c1 = co10 - (1 : Int).toNat := ⟨_, rfl⟩
                          have hy33 : y172.length = t162.length - (1 : Int).toNat := (by rw [Ny172.out, List.length_drop])
                          rw [← Ny172.out] at hr33
                          rw [← hy33, ← hA33, ← hc33] at hcut33
                          replace hr33 : Kd.Q Kd.string 9 wr w.heap.size (fun _ => True) (.slice A33 y172.length c33) y172 := (by rw [hA33, hc33, hy33]; exact hr33)
                          have HE33 : Aside0 ((Value.slice A33 y172.length c33).ownBlock = (.slice (some ad165) t162.length co10 : Value).ownBlock) := ⟨by rw [hA33]; split <;> (cases ((some ad165) : Option Addr) <;> rfl)⟩
                          clear hy33 hi033 hsz33 HO_5 hA33 hc33
                          have HO174 := Aside0.mk hr33
                          clear hr33
                          replace q33 := eq_true q33
                          go_wp2
                          repeat (go_quiet (fail); try go_wp2)
                          go_ret3
                          exact ⟨_, by first | rfl | (simp [errW_none, errW_some] <;> rfl) | (simp [*, errW_none, errW_some] <;> rfl), by (with_reducible repeat (first | apply Kd.Q_alloc | apply Kd.Q_drewN | apply Kd.Q_drew)); exact HO174.out, by repeat (first | (with_reducible first | exact HB.out | apply below_alloc | apply pw_below_drewN | apply below_drew1) | exact HB.out)⟩
                        · rw [if_neg c32] at H
                          exact absurd H (by simp)
      · rw [if_neg c7] at H
        exact absurd H (by simp)

end Go.Proofs.YtddepmeikglhgaaDoor.Q
