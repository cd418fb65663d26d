/- MetaOrder's plain statement. -/
import Derived.Test.YtniblmpihnhglaaEB
import Derived.Test.YtniblmpihnhglaaRMOrderF
namespace Go.Proofs.Ytniblmpihnhglaa.Q
open Go.RowKit
set_option linter.unusedVariables false

theorem inMe_of {x : Me} (h : x.ok) : inMe x.k x.s x.m x.t = true := by
  unfold inMe
  rw [decide_eq_true_eq]
  have := h.1; have := h.2.1; have := h.2.2.1; have := h.2.2.2
  omega
theorem inCh_of {c : Ch} (h : c.ok) : inCh c.k c.n c.op c.y = true := by
  unfold inCh
  rw [decide_eq_true_eq]
  have := h.1; have := h.2.1; have := h.2.2.1; have := h.2.2.2
  omega
theorem apply_f {x : Me} {c : Ch} (hx : x.ok) (hc : c.ok) : meta_Apply.f x.k x.s x.m x.t c.k c.n c.op c.y = some (((apM x c).k : Int), ((apM x c).s : Int), ((apM x c).m : Int), ((apM x c).t : Int)) := by
  unfold meta_Apply.f applyF
  rw [if_pos ⟨inMe_of hx, inCh_of hc⟩]
  rfl
theorem check_f {x : Me} (hx : x.ok) : meta_Check.f x.k x.s x.m x.t = some (if mayX x = true then 0 else 4) := by
  unfold meta_Check.f checkF
  rw [if_pos (inMe_of hx)]
  rfl
theorem part_f {c : Ch} (hc : c.ok) : rillbedlaw07_part.f c.k c.n c.op c.y = some (partI c.k) := by
  unfold rillbedlaw07_part.f partF
  rw [if_pos (inCh_of hc)]
  rfl
theorem part_cases (k : Nat) : partI k = 1 ∨ partI k = 2 ∨ partI k = 3 := by
  unfold partI
  split
  · exact .inl rfl
  · split
    · exact .inr (.inl rfl)
    · exact .inr (.inr rfl)
theorem metaOrder_plain (m : Me) (a b : Ch) (hm : m.ok) (ha : a.ok) (hb : b.ok) : rillbedlaw07_MetaOrder.f 3 m.k m.s m.m m.t a.k a.n a.op a.y b.k b.n b.op b.y = some true := by
  have hx := apM_ok hm ha
  have hmb := apM_ok hm hb
  have k1 := apM_k m a
  have j2 : rillbedlaw07_MetaOrder.j2 1 false m.k m.s m.m m.t a.k a.n a.op a.y (apM m a).k (apM m a).s (apM m a).m (apM m a).t = some true := by
    simp only [rillbedlaw07_MetaOrder.j2, part_f ha, Option.bind_some, rillbedlaw07_awake.f]
    rcases part_cases a.k with e | e | e
    · rw [e, apM_m m a (by rw [e]; decide), apM_t m a (by rw [e]; decide)]
      simp
    · rw [e, apM_s m a (by rw [e]; decide), apM_t m a (by rw [e]; decide)]
      simp
    · rw [e, apM_s m a (by rw [e]; decide), apM_m m a (by rw [e]; decide)]
      simp
  have j1 : rillbedlaw07_MetaOrder.j1 2 false m.k m.s m.m m.t a.k a.n a.op a.y (apM m a).k (apM m a).s (apM m a).m (apM m a).t = some true := by
    simp only [rillbedlaw07_MetaOrder.j1, part_f ha, Option.bind_some]
    by_cases e : partI a.k = 2
    · rw [if_neg (by decide), if_pos e, j2]
    · rw [if_neg (by decide), if_neg e, apply_f hx ha, Option.bind_some, apM_twice hm ha e]
      simp only [beq_self_eq_true, Bool.not_true, Bool.or_self]
      exact j2
  unfold rillbedlaw07_MetaOrder.f
  rw [apply_f hm ha, Option.bind_some]
  dsimp only
  rw [check_f hx, Option.bind_some, check_f hm, Option.bind_some, apM_may hm ha, if_pos rfl, k1, bne_self_eq_false]
  simp only [rillbedlaw07_MetaOrder.j0]
  rw [if_neg (by decide)]
  have hAB := apply_f hx hb
  rw [k1] at hAB
  have j1' := j1
  rw [k1] at j1'
  rw [hAB, Option.bind_some, apply_f hm hb, Option.bind_some]
  dsimp only
  rw [apply_f hmb ha, Option.bind_some, part_f ha, Option.bind_some, part_f hb, Option.bind_some]
  dsimp only
  have hs : ∀ (h : partI a.k ≠ partI b.k ∨ (a.k = 1 ∧ b.k = 1)), (!(((apM (apM m a) b).k : Int) == ((apM (apM m b) a).k : Int)) || (!(((apM (apM m a) b).s : Int) == ((apM (apM m b) a).s : Int)) || (!(((apM (apM m a) b).m : Int) == ((apM (apM m b) a).m : Int)) || (!(((apM (apM m a) b).t : Int) == ((apM (apM m b) a).t : Int)))))) = false := by
    intro h
    rw [apM_order hm ha hb h]
    simp
  by_cases p : partI a.k = partI b.k
  · rw [if_pos p]
    by_cases q : (a.k : Int) = 1
    · rw [if_pos q]
      by_cases q' : (b.k : Int) = 1
      · rw [if_pos q', hs (.inr ⟨by omega, by omega⟩)]
        exact j1'
      · rw [if_neg q']
        exact j1'
    · rw [if_neg q]
      exact j1'
  · rw [if_neg p, hs (.inl p)]
    exact j1'
end Go.Proofs.Ytniblmpihnhglaa.Q
