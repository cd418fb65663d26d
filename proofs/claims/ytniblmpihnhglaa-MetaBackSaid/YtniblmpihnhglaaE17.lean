/- What Apply makes of a meta, of both; what a step makes of a mark. -/
import Derived.Test.YtniblmpihnhglaaE16
namespace Go.Proofs.Ytniblmpihnhglaa
open Go.RowKit
set_option linter.unusedVariables false

theorem quiet_quiet (x : Int) : quietI (quietI x) = quietI x := by
  unfold quietI
  cases h : nanI x
  · simp [h]
  · simp
theorem arith_form (op : BinOp) (ho : op = .add ∨ op = .mul) (x y : Nat) : 0 ≤ arithN op x y ∧ arithN op x y < 18446744073709551616 ∧ quietI (arithN op x y) = arithN op x y := by
  obtain ⟨r, n, h1, h2, _⟩ := run_arith op ho x y default
  rw [← h2]
  exact ⟨q_lo _ (by omega), q_hi _ (by omega), quiet_quiet _⟩
theorem step_form (x op y : Int) (a0 : 0 ≤ x) (a1 : x < 18446744073709551616) (b0 : 0 ≤ y) (b1 : y < 18446744073709551616) (h1 : 1 ≤ op) (h2 : op ≤ 5) :
    0 ≤ stepI x op y ∧ stepI x op y < 18446744073709551616 ∧ quietI (stepI x op y) = stepI x op y := by
  have qf : ∀ z : Int, 0 ≤ z → z < 18446744073709551616 → 0 ≤ quietI z ∧ quietI z < 18446744073709551616 ∧ quietI (quietI z) = quietI z := fun z h k => ⟨q_lo z h, q_hi z k, quiet_quiet z⟩
  unfold stepI
  split
  · exact qf y b0 b1
  split
  · exact arith_form .add (.inl rfl) _ _
  split
  · unfold greatI; split
    · exact qf y b0 b1
    · exact qf x a0 a1
  split
  · unfold leastI; split
    · exact qf y b0 b1
    · exact qf x a0 a1
  split
  · exact arith_form .mul (.inr rfl) _ _
  · omega

def meV (x : Me) : Value := .agg #[.int .u8 x.k, .int .u32 x.s, .int .u64 x.m, .int .u64 x.t]
def chW (c : Ch) : Value := .agg #[.int .u8 c.k, .int .u64 c.n, .int .u8 c.op, .int .u64 c.y]
def mayX (x : Me) : Bool := mayM x.k x.s x.m
def mayY (c : Ch) : Bool := mayC c.k c.n c.op c.y
/-- What a change that may be makes of a meta that may be. -/
def apW (x : Me) (c : Ch) : Me :=
  if c.k = 1 then (if x.k = 1 ∧ x.s < c.n then ⟨x.k, c.n, x.m, x.t⟩ else x)
  else if c.k = 2 then (if x.k = 1 then ⟨x.k, c.n, x.m, x.t⟩ else x)
  else if c.k = 3 then ⟨x.k, x.s, (stepI x.m c.op c.y).toNat, x.t⟩
  else ⟨x.k, x.s, x.m, c.n⟩
def apM (x : Me) (c : Ch) : Me := if mayX x = true ∧ mayY c = true then apW x c else x
theorem mayY_form {c : Ch} (h : mayY c = true) : ((c.k = 1 ∨ c.k = 2) ∧ c.n ≤ 2048 ∧ c.op = 0 ∧ c.y = 0) ∨ (c.k = 4 ∧ c.op = 0 ∧ c.y = 0) ∨ (c.k = 3 ∧ c.n = 0 ∧ 1 ≤ c.op ∧ c.op ≤ 5) := by
  unfold mayY mayC at h
  rw [decide_eq_true_eq] at h
  omega
theorem mayX_form {x : Me} (h : mayX x = true) : (x.k = 1 ∨ (x.k = 2 ∧ x.s = 0)) ∧ x.s ≤ 2048 ∧ quietI x.m = x.m := by
  unfold mayX mayM at h
  rwa [decide_eq_true_eq] at h
theorem mayX_of {x : Me} (h : (x.k = 1 ∨ (x.k = 2 ∧ x.s = 0)) ∧ x.s ≤ 2048 ∧ quietI x.m = x.m) : mayX x = true := by
  unfold mayX mayM
  rwa [decide_eq_true_eq]
theorem step_nat {x op y : Nat} (hx : x < 18446744073709551616) (hy : y < 18446744073709551616) (h1 : 1 ≤ op) (h2 : op ≤ 5) : (((stepI x op y).toNat : Nat) : Int) = stepI x op y := by
  have := (step_form x op y (by omega) (by omega) (by omega) (by omega) (by omega) (by omega)).1
  omega
theorem apM_ok {x : Me} {c : Ch} (hx : x.ok) (hc : c.ok) : (apM x c).ok := by
  unfold apM
  split
  · rename_i h
    have hf := mayY_form h.2
    have hz := step_form x.m c.op c.y (by omega) (by have := hx.2.2.1; omega) (by omega) (by have := hc.2.2.2; omega)
    unfold apW
    unfold Me.ok at hx ⊢
    unfold Ch.ok at hc
    split
    · split
      · exact ⟨hx.1, by show c.n < _; omega, hx.2.2.1, hx.2.2.2⟩
      · exact hx
    split
    · split
      · exact ⟨hx.1, by show c.n < _; omega, hx.2.2.1, hx.2.2.2⟩
      · exact hx
    split
    · have := hz (by omega) (by omega)
      exact ⟨hx.1, hx.2.1, by show (stepI x.m c.op c.y).toNat < _; omega, hx.2.2.2⟩
    · exact ⟨hx.1, hx.2.1, hx.2.2.1, hc.2.1⟩
  · exact hx

def ApP (x : Me) (c : Ch) (w : World) (e : Ending) (w' : World) : Prop := e = .returned (meV (apM x c)) ∧ Bl w w'
theorem apply_on (x : Me) (c : Ch) (w : World) (hx : x.ok) (hc : c.ok) : Calls Try.prog 45 #[meV x, chW c] w (ApP x c w) := by
  unfold ApP
  have m1 : x.m < 18446744073709551616 := hx.2.2.1
  have m2 : c.y < 18446744073709551616 := hc.2.2.2
  unfold apM
  cases hm : mayX x with
  | false =>
    rw [if_neg (by simp)]
    exact apply_bad0 x.k x.s x.m x.t c.k c.n c.op c.y w m1 m2 hm
  | true =>
    cases hcm : mayY c with
    | false =>
      rw [if_neg (by simp)]
      exact apply_off x.k x.s x.m x.t c.k c.n c.op c.y w m1 m2 hm hcm
    | true =>
      rw [if_pos ⟨rfl, rfl⟩]
      unfold apW
      have hf := mayY_form hcm
      by_cases h1 : c.k = 1
      · rw [if_pos h1]
        by_cases hk : x.k = 1
        · by_cases hs : x.s < c.n
          · rw [if_pos ⟨hk, hs⟩]
            exact apply_growY x.k x.s x.m x.t c.k c.n c.op c.y w m1 m2 hm hcm hk h1 (by omega) hs
          · rw [if_neg (fun h => hs h.2)]
            exact apply_growN x.k x.s x.m x.t c.k c.n c.op c.y w m1 m2 hm hcm hk h1 (by omega) hs
        · rw [if_neg (fun h => hk h.1)]
          exact apply_growD x.k x.s x.m x.t c.k c.n c.op c.y w m1 m2 hm hcm hk h1 (by omega)
      rw [if_neg h1]
      by_cases h2 : c.k = 2
      · rw [if_pos h2]
        by_cases hk : x.k = 1
        · rw [if_pos hk]
          exact apply_cutF x.k x.s x.m x.t c.k c.n c.op c.y w m1 m2 hm hcm hk h2 (by omega)
        · rw [if_neg hk]
          exact apply_cutD x.k x.s x.m x.t c.k c.n c.op c.y w m1 m2 hm hcm hk h2 (by omega)
      rw [if_neg h2]
      by_cases h3 : c.k = 3
      · rw [if_pos h3]
        unfold meV
        simp only [step_nat m1 m2 (by omega : 1 ≤ c.op) (by omega : c.op ≤ 5)]
        by_cases hk : x.k = 1
        · exact apply_markF x.k x.s x.m x.t c.k c.n c.op c.y w m1 m2 hm hcm hk h3
        · exact apply_markD x.k x.s x.m x.t c.k c.n c.op c.y w m1 m2 hm hcm hk h3
      rw [if_neg h3]
      by_cases hk : x.k = 1
      · exact apply_stampF x.k x.s x.m x.t c.k c.n c.op c.y w m1 m2 hm hcm hk (by omega)
      · exact apply_stampD x.k x.s x.m x.t c.k c.n c.op c.y w m1 m2 hm hcm hk (by omega)
theorem rapply_on (x : Me) (c : Ch) (w : World) (hx : x.ok) (hc : c.ok) : Calls Try.prog 46 #[meV x, chW c] w (ApP x c w) := by
  unfold ApP
  have m1 : x.m < 18446744073709551616 := hx.2.2.1
  have m2 : c.y < 18446744073709551616 := hc.2.2.2
  unfold apM
  cases hm : mayX x with
  | false =>
    rw [if_neg (by simp)]
    exact rapply_bad0 x.k x.s x.m x.t c.k c.n c.op c.y w m1 m2 hm
  | true =>
    have hxf := mayX_form hm
    cases hcm : mayY c with
    | false =>
      rw [if_neg (by simp)]
      exact rapply_off x.k x.s x.m x.t c.k c.n c.op c.y w m1 m2 hm hcm
    | true =>
      rw [if_pos ⟨rfl, rfl⟩]
      unfold apW
      have hf := mayY_form hcm
      by_cases h1 : c.k = 1
      · rw [if_pos h1]
        by_cases hk : x.k = 1
        · by_cases hs : x.s < c.n
          · rw [if_pos ⟨hk, hs⟩]
            exact rapply_growY x.k x.s x.m x.t c.k c.n c.op c.y w m1 m2 hm hcm hk h1 (by omega) hs
          · rw [if_neg (fun h => hs h.2)]
            exact rapply_growN x.k x.s x.m x.t c.k c.n c.op c.y w m1 m2 hm hcm hk h1 (by omega) hs
        · rw [if_neg (fun h => hk h.1)]
          exact rapply_growD x.k x.s x.m x.t c.k c.n c.op c.y w m1 m2 hm hcm hk h1 (by omega)
      rw [if_neg h1]
      by_cases h2 : c.k = 2
      · rw [if_pos h2]
        by_cases hk : x.k = 1
        · rw [if_pos hk]
          exact rapply_cutF x.k x.s x.m x.t c.k c.n c.op c.y w m1 m2 hm hcm hk h2 (by omega)
        · rw [if_neg hk]
          exact rapply_cutD x.k x.s x.m x.t c.k c.n c.op c.y w m1 m2 hm hcm hk h2 (by omega)
      rw [if_neg h2]
      by_cases h3 : c.k = 3
      · rw [if_pos h3]
        unfold meV
        simp only [step_nat m1 m2 (by omega : 1 ≤ c.op) (by omega : c.op ≤ 5)]
        exact rapply_mark x.k x.s x.m x.t c.k c.n c.op c.y w m1 m2 hm hcm h3
      rw [if_neg h3]
      exact rapply_stamp x.k x.s x.m x.t c.k c.n c.op c.y w m1 m2 hm hcm (by omega)
end Go.Proofs.Ytniblmpihnhglaa
