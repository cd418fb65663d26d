/- Plain law of descriptors: what a table holds, and what each call makes of it. -/
import Derived.Test.YthafpbidfgmacaaDoorN1h
namespace Go.Proofs.YthafpbidfgmacaaDoor.Hd
open Go.RowKit Go.Proofs.YthafpbidfgmacaaDoor.Q
set_option linter.unusedVariables false

abbrev Ent := ByteArray × List ByteArray
abbrev St := List (Option Ent)
/-- May a path be opened? -/
def okP (l : List ByteArray) : Bool := !l.isEmpty && rightB l
def atS (st : St) (d : Int) : Option Ent := if 0 ≤ d ∧ d < 8 then st.getD d.toNat none else none
def freeS (st : St) : Nat := (st.findIdx? (·.isNone)).getD 8
def openS (st : St) (s : ByteArray) (l : List ByteArray) : St × Int × Int :=
  if okP l = true then (if freeS st < 8 then (st.set (freeS st) (some (s, l)), (freeS st : Int), 0) else (st, 0, 7)) else (st, 0, 4)
def ofS (st : St) (d : Int) : ByteArray × List ByteArray × Int := match atS st d with | some (s, l) => (s, l, 0) | none => (⟨#[]⟩, [], 12)
def closeS (st : St) (d : Int) : St × Int := match atS st d with | some _ => (st.set d.toNat none, 0) | none => (st, 12)
def movedE (a b : List ByteArray) : Option Ent → Option Ent
  | none => none
  | some (s, l) => if s.toList = [] ∧ a.length ≤ l.length ∧ l.take a.length = a then (if okP (b ++ l.drop a.length) = true then some (s, b ++ l.drop a.length) else none) else some (s, l)
def movedS (st : St) (a b : List ByteArray) : St := if okP a = true ∧ okP b = true then st.map (movedE a b) else st
def countS (st : St) : Nat := st.countP (·.isSome)
def newS : St := List.replicate 8 none

theorem okP_len {l : List ByteArray} (h : okP l = true) : 1 ≤ l.length ∧ l.length ≤ 6 ∧ l.all nameB = true := by
  unfold okP rightB at h
  simp only [Bool.and_eq_true, Bool.not_eq_true', List.isEmpty_eq_false_iff, decide_eq_true_eq] at h
  obtain ⟨h0, h1, h2⟩ := h
  refine ⟨?_, h2, h1⟩
  cases l with
  | nil => exact absurd rfl h0
  | cons _ _ => simp
theorem freeS_le (st : St) (h : st.length = 8) : freeS st ≤ 8 := by
  unfold freeS
  cases e : st.findIdx? (·.isNone) with
  | none => exact Nat.le_refl _
  | some i =>
    have := (List.findIdx?_eq_some_iff_findIdx_eq.1 e).1
    simp only [Option.getD_some]
    omega
theorem freeS_at (st : St) (h : freeS st < 8) : st[freeS st]? = some none := by
  unfold freeS at h ⊢
  cases e : st.findIdx? (·.isNone) with
  | none => rw [e] at h; simp at h
  | some i =>
    obtain ⟨h1, h2, _⟩ := List.findIdx?_eq_some_iff_getElem.1 e
    simp only [Option.getD_some]
    rw [List.getElem?_eq_getElem h1]
    simpa using h2
theorem freeS_before (st : St) (hl : st.length = 8) (k : Nat) (h : k < freeS st) : ∃ x, st[k]? = some (some x) := by
  unfold freeS at h
  have hlt : k < st.length := by have := freeS_le st hl; unfold freeS at this; omega
  have hs : (st[k]).isNone = false := by
    cases e : st.findIdx? (·.isNone) with
    | none =>
      have := List.findIdx?_eq_none_iff.1 e
      exact this _ (List.getElem_mem hlt)
    | some i =>
      rw [e] at h
      obtain ⟨_, _, h3⟩ := List.findIdx?_eq_some_iff_getElem.1 e
      exact Bool.eq_false_iff.2 (h3 k h)
  rw [List.getElem?_eq_getElem hlt]
  cases hx : st[k] with
  | none => rw [hx] at hs; cases hs
  | some x => exact ⟨x, rfl⟩
/-- k entries are taken and the next is free: it is the first free one. -/
theorem freeS_is (st : St) (k : Nat) (h1 : ∀ j, j < k → ∃ x, st[j]? = some (some x)) (h2 : st[k]? = some none) (hl : st.length = 8) : freeS st = k := by
  have hk : k < 8 := by have := (List.getElem?_eq_some_iff.1 h2).1; omega
  rcases Nat.lt_trichotomy (freeS st) k with h | h | h
  · obtain ⟨x, hx⟩ := h1 _ h
    have := freeS_at st (by omega)
    rw [hx] at this
    cases this
  · exact h
  · obtain ⟨x, hx⟩ := freeS_before st hl k h
    rw [h2] at hx
    cases hx
theorem freeS_full (st : St) (h1 : ∀ j, j < 8 → ∃ x, st[j]? = some (some x)) : ¬ freeS st < 8 := by
  intro h
  obtain ⟨x, hx⟩ := h1 _ h
  have := freeS_at st h
  rw [hx] at this
  cases this
end Go.Proofs.YthafpbidfgmacaaDoor.Hd
