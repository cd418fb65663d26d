/- Paths that may be gone through, without the document's texts. (Taken out of N3m.) -/
import Derived.Test.YthafpbidfgmacaaDoorN1b
import Derived.Test.YthafpbidfgmacaaDoorQrillbedlaw06few
namespace Go.Proofs.YthafpbidfgmacaaDoor.Q
open Go.RowKit Go.Proofs.YthafpbidfgmacaaDoorW.PrintWords Go.Proofs.YthafpbidfgmacaaDoorW.PrintLast Go.Proofs.YthafpbidfgmacaaDoorW.PrintMore
set_option linter.unusedVariables false

theorem app_data (a b : ByteArray) : (a ++ b).data.toList = a.data.toList ++ b.data.toList := by simp
theorem few_loop (l : List ByteArray) (hs : l.length ≤ 9223372036854775807) : ∀ (d k i : Nat), i ≤ l.length → i ≤ 30 → 30 - i = d → 2 * d + 3 < k →
    ∃ b, rillbedlaw06_few.l0 k l (i : Int) = some b ∧ (b = true → l.length ≤ 20 ∧ ∀ j x, i ≤ j → l[j]? = some x → x.size ≤ 200) := by
  intro d
  induction d with
  | zero =>
    intro k i h1 h2 hd hk
    obtain ⟨k, rfl⟩ : ∃ m, k = m + 2 := ⟨k - 2, by omega⟩
    refine ⟨decide ((l.length : Int) ≤ 20), ?_, fun h => ?_⟩
    · simp only [rillbedlaw06_few.l0, rillbedlaw06_few.j1]
      rw [decide_eq_false (show ¬ (i : Int) < 30 by omega)]
      by_cases h : (i : Int) < (l.length : Int)
      · rw [if_pos h]
        rfl
      · rw [if_neg h]
        rfl
    · have := of_decide_eq_true h
      refine ⟨by omega, fun j x hj hx => ?_⟩
      have := (List.getElem?_eq_some_iff.1 hx).1
      omega
  | succ d ih =>
    intro k i h1 h2 hd hk
    obtain ⟨k, rfl⟩ : ∃ m, k = m + 2 := ⟨k - 2, by omega⟩
    by_cases h : i < l.length
    · by_cases hx : (l[i].size : Int) > 200
      · refine ⟨false, ?_, fun h => by cases h⟩
        simp only [rillbedlaw06_few.l0, rillbedlaw06_few.j1]
        rw [if_pos (by omega), decide_eq_true (show (i : Int) < 30 by omega), if_pos rfl, if_pos (by omega), if_pos (by omega), rd_nat l i l[i] (List.getElem?_eq_getElem h), if_pos hx]
      · obtain ⟨b, e, hb⟩ := ih k (i + 1) (by omega) (by omega) (by omega) (by omega)
        refine ⟨b, ?_, fun hb1 => ⟨(hb hb1).1, fun j x hj hjx => ?_⟩⟩
        · simp only [rillbedlaw06_few.l0, rillbedlaw06_few.j1]
          rw [if_pos (by omega), decide_eq_true (show (i : Int) < 30 by omega), if_pos rfl, if_pos (by omega), if_pos (by omega), rd_nat l i l[i] (List.getElem?_eq_getElem h), if_neg hx, wrap_small (by omega) (by omega)]
          rw [show ((i + 1 : Nat) : Int) = (i : Int) + 1 from by omega] at e
          exact e
        · rcases Nat.lt_or_ge i j with h3 | h3
          · exact (hb hb1).2 j x (by omega) hjx
          · obtain rfl : j = i := by omega
            rw [List.getElem?_eq_getElem h] at hjx
            cases hjx
            omega
    · refine ⟨decide ((l.length : Int) ≤ 20), ?_, fun h => ?_⟩
      · simp only [rillbedlaw06_few.l0, rillbedlaw06_few.j1]
        rw [if_neg (by omega), if_neg (by decide)]
      · have := of_decide_eq_true h
        refine ⟨by omega, fun j x hj hx => ?_⟩
        have := (List.getElem?_eq_some_iff.1 hx).1
        omega
theorem few_is (l : List ByteArray) (hs : l.length ≤ 9223372036854775807) (k : Nat) (hk : 100 ≤ k) : ∃ b, rillbedlaw06_few.f k l = some b ∧ (b = true → l.length ≤ 20 ∧ ∀ x ∈ l, x.size ≤ 200) := by
  obtain ⟨b, e, hb⟩ := few_loop l hs 30 k 0 (by omega) (by omega) (by omega) (by omega)
  refine ⟨b, e, fun h => ⟨(hb h).1, fun x hx => ?_⟩⟩
  obtain ⟨j, hj, rfl⟩ := List.getElem_of_mem hx
  exact (hb h).2 j _ (by omega) (List.getElem?_eq_getElem hj)
theorem join_len (l : List ByteArray) (hx : ∀ x ∈ l, x.size ≤ 200) : (Lib.join (l.map (·.data.toList)) [0]).length ≤ 201 * l.length := by
  induction l with
  | nil => exact Nat.le_refl _
  | cons x t ih =>
    have h1 := hx x (by simp)
    have h2 := ih (fun y hy => hx y (by simp [hy]))
    have h3 := size_len x
    cases t with
    | nil =>
      simp only [List.map_cons, List.map_nil, Lib.join, List.length_cons, List.length_nil]
      simp
      omega
    | cons y t =>
      rw [List.map_cons, join_more _ _ _ (by simp), List.length_append, List.length_append, List.length_cons, h3]
      simp only [List.length_cons, List.length_nil] at h2 ⊢
      omega
theorem join_size (l : List ByteArray) (hl : l.length ≤ 20) (hx : ∀ x ∈ l, x.size ≤ 200) : (joinB l ⟨#[0]⟩).size ≤ 4020 := by
  rw [← size_len, joinB_data]
  have := join_len l hx
  show (Lib.join _ [0]).length ≤ _
  omega
end Go.Proofs.YthafpbidfgmacaaDoor.Q
