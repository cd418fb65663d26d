/- Paths that may be gone through; a path's text, by the document. -/
import Derived.Test.YthafpbidfgmacaaDoorN1k
import Derived.Test.YthafpbidfgmacaaDoorQB
import Derived.Test.YthafpbidfgmacaaDoorQrillbedlaw06few
namespace Go.Proofs.YthafpbidfgmacaaDoor.Q
open Go.RowKit Go.Proofs.YthafpbidfgmacaaDoorW.PrintWords Go.Proofs.YthafpbidfgmacaaDoorW.PrintLast Go.Proofs.YthafpbidfgmacaaDoorW.PrintMore
set_option linter.unusedVariables false

theorem app_data (a b : ByteArray) : (a ++ b).data.toList = a.data.toList ++ b.data.toList := by simp
theorem few_loop (l : List ByteArray) (hs : l.length ≤ 9223372036854775807) : ∀ (d k i : Nat), i ≤ l.length → i ≤ 30 → 30 - i = d → 2 * d + 3 < k →
    ∃ b, rillbedlaw06_few.l0 k l (i : Int) = some b ∧ (b = true → l.length ≤ 20 ∧ ∀ j x, i ≤ j → l[j]? = some x → x.size ≤ 200) := by
  intro d
  induction d with
  | zero =>
    intro k i h1 h2 hd hk
    obtain ⟨k, rfl⟩ : ∃ m, k = m + 2 := ⟨k - 2, by omega⟩
    refine ⟨decide ((l.length : Int) ≤ 20), ?_, fun h => ?_⟩
    · simp only [rillbedlaw06_few.l0, rillbedlaw06_few.j1]
      rw [decide_eq_false (show ¬ (i : Int) < 30 by omega)]
      by_cases h : (i : Int) < (l.length : Int)
      · rw [if_pos h]
        rfl
      · rw [if_neg h]
        rfl
    · have := of_decide_eq_true h
      refine ⟨by omega, fun j x hj hx => ?_⟩
      have := (List.getElem?_eq_some_iff.1 hx).1
      omega
  | succ d ih =>
    intro k i h1 h2 hd hk
    obtain ⟨k, rfl⟩ : ∃ m, k = m + 2 := ⟨k - 2, by omega⟩
    by_cases h : i < l.length
    · by_cases hx : (l[i].size : Int) > 200
      · refine ⟨false, ?_, fun h => by cases h⟩
        simp only [rillbedlaw06_few.l0, rillbedlaw06_few.j1]
        rw [if_pos (by omega), decide_eq_true (show (i : Int) < 30 by omega), if_pos rfl, if_pos (by omega), if_pos (by omega), rd_nat l i l[i] (List.getElem?_eq_getElem h), if_pos hx]
      · obtain ⟨b, e, hb⟩ := ih k (i + 1) (by omega) (by omega) (by omega) (by omega)
        refine ⟨b, ?_, fun hb1 => ⟨(hb hb1).1, fun j x hj hjx => ?_⟩⟩
        · simp only [rillbedlaw06_few.l0, rillbedlaw06_few.j1]
          rw [if_pos (by omega), decide_eq_true (show (i : Int) < 30 by omega), if_pos rfl, if_pos (by omega), if_pos (by omega), rd_nat l i l[i] (List.getElem?_eq_getElem h), if_neg hx, wrap_small (by omega) (by omega)]
          rw [show ((i + 1 : Nat) : Int) = (i : Int) + 1 from by omega] at e
          exact e
        · rcases Nat.lt_or_ge i j with h3 | h3
          · exact (hb hb1).2 j x (by omega) hjx
          · obtain rfl : j = i := by omega
            rw [List.getElem?_eq_getElem h] at hjx
            cases hjx
            omega
    · refine ⟨decide ((l.length : Int) ≤ 20), ?_, fun h => ?_⟩
      · simp only [rillbedlaw06_few.l0, rillbedlaw06_few.j1]
        rw [if_neg (by omega), if_neg (by decide)]
      · have := of_decide_eq_true h
        refine ⟨by omega, fun j x hj hx => ?_⟩
        have := (List.getElem?_eq_some_iff.1 hx).1
        omega
theorem few_is (l : List ByteArray) (hs : l.length ≤ 9223372036854775807) (k : Nat) (hk : 100 ≤ k) : ∃ b, rillbedlaw06_few.f k l = some b ∧ (b = true → l.length ≤ 20 ∧ ∀ x ∈ l, x.size ≤ 200) := by
  obtain ⟨b, e, hb⟩ := few_loop l hs 30 k 0 (by omega) (by omega) (by omega) (by omega)
  refine ⟨b, e, fun h => ⟨(hb h).1, fun x hx => ?_⟩⟩
  obtain ⟨j, hj, rfl⟩ := List.getElem_of_mem hx
  exact (hb h).2 j _ (by omega) (List.getElem?_eq_getElem hj)

theorem join_tail_loop (l : List ByteArray) (hl : l.length ≤ 20) (hx : ∀ x ∈ l, x.size ≤ 200) : ∀ (d k i : Nat) (s : ByteArray), 1 ≤ i → i ≤ l.length → l.length - i = d → d < k → s.size ≤ 201 * i →
    ∃ r : ByteArray, rillbedref06_Joint.l0 k l s (i : Int) = some r ∧ r.data.toList = s.data.toList ++ Lib.joinTail [0] ((l.drop i).map (·.data.toList)) ∧ r.size ≤ 201 * l.length := by
  intro d
  induction d with
  | zero =>
    intro k i s h0 h1 hd hk hs
    obtain ⟨k, rfl⟩ : ∃ m, k = m + 1 := ⟨k - 1, by omega⟩
    refine ⟨s, ?_, ?_, by omega⟩
    · simp only [rillbedref06_Joint.l0]
      rw [if_neg (by omega)]
    · rw [List.drop_of_length_le (by omega)]
      simp [Lib.joinTail]
  | succ d ih =>
    intro k i s h0 h1 hd hk hs
    obtain ⟨k, rfl⟩ : ∃ m, k = m + 1 := ⟨k - 1, by omega⟩
    have h : i < l.length := by omega
    have hz := hx l[i] (List.getElem_mem h)
    have h9 : ((s ++ (⟨#[0]⟩ : ByteArray)) ++ l[i]).size ≤ 201 * (i + 1) := by rw [ByteArray.size_append, ByteArray.size_append, szl1]; omega
    obtain ⟨r, e1, e2, e3⟩ := ih k (i + 1) ((s ++ (⟨#[0]⟩ : ByteArray)) ++ l[i]) (by omega) (by omega) (by omega) (by omega) h9
    refine ⟨r, ?_, ?_, e3⟩
    · simp only [rillbedref06_Joint.l0]
      rw [if_pos (by omega), if_pos (by omega), if_pos (by omega), if_pos (by omega), rd_nat l i l[i] (List.getElem?_eq_getElem h), if_pos (by rw [ByteArray.size_append, szl1]; omega), wrap_small (by omega) (by omega)]
      rw [show ((i + 1 : Nat) : Int) = (i : Int) + 1 from by omega] at e1
      exact e1
    · rw [e2, app_data, app_data, List.drop_eq_getElem_cons h, List.map_cons]
      simp only [Lib.joinTail, List.map_cons, List.flatten_cons, List.append_assoc]
theorem joint_ref (l : List ByteArray) (hl : l.length ≤ 20) (hx : ∀ x ∈ l, x.size ≤ 200) (k : Nat) (hk : 100 ≤ k) : rillbedref06_Joint.f k l = some (joinB l ⟨#[0]⟩) ∧ (joinB l ⟨#[0]⟩).size ≤ 4020 := by
  obtain ⟨k, rfl⟩ : ∃ m, k = m + 1 := ⟨k - 1, by omega⟩
  cases l with
  | nil => exact ⟨rfl, by decide⟩
  | cons x t =>
    have hz := hx x (by simp)
    have h9 : ((⟨#[]⟩ : ByteArray) ++ x).size ≤ 201 * 1 := by rw [ByteArray.size_append]; show 0 + x.size ≤ _; omega
    obtain ⟨r, e1, e2, e3⟩ := join_tail_loop (x :: t) hl hx t.length k 1 ((⟨#[]⟩ : ByteArray) ++ x) (by omega) (by simp) (by simp) (by simp at hl; omega) h9
    have hr : r = joinB (x :: t) ⟨#[0]⟩ := by
      apply WideShapes.bytes_inj
      rw [e2, joinB_data, List.map_cons, Lib.join_cons, app_data]
      simp
    rw [← hr]
    refine ⟨?_, by omega⟩
    unfold rillbedref06_Joint.f
    simp only [rillbedref06_Joint.l0]
    rw [if_pos (by simp), if_neg (by decide), if_pos (by decide), show rdOf ByteArray.empty (x :: t) 0 = x from rfl, if_pos (by rw [show ((⟨#[]⟩ : ByteArray)).size = 0 from rfl]; omega), show wrap64 (0 + 1) = ((1 : Nat) : Int) from (wrap_small (i := 0 + 1) (by decide) (by decide)).trans rfl]
    exact e1
end Go.Proofs.YthafpbidfgmacaaDoor.Q
