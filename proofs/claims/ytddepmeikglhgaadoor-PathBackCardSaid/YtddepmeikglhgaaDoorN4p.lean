/- The text of names, by the program and by the document; names that may be gone through. -/
import Derived.Test.YtddepmeikglhgaaDoorN2p
import Derived.Test.YtddepmeikglhgaaDoorN0p
import Derived.Test.YtddepmeikglhgaaDoorRG
import Derived.Test.YtddepmeikglhgaaDoorRH
namespace Go.Proofs.YtddepmeikglhgaaDoor.Q
open Go.RowKit Go.Proofs.YtddepmeikglhgaaDoorW.PrintWords Go.Proofs.YtddepmeikglhgaaDoorW.PrintLast Go.Proofs.YtddepmeikglhgaaDoorW.PrintMore
set_option linter.unusedVariables false

theorem few_loop (l : List ByteArray) (hs : l.length ≤ 9223372036854775807) : ∀ (d k i : Nat), i ≤ l.length → i ≤ 40 → 40 - i = d → 2 * d + 3 < k →
    ∃ b, rillbedlaw05_few.l0 k l (i : Int) = some b ∧ (b = true → l.length ≤ 30 ∧ ∀ j x, i ≤ j → l[j]? = some x → x.size ≤ 200) := by
  intro d
  induction d with
  | zero =>
    intro k i h1 h2 hd hk
    obtain ⟨k, rfl⟩ : ∃ m, k = m + 2 := ⟨k - 2, by omega⟩
    refine ⟨decide ((l.length : Int) ≤ 30), ?_, fun h => ?_⟩
    · simp only [rillbedlaw05_few.l0, rillbedlaw05_few.j1]
      rw [decide_eq_false (show ¬ (i : Int) < 40 by omega)]
      by_cases h : (i : Int) < (l.length : Int)
      · rw [if_pos h]
        rfl
      · rw [if_neg h]
        rfl
    · have := of_decide_eq_true h
      refine ⟨by omega, fun j x hj hx => ?_⟩
      have := (List.getElem?_eq_some_iff.1 hx).1
      omega
  | succ d ih =>
    intro k i h1 h2 hd hk
    obtain ⟨k, rfl⟩ : ∃ m, k = m + 2 := ⟨k - 2, by omega⟩
    by_cases h : i < l.length
    · by_cases hx : (l[i].size : Int) > 200
      · refine ⟨false, ?_, fun h => by cases h⟩
        simp only [rillbedlaw05_few.l0, rillbedlaw05_few.j1]
        rw [if_pos (by omega), decide_eq_true (show (i : Int) < 40 by omega), if_pos rfl, if_pos (by omega), if_pos (by omega), rd_nat l i l[i] (List.getElem?_eq_getElem h), if_pos hx]
      · obtain ⟨b, e, hb⟩ := ih k (i + 1) (by omega) (by omega) (by omega) (by omega)
        refine ⟨b, ?_, fun hb1 => ⟨(hb hb1).1, fun j x hj hjx => ?_⟩⟩
        · simp only [rillbedlaw05_few.l0, rillbedlaw05_few.j1]
          rw [if_pos (by omega), decide_eq_true (show (i : Int) < 40 by omega), if_pos rfl, if_pos (by omega), if_pos (by omega), rd_nat l i l[i] (List.getElem?_eq_getElem h), if_neg hx, wrap_small (by omega) (by omega)]
          rw [show ((i + 1 : Nat) : Int) = (i : Int) + 1 from by omega] at e
          exact e
        · rcases Nat.lt_or_ge i j with h3 | h3
          · exact (hb hb1).2 j x (by omega) hjx
          · obtain rfl : j = i := by omega
            rw [List.getElem?_eq_getElem h] at hjx
            cases hjx
            omega
    · refine ⟨decide ((l.length : Int) ≤ 30), ?_, fun h => ?_⟩
      · simp only [rillbedlaw05_few.l0, rillbedlaw05_few.j1]
        rw [if_neg (by omega), if_neg (by decide)]
      · have := of_decide_eq_true h
        refine ⟨by omega, fun j x hj hx => ?_⟩
        have := (List.getElem?_eq_some_iff.1 hx).1
        omega
theorem few_is (l : List ByteArray) (hs : l.length ≤ 9223372036854775807) (k : Nat) (hk : 100 ≤ k) : ∃ b, rillbedlaw05_few.f k l = some b ∧ (b = true → l.length ≤ 30 ∧ ∀ x ∈ l, x.size ≤ 200) := by
  obtain ⟨b, e, hb⟩ := few_loop l hs 40 k 0 (by omega) (by omega) (by omega) (by omega)
  refine ⟨b, e, fun h => ⟨(hb h).1, fun x hx => ?_⟩⟩
  obtain ⟨j, hj, rfl⟩ := List.getElem_of_mem hx
  exact (hb h).2 j _ (by omega) (List.getElem?_eq_getElem hj)
theorem same_loop (a b : List ByteArray) (hab : a.length = b.length) (hs : a.length ≤ 1000000) : ∀ (d k i : Nat), i ≤ a.length → a.length - i = d → d < k → rillbedlaw05_same.l0 k a b (i : Int) = some (decide (a.drop i = b.drop i)) := by
  intro d
  induction d with
  | zero =>
    intro k i h1 hd hk
    obtain ⟨k, rfl⟩ : ∃ m, k = m + 1 := ⟨k - 1, by omega⟩
    simp only [rillbedlaw05_same.l0]
    rw [if_neg (by omega), List.drop_of_length_le (by omega), List.drop_of_length_le (by omega)]
    rfl
  | succ d ih =>
    intro k i h1 hd hk
    obtain ⟨k, rfl⟩ : ∃ m, k = m + 1 := ⟨k - 1, by omega⟩
    have hl : i < a.length := by omega
    have hl2 : i < b.length := by omega
    have hn := ih k (i + 1) (by omega) (by omega) (by omega)
    rw [show ((i + 1 : Nat) : Int) = (i : Int) + 1 from by omega] at hn
    simp only [rillbedlaw05_same.l0]
    rw [if_pos (by omega), if_pos (by omega), if_pos (by omega), rd_nat a i a[i] (List.getElem?_eq_getElem hl), rd_nat b i b[i] (List.getElem?_eq_getElem hl2), wrap_small (by omega) (by omega), hn]
    rw [List.drop_eq_getElem_cons hl, List.drop_eq_getElem_cons hl2]
    generalize a[i] = u
    generalize b[i] = v
    generalize a.drop (i + 1) = x
    generalize b.drop (i + 1) = y
    by_cases he : u = v
    · rw [if_pos (by rw [he]), he]
      simp only [List.cons.injEq, true_and]
    · rw [if_neg (by rw [tl_inj]; exact he)]
      simp [he]
theorem same_is (a b : List ByteArray) (ha : a.length ≤ 1000000) (k : Nat) (hk : a.length < k) : rillbedlaw05_same.f k a b = some (decide (a = b)) := by
  unfold rillbedlaw05_same.f
  by_cases h : (a.length : Int) = (b.length : Int)
  · rw [if_pos h]
    have := same_loop a b (by omega) ha a.length k 0 (by omega) (by omega) hk
    rw [List.drop_zero, List.drop_zero] at this
    exact this
  · rw [if_neg h]
    have : ¬ a = b := fun e => h (by rw [e])
    rw [decide_eq_false this]

/-- What the document's Text ends with, of the names' text. -/
def finT (x0 s : ByteArray) : ByteArray :=
  if s.toList = [] then (if x0.toList = [] then ⟨#[47]⟩ else (x0 ++ ⟨#[58]⟩) ++ ⟨#[47]⟩)
  else (if x0.toList = [] then s else (x0 ++ ⟨#[58]⟩) ++ s)
theorem rtext_l1 (x0 : ByteArray) (h0 : x0.size ≤ 1000) (l : List ByteArray) (hl : l.length ≤ 100) (hx : ∀ x ∈ l, x.size ≤ 1000) : ∀ (d k i : Nat) (x7 : ByteArray), i ≤ l.length → l.length - i = d → d < k → x7.size ≤ 1001 * i →
    rillbedref05_Text.l1 k x0 l x7 (i : Int) = some (finT x0 (mkB (x7.data.toList ++ Lib.joinTail [47] ((l.drop i).map (·.data.toList)))), 0) := by
  intro d
  induction d with
  | zero =>
    intro k i x7 h1 hd hk hz
    obtain ⟨k, rfl⟩ : ∃ m, k = m + 1 := ⟨k - 1, by omega⟩
    simp only [rillbedref05_Text.l1]
    rw [if_neg (by omega), List.drop_of_length_le (by omega), List.map_nil, show Lib.joinTail [47] [] = [] from rfl, List.append_nil, mkB_of]
    have e1 : (x0 ++ (⟨#[58]⟩ : ByteArray)).size = x0.size + 1 := ByteArray.size_append
    unfold finT
    by_cases h2 : x7.toList = []
    · rw [if_pos h2, if_pos h2]
      by_cases h3 : x0.toList = []
      · rw [if_pos h3, if_pos h3]
      · rw [if_neg h3, if_neg h3, if_pos (by omega), if_pos (by omega)]
    · rw [if_neg h2, if_neg h2]
      by_cases h3 : x0.toList = []
      · rw [if_pos h3, if_pos h3]
      · rw [if_neg h3, if_neg h3, if_pos (by omega), if_pos (by omega)]
  | succ d ih =>
    intro k i x7 h1 hd hk hz
    obtain ⟨k, rfl⟩ : ∃ m, k = m + 1 := ⟨k - 1, by omega⟩
    have hlt : i < l.length := by omega
    have hsz := hx l[i] (List.getElem_mem hlt)
    have e1 : (x7 ++ (⟨#[47]⟩ : ByteArray)).size = x7.size + 1 := ByteArray.size_append
    have e2 : ((x7 ++ (⟨#[47]⟩ : ByteArray)) ++ l[i]).size = x7.size + 1 + l[i].size := by rw [ByteArray.size_append, e1]
    have hn := ih k (i + 1) ((x7 ++ (⟨#[47]⟩ : ByteArray)) ++ l[i]) (by omega) (by omega) (by omega) (by omega)
    rw [show ((i + 1 : Nat) : Int) = (i : Int) + 1 from by omega] at hn
    rw [rillbedref05_Text.l1, if_pos (by omega), if_pos (by omega), if_pos (by omega), rd_nat l i l[i] (List.getElem?_eq_getElem hlt), if_pos (by omega), wrap_small (by omega) (by omega), hn, app_data, app_data, List.drop_eq_getElem_cons hlt, List.map_cons]
    simp only [Lib.joinTail, List.map_cons, List.flatten_cons, List.append_assoc]
theorem rtext_l0 (x0 : ByteArray) (h0 : x0.size ≤ 1000) (l : List ByteArray) (hl : l.length ≤ 100) (hx : ∀ x ∈ l, x.size ≤ 1000) : ∀ (d k i : Nat), i ≤ l.length → l.length - i = d → d + 2000 < k →
    rillbedref05_Text.l0 k x0 l (i : Int) = some (if (l.drop i).any badB = true then (⟨#[]⟩, 4) else if 6 < l.length then (⟨#[]⟩, 3) else (finT x0 (mkB (Lib.joinTail [47] (l.map (·.data.toList)))), 0)) := by
  intro d
  induction d with
  | zero =>
    intro k i h1 hd hk
    obtain ⟨k, rfl⟩ : ∃ m, k = m + 1 := ⟨k - 1, by omega⟩
    simp only [rillbedref05_Text.l0]
    rw [if_neg (by omega), List.drop_of_length_le (by omega), List.any_nil]
    simp only [Bool.false_eq_true, if_false]
    by_cases h6 : 6 < l.length
    · rw [if_pos (by omega), if_pos h6]
    · rw [if_neg (by omega), if_neg h6]
      have := rtext_l1 x0 h0 l hl hx l.length k 0 ⟨#[]⟩ (by omega) (by omega) (by omega) (Nat.zero_le _)
      rw [List.drop_zero] at this
      exact this
  | succ d ih =>
    intro k i h1 hd hk
    obtain ⟨k, rfl⟩ : ∃ m, k = m + 1 := ⟨k - 1, by omega⟩
    have hlt : i < l.length := by omega
    have hsz := hx l[i] (List.getElem_mem hlt)
    have hn := ih k (i + 1) (by omega) (by omega) (by omega)
    rw [show ((i + 1 : Nat) : Int) = (i : Int) + 1 from by omega] at hn
    rw [rillbedref05_Text.l0, if_pos (by omega), if_pos (by omega), rd_nat l i l[i] (List.getElem?_eq_getElem hlt), rcheck_is _ (by omega) k (by omega), wrap_small (by omega) (by omega), hn, List.drop_eq_getElem_cons hlt, List.any_cons]
    simp only [Option.bind_some]
    by_cases hc : checkP l[i] = 0
    · have hb : badB l[i] = false := by unfold badB; rw [hc]; rfl
      rw [if_pos hc, hb, Bool.false_or]
    · have hb : badB l[i] = true := by
        unfold badB
        rw [show (checkP l[i] == 0) = false from beq_eq_false_iff_ne.2 hc]
        rfl
      rw [if_neg hc, hb, Bool.true_or, if_pos rfl]
theorem fin_is (x0 : ByteArray) (l : List ByteArray) : finT x0 (mkB (Lib.joinTail [47] (l.map (·.data.toList)))) = if x0.toList = [] then ⟨#[47]⟩ ++ joinB l ⟨#[47]⟩ else (x0 ++ ⟨#[58]⟩) ++ (⟨#[47]⟩ ++ joinB l ⟨#[47]⟩) := by
  unfold finT
  cases l with
  | nil =>
    have e : (⟨#[47]⟩ : ByteArray) ++ joinB [] ⟨#[47]⟩ = ⟨#[47]⟩ := WideShapes.bytes_inj (by rw [app_data]; rfl)
    rw [if_pos (by rw [tl, mkB_data]; rfl), e]
  | cons x t =>
    have e : mkB (Lib.joinTail [47] ((x :: t).map (·.data.toList))) = ⟨#[47]⟩ ++ joinB (x :: t) ⟨#[47]⟩ := by
      apply WideShapes.bytes_inj
      rw [mkB_data, app_data]
      unfold joinB
      rw [List.map_cons, Lib.join_cons]
      simp [Lib.joinTail]
    rw [if_neg (by rw [tl, mkB_data, List.map_cons]; simp [Lib.joinTail]), e]
theorem rtext_is (x0 : ByteArray) (h0 : x0.size ≤ 1000) (l : List ByteArray) (hl : l.length ≤ 100) (hx : ∀ x ∈ l, x.size ≤ 1000) (k : Nat) (hk : 5000 ≤ k) : rillbedref05_Text.f k x0 l = some (textP x0 l) := by
  obtain ⟨k, rfl⟩ : ∃ m, k = m + 1 := ⟨k - 1, by omega⟩
  have hL := rtext_l0 x0 h0 l hl hx l.length k 0 (by omega) (by omega) (by omega)
  rw [List.drop_zero, fin_is] at hL
  unfold rillbedref05_Text.f textP
  by_cases he : x0.toList = []
  · rw [if_pos he, rillbedref05_Text.j0, if_neg (by decide)]
    rw [show ((0 : Nat) : Int) = 0 from rfl] at hL
    rw [hL]
    have hem : x0.toList.isEmpty = true := by rw [he]; rfl
    rw [hem]
    rfl
  · rw [if_neg he, rcheck_is x0 (by omega) _ (by omega)]
    simp only [Option.bind_some]
    have hem : x0.toList.isEmpty = false := by simpa using he
    rw [hem]
    by_cases hc : checkP x0 = 0
    · have hb : badB x0 = false := by unfold badB; rw [hc]; rfl
      rw [if_pos hc, hb, has_is x0 58 58 rfl (by omega) _ (by omega)]
      simp only [Option.bind_some, rillbedref05_Text.j0]
      rw [show ((0 : Nat) : Int) = 0 from rfl] at hL
      cases x0.toList.elem 58 with
      | true => rfl
      | false =>
        rw [if_neg (by decide), hL]
        rfl
    · have hb : badB x0 = true := by
        unfold badB
        rw [show (checkP x0 == 0) = false from beq_eq_false_iff_ne.2 hc]
        rfl
      rw [if_neg hc, hb, rillbedref05_Text.j0]
      rfl
theorem text_is (x0 : ByteArray) (h0 : x0.size ≤ 1000) (l : List ByteArray) (hl : l.length ≤ 100) (hx : ∀ x ∈ l, x.size ≤ 1000) : path_Text.f x0 l = some (textP x0 l) := by
  show textF x0 l = _
  unfold textF
  rw [if_pos]
  unfold fitsB
  rw [decide_eq_true h0, decide_eq_true (show l.length ≤ 1000 by omega), Bool.true_and, Bool.true_and, List.all_eq_true]
  exact fun x hm => decide_eq_true (hx x hm)
end Go.Proofs.YtddepmeikglhgaaDoor.Q
