/- Plain laws of paths: bytes of a text, a text split at its slashes, by the program and by the document. -/
import Derived.Test.YtddepmeikglhgaaDoorP6
import Derived.Test.YtddepmeikglhgaaDoorP4
import Derived.Test.YtddepmeikglhgaaDoorRC
import Derived.Test.YtddepmeikglhgaaDoorRF
import Derived.Lib.SplitLaws
namespace Go.Proofs.YtddepmeikglhgaaDoor.Q
open Go.RowKit Go.Proofs.YtddepmeikglhgaaDoorW.PrintWords Go.Proofs.YtddepmeikglhgaaDoorW.PrintLast Go.Proofs.YtddepmeikglhgaaDoorW.PrintMore
set_option linter.unusedVariables false

theorem bt_nat (s : ByteArray) (i : Nat) (b : UInt8) (h : s.data.toList[i]? = some b) : bt s (i : Int) = (b.toNat : Int) := by
  obtain ⟨hl, he⟩ := List.getElem?_eq_some_iff.1 h
  rw [size_len] at hl
  unfold bt
  have e : ((i : Int)).toNat = i := by omega
  rw [dif_pos (by rw [e]; exact hl)]
  have : s[((i : Int)).toNat]'(by rw [e]; exact hl) = b := by
    rw [← he]
    simp [Array.getElem_toList]
    rfl
  rw [this]
theorem byte_at (s : ByteArray) (i : Nat) (h : i < s.size) : ∃ b, s.data.toList[i]? = some b := ⟨_, List.getElem?_eq_getElem (by rw [size_len]; exact h)⟩
theorem ext_data (s : ByteArray) (a b : Nat) : (s.extract a b).data.toList = (s.data.toList.take b).drop a := by
  rw [Lib.extract_data]
  rw [List.drop_take]
theorem app_data (a b : ByteArray) : (a ++ b).data.toList = a.data.toList ++ b.data.toList := by simp
theorem drop_at (s : ByteArray) (i : Nat) (b : UInt8) (h : s.data.toList[i]? = some b) : s.data.toList.drop i = b :: s.data.toList.drop (i + 1) := by
  obtain ⟨hl, he⟩ := List.getElem?_eq_some_iff.1 h
  rw [List.drop_eq_getElem_cons hl, he]
theorem u8_eq (b c : UInt8) : (b.toNat : Int) = (c.toNat : Int) ↔ b = c := ⟨fun h => UInt8.toNat_inj.1 (by omega), fun h => by rw [h]⟩
def mkB (l : List UInt8) : ByteArray := ⟨l.toArray⟩
theorem mkB_data (l : List UInt8) : (mkB l).data.toList = l := by simp [mkB]
theorem mkB_of (s : ByteArray) : mkB s.data.toList = s := WideShapes.bytes_inj (mkB_data _)
theorem mkB_inj {a b : List UInt8} (h : mkB a = mkB b) : a = b := by rw [← mkB_data a, h, mkB_data]

/-- The document's has. -/
theorem has_loop (x0 : ByteArray) (c : UInt8) (hs : x0.size ≤ 1000000) : ∀ (d k i : Nat), i ≤ x0.size → x0.size - i = d → d < k → rillbedref05_has.l0 k x0 (c.toNat : Int) (i : Int) = some ((x0.data.toList.drop i).elem c) := by
  intro d
  induction d with
  | zero =>
    intro k i h1 hd hk
    obtain ⟨k, rfl⟩ : ∃ m, k = m + 1 := ⟨k - 1, by omega⟩
    simp only [rillbedref05_has.l0]
    rw [if_neg (by omega), List.drop_of_length_le (by rw [size_len]; omega)]
    rfl
  | succ d ih =>
    intro k i h1 hd hk
    obtain ⟨k, rfl⟩ : ∃ m, k = m + 1 := ⟨k - 1, by omega⟩
    obtain ⟨b, hb⟩ := byte_at x0 i (by omega)
    have hn := ih k (i + 1) (by omega) (by omega) (by omega)
    rw [show ((i + 1 : Nat) : Int) = (i : Int) + 1 from by omega] at hn
    simp only [rillbedref05_has.l0]
    rw [if_pos (by omega), if_pos (by omega), bt_nat x0 i b hb, drop_at x0 i b hb, wrap_small (by omega) (by omega), hn]
    by_cases he : b = c
    · rw [if_pos (by rw [he]), he]
      simp
    · rw [if_neg (by rw [u8_eq]; exact he)]
      simp only [List.elem_cons]
      rw [show (c == b) = false from beq_eq_false_iff_ne.2 (fun e => he e.symm)]
theorem has_is (s : ByteArray) (c : UInt8) (n : Int) (hn : n = (c.toNat : Int)) (hs : s.size ≤ 1000000) (k : Nat) (hk : s.size < k) : rillbedref05_has.f k s n = some (s.toList.elem c) := by
  unfold rillbedref05_has.f
  rw [hn]
  have := has_loop s c hs s.size k 0 (by omega) (by omega) hk
  rw [List.drop_zero, ← tl] at this
  exact this
theorem rcheck_is (s : ByteArray) (hs : s.size ≤ 1000000) (k : Nat) (hk : s.size + 1 < k) : rillbedref05_Check.f k s = some (checkP s) := by
  obtain ⟨k, rfl⟩ : ∃ m, k = m + 1 := ⟨k - 1, by omega⟩
  have e1 : rillbedref05_has.f (k + 1) s 47 = some (s.toList.elem 47) := has_is s 47 47 rfl hs _ (by omega)
  have e2 : rillbedref05_has.f (k + 1) s 0 = some (s.toList.elem 0) := has_is s 0 0 rfl hs _ (by omega)
  unfold rillbedref05_Check.f checkP
  simp only [rillbedref05_Check.j0]
  rw [e1, e2]
  simp only [Option.bind_some]
  by_cases h1 : s.toList = []
  · rw [if_pos h1]
    show some 4 = some _
    rw [if_pos (.inl h1)]
  rw [if_neg h1]
  by_cases h2 : s.toList = [46]
  · rw [if_pos h2]
    show some 4 = some _
    rw [if_pos (.inr (.inl h2))]
  rw [if_neg h2]
  by_cases h3 : s.toList = [46, 46]
  · rw [if_pos h3]
    show some 4 = some _
    rw [if_pos (.inr (.inr (.inl h3)))]
  rw [if_neg h3]
  cases h4 : s.toList.elem 47 with
  | true =>
    show some 4 = some _
    rw [if_pos (.inr (.inr (.inr (.inl rfl))))]
  | false =>
    cases h5 : s.toList.elem 0 with
    | true =>
      show some 4 = some _
      rw [if_pos (.inr (.inr (.inr (.inr rfl))))]
    | false =>
      show (if (s.size : Int) > 16 then some 3 else some 0) = some _
      by_cases h6 : 16 < s.size
      · rw [if_pos (show (s.size : Int) > 16 by omega), if_neg (by simp [h1, h2, h3]), if_pos h6]
      · rw [if_neg (show ¬ (s.size : Int) > 16 by omega), if_neg (by simp [h1, h2, h3]), if_neg h6]

/-- A text at its slashes. -/
def spl : List UInt8 → List (List UInt8)
  | [] => [[]]
  | c :: t => if c = 47 then [] :: spl t else match spl t with
    | [] => [[c]]
    | h :: r => (c :: h) :: r
theorem spl_ne : ∀ l, spl l ≠ []
  | [] => by simp [spl]
  | c :: t => by
    unfold spl
    split
    · simp
    · split <;> simp
def conH (p : List UInt8) : List (List UInt8) → List (List UInt8)
  | [] => [p]
  | h :: r => (p ++ h) :: r
theorem spl_cons (c : UInt8) (t : List UInt8) (h : c ≠ 47) : spl (c :: t) = conH [c] (spl t) := by
  rw [spl, if_neg h]
  unfold conH
  split <;> simp_all
theorem conH_conH (p q : List UInt8) (x : List (List UInt8)) (h : x ≠ []) : conH p (conH q x) = conH (p ++ q) x := by
  cases x with
  | nil => exact absurd rfl h
  | cons a r => simp [conH]
theorem conH_nil (x : List (List UInt8)) (h : x ≠ []) : conH [] x = x := by
  cases x with
  | nil => exact absurd rfl h
  | cons a r => simp [conH]
theorem spl_app (a t : List UInt8) (h : a.elem 47 = false) : spl (a ++ t) = conH a (spl t) := by
  induction a with
  | nil => exact (conH_nil _ (spl_ne t)).symm
  | cons c a ih =>
    rw [List.elem_cons] at h
    have hc : c ≠ 47 := by
      rintro rfl
      simp at h
    rw [show (47 == c) = false from beq_eq_false_iff_ne.2 (fun e => hc e.symm)] at h
    rw [List.cons_append, spl_cons c _ hc, ih h, conH_conH _ _ _ (spl_ne t)]
    rfl
theorem spl_none (a : List UInt8) (h : a.elem 47 = false) : spl a = [a] := by
  have := spl_app a [] h
  rw [List.append_nil] at this
  rw [this]
  simp [spl, conH]
theorem spl_slash (a t : List UInt8) (h : a.elem 47 = false) : spl (a ++ 47 :: t) = a :: spl t := by
  rw [spl_app a _ h, spl, if_pos rfl]
  simp [conH]
/-- The document's Split. -/
theorem rsplit_loop (x0 : ByteArray) (hs : x0.size ≤ 100000) : ∀ (d k i from_ : Nat) (x3 : List ByteArray), from_ ≤ i → i ≤ x0.size → x0.size - i = d → d + 1 < k → x3.length ≤ i →
    rillbedref05_Split.l0 k x0 x3 (from_ : Int) (i : Int) = some (x3 ++ (conH ((x0.data.toList.take i).drop from_) (spl (x0.data.toList.drop i))).map mkB) := by
  intro d
  induction d with
  | zero =>
    intro k i from_ x3 h0 h1 hd hk hx
    obtain ⟨k, rfl⟩ : ∃ m, k = m + 1 := ⟨k - 1, by omega⟩
    obtain ⟨k, rfl⟩ : ∃ m, k = m + 1 := ⟨k - 1, by omega⟩
    have hi : i = x0.size := by omega
    simp only [rillbedref05_Split.l0]
    rw [if_pos (by omega), if_pos (by omega), if_pos (by omega), if_pos (by omega), if_pos (by omega), if_neg (by rw [wrap_small (by omega) (by omega)]; omega)]
    rw [List.drop_of_length_le (i := i) (by rw [size_len]; omega)]
    congr 2
    simp only [spl, conH, List.map_cons, List.map_nil, List.append_nil]
    congr 1
    apply WideShapes.bytes_inj
    rw [mkB_data, Int.toNat_natCast, Int.toNat_natCast, ext_data]
  | succ d ih =>
    intro k i from_ x3 h0 h1 hd hk hx
    obtain ⟨k, rfl⟩ : ∃ m, k = m + 1 := ⟨k - 1, by omega⟩
    obtain ⟨b, hb⟩ := byte_at x0 i (by omega)
    have hw : wrap64 ((i : Int) + 1) = ((i + 1 : Nat) : Int) := by rw [wrap_small (by omega) (by omega)]; omega
    have hbt := bt_nat x0 i b hb
    rw [rillbedref05_Split.l0]
    rw [if_pos (by omega), if_neg (by omega), if_pos (by omega), if_pos (by omega), drop_at x0 i b hb, hbt]
    by_cases hb0 : b = 47
    · rw [if_pos (by rw [hb0]; rfl), if_pos (by omega), if_pos (by omega), if_pos (by omega), hw, ih k (i + 1) (i + 1) _ (by omega) (by omega) (by omega) (by omega) (by simp; omega), hb0, spl, if_pos rfl]
      have e0 : (x0.data.toList.take (i + 1)).drop (i + 1) = [] := List.drop_of_length_le (by rw [List.length_take]; omega)
      rw [e0, conH_nil _ (spl_ne _), List.append_assoc]
      congr 2
      simp only [conH, List.append_nil, List.map_cons, List.singleton_append]
      congr 1
      apply WideShapes.bytes_inj
      rw [mkB_data, Int.toNat_natCast, Int.toNat_natCast, ext_data]
    · rw [if_neg (by rw [show (47 : Int) = ((47 : UInt8).toNat : Int) from rfl, u8_eq]; exact hb0), hw, ih k (i + 1) from_ x3 (by omega) (by omega) (by omega) (by omega) (by omega), spl_cons b _ hb0, conH_conH _ _ _ (spl_ne _)]
      have e1 : (x0.data.toList.take (i + 1)).drop from_ = (x0.data.toList.take i).drop from_ ++ [b] := by
        rw [List.take_add_one, hb, List.drop_append_of_le_length (by rw [List.length_take, size_len]; omega)]
        rfl
      rw [e1]
theorem rsplit_is (s : ByteArray) (hs : s.size ≤ 100000) (k : Nat) (hk : s.size + 1 < k) : rillbedref05_Split.f k s = some ((spl s.data.toList).map mkB) := by
  unfold rillbedref05_Split.f
  have := rsplit_loop s hs s.size k 0 0 [] (by omega) (by omega) (by omega) hk (by simp)
  rw [List.take_zero, List.drop_zero, List.drop_zero, conH_nil _ (spl_ne _), List.nil_append] at this
  exact this
/-- strings.Split, at a slash. -/
theorem split_at (s : List UInt8) : (Lib.indexByte s 47 = -1 ∧ s.elem 47 = false) ∨ ∃ i : Nat, Lib.indexByte s 47 = i ∧ (s.take i).elem 47 = false ∧ s = s.take i ++ 47 :: s.drop (i + 1) := by
  have hc := Lib.contains_iff_indexByte s 47
  have hge := Lib.indexByte_ge s 47
  by_cases h : 0 ≤ Lib.indexByte s 47
  · right
    obtain ⟨i, hi⟩ := Int.eq_ofNat_of_zero_le h
    obtain ⟨h1, h2⟩ := Lib.indexByte_some hi
    refine ⟨i, hi, ?_, ?_⟩
    · rw [Bool.eq_false_iff]
      intro he
      rw [List.elem_eq_mem, decide_eq_true_eq] at he
      obtain ⟨j, hj, hje⟩ := List.getElem_of_mem he
      rw [List.length_take] at hj
      rw [List.getElem_take] at hje
      exact h2 j (by omega) (by rw [List.getElem?_eq_getElem (by omega), hje])
    · obtain ⟨hl, he⟩ := List.getElem?_eq_some_iff.1 h1
      conv => lhs; rw [← List.take_append_drop i s, List.drop_eq_getElem_cons hl, he]
  · left
    refine ⟨by omega, ?_⟩
    rw [show s.elem 47 = s.contains 47 from rfl, hc, decide_eq_false h]
theorem splitB_is : ∀ (n : Nat) (s : ByteArray), s.size ≤ n → Lib.splitB ⟨#[47]⟩ 0 (Lib.countB s ⟨#[47]⟩) s = (spl s.data.toList).map mkB := by
  intro n
  induction n with
  | zero =>
    intro s hs
    have h0 : s.data.toList = [] := List.length_eq_zero_iff.1 (by rw [size_len]; omega)
    have hi : Lib.indexB s ⟨#[47]⟩ = -1 := by
      show Lib.index s.data.toList [47] = -1
      rw [Lib.index_one, h0]
      rfl
    rw [Lib.countB_miss s _ hi, Lib.splitB_zero, h0]
    simp only [spl, List.map_cons, List.map_nil]
    congr 1
    exact WideShapes.bytes_inj (by rw [h0, mkB_data])
  | succ n ih =>
    intro s hs
    rcases split_at s.data.toList with ⟨hi, he⟩ | ⟨i, hi, he, hsp⟩
    · have hi' : Lib.indexB s ⟨#[47]⟩ = -1 := by
        show Lib.index s.data.toList [47] = -1
        rw [Lib.index_one, hi]
      rw [Lib.countB_miss s _ hi', Lib.splitB_zero, spl_none _ he]
      simp only [List.map_cons, List.map_nil]
      rw [mkB_of]
    · have hi' : Lib.indexB s ⟨#[47]⟩ = i := by
        show Lib.index s.data.toList [47] = i
        rw [Lib.index_one, hi]
      have hz : (⟨#[47]⟩ : ByteArray).size = 1 := rfl
      have hlt : i < s.size := by
        have := congrArg List.length hsp
        rw [List.length_append, List.length_cons, List.length_take, List.length_drop, size_len] at this
        omega
      rw [Lib.countB_hit s _ i (by rw [hz]; omega) hi', Nat.add_comm 1, Lib.splitB_hit _ _ _ _ i hi', ih _ (by rw [ByteArray.size_extract, hz]; omega)]
      conv => rhs; rw [hsp, spl_slash _ _ he]
      simp only [List.map_cons]
      congr 1
      · apply WideShapes.bytes_inj
        rw [mkB_data, ext_data]
        rfl
      · rw [ext_data, hz, List.take_of_length_le (by rw [size_len]; omega)]
end Go.Proofs.YtddepmeikglhgaaDoor.Q
