/- Plain laws of keys: names, paths, a text cut at bytes 0 and joined again. -/
import Derived.Test.YthafpbidfgmacaaDoorQrillbedref06Take
import Derived.Test.YthafpbidfgmacaaDoorQkeyTake
namespace Go.Proofs.YthafpbidfgmacaaDoor.Q
open Go.RowKit Go.Proofs.YthafpbidfgmacaaDoorW.PrintWords Go.Proofs.YthafpbidfgmacaaDoorW.PrintLast Go.Proofs.YthafpbidfgmacaaDoorW.PrintMore
set_option linter.unusedVariables false

theorem wrap_small {i : Int} (h0 : -9223372036854775808 ≤ i) (h : i < 9223372036854775808) : wrap64 i = i := by unfold wrap64; omega
theorem size_len (s : ByteArray) : s.data.toList.length = s.size := (Lib.size_eq s).symm
theorem tl (s : ByteArray) : s.toList = s.data.toList := Lib.toList_data s
theorem bt_nat (s : ByteArray) (i : Nat) (b : UInt8) (h : s.data.toList[i]? = some b) : bt s (i : Int) = (b.toNat : Int) := by
  obtain ⟨hl, he⟩ := List.getElem?_eq_some_iff.1 h
  rw [size_len] at hl
  unfold bt
  have e : ((i : Int)).toNat = i := by omega
  rw [dif_pos (by rw [e]; exact hl)]
  have : s[((i : Int)).toNat]'(by rw [e]; exact hl) = b := by
    rw [← he]
    simp [Array.getElem_toList]
    rfl
  rw [this]
theorem byte_at (s : ByteArray) (i : Nat) (h : i < s.size) : ∃ b, s.data.toList[i]? = some b := ⟨_, List.getElem?_eq_getElem (by rw [size_len]; exact h)⟩
theorem rd_nat (l : List ByteArray) (i : Nat) (x : ByteArray) (h : l[i]? = some x) : rdOf ByteArray.empty l (i : Int) = x := by
  unfold rdOf
  have e : ((i : Int)).toNat = i := by omega
  rw [e, List.getD_eq_getElem?_getD, h]
  rfl

/-- May a text be a name? -/
def nameB (s : ByteArray) : Bool := decide (1 ≤ s.size) && (decide (s.size ≤ 16) && (!(s.toList == [46]) && (!(s.toList == [46, 46]) && !hasB s)))
def rightB (l : List ByteArray) : Bool := l.all nameB && decide (l.length ≤ 6)

theorem name_loop (x0 : ByteArray) (hs : x0.size ≤ 1000) : ∀ (d k i : Nat), i ≤ x0.size → x0.size - i = d → d < k → rillbedref06_Name.l0 k x0 (i : Int) = some (!((x0.data.toList.drop i).any cutB)) := by
  intro d
  induction d with
  | zero =>
    intro k i h1 hd hk
    obtain ⟨k, rfl⟩ : ∃ m, k = m + 1 := ⟨k - 1, by omega⟩
    simp only [rillbedref06_Name.l0]
    rw [if_neg (by omega), List.drop_of_length_le (by rw [size_len]; omega)]
    rfl
  | succ d ih =>
    intro k i h1 hd hk
    obtain ⟨k, rfl⟩ : ∃ m, k = m + 1 := ⟨k - 1, by omega⟩
    obtain ⟨b, hb⟩ := byte_at x0 i (by omega)
    have hdr : x0.data.toList.drop i = b :: x0.data.toList.drop (i + 1) := by
      obtain ⟨hl, he⟩ := List.getElem?_eq_some_iff.1 hb
      rw [List.drop_eq_getElem_cons hl, he]
    simp only [rillbedref06_Name.l0]
    rw [if_pos (by omega), if_pos (by omega), bt_nat x0 i b hb, hdr, List.any_cons]
    by_cases hb0 : b = 0
    · subst hb0
      rw [if_pos (by decide)]
      rfl
    · rw [if_neg (by
        intro h
        apply hb0
        have : b.toNat = 0 := by omega
        exact UInt8.toNat_inj.1 this)]
      by_cases hb1 : b = 47
      · subst hb1
        rw [if_pos (by decide)]
        rfl
      · rw [if_neg (by
          intro h
          apply hb1
          have : b.toNat = 47 := by omega
          exact UInt8.toNat_inj.1 this)]
        have hc : cutB b = false := by simp [cutB, hb0, hb1]
        rw [wrap_small (by omega) (by omega), hc, Bool.false_or]
        have := ih k (i + 1) (by omega) (by omega) (by omega)
        rw [show ((i + 1 : Nat) : Int) = (i : Int) + 1 from by omega] at this
        exact this
theorem name_ref (s : ByteArray) (k : Nat) (hk : 20 ≤ k) : rillbedref06_Name.f k s = some (nameB s) := by
  obtain ⟨k, rfl⟩ : ∃ m, k = m + 1 := ⟨k - 1, by omega⟩
  unfold rillbedref06_Name.f nameB
  simp only [rillbedref06_Name.j0]
  by_cases h1 : (s.size : Int) < 1
  · rw [if_pos h1, decide_eq_false (show ¬ 1 ≤ s.size by omega)]
    rfl
  · rw [if_neg h1, decide_eq_true (show 1 ≤ s.size by omega)]
    by_cases h2 : (s.size : Int) > 16
    · rw [if_pos h2, decide_eq_false (show ¬ s.size ≤ 16 by omega)]
      rfl
    · rw [if_neg h2, decide_eq_true (show s.size ≤ 16 by omega)]
      by_cases h3 : s.toList = [46]
      · rw [if_pos h3, h3]
        rfl
      · rw [if_neg h3]
        have e3 : (s.toList == [46]) = false := beq_eq_false_iff_ne.2 h3
        rw [e3]
        by_cases h4 : s.toList = [46, 46]
        · rw [h4]
          rfl
        · have e4 : (s.toList == [46, 46]) = false := beq_eq_false_iff_ne.2 h4
          rw [e4, if_neg (by decide)]
          have := name_loop s (by omega) s.size k 0 (by omega) (by omega) (by omega)
          rw [List.drop_zero] at this
          exact this
theorem right_loop (x0 : List ByteArray) (hs : x0.length ≤ 1000) : ∀ (d k i : Nat), i ≤ x0.length → x0.length - i = d → d + 20 < k → rillbedref06_Right.l0 k x0 (i : Int) = some ((x0.drop i).all nameB) := by
  intro d
  induction d with
  | zero =>
    intro k i h1 hd hk
    obtain ⟨k, rfl⟩ : ∃ m, k = m + 1 := ⟨k - 1, by omega⟩
    simp only [rillbedref06_Right.l0]
    rw [if_neg (by omega), List.drop_of_length_le (by omega)]
    rfl
  | succ d ih =>
    intro k i h1 hd hk
    obtain ⟨k, rfl⟩ : ∃ m, k = m + 1 := ⟨k - 1, by omega⟩
    have hl : i < x0.length := by omega
    simp only [rillbedref06_Right.l0]
    rw [if_pos (by omega), if_pos (by omega), rd_nat x0 i x0[i] (List.getElem?_eq_getElem hl), name_ref _ k (by omega), List.drop_eq_getElem_cons hl, List.all_cons]
    simp only [Option.bind_some]
    cases nameB x0[i] with
    | false => rfl
    | true =>
      rw [if_pos rfl, wrap_small (by omega) (by omega), Bool.true_and]
      have := ih k (i + 1) (by omega) (by omega) (by omega)
      rw [show ((i + 1 : Nat) : Int) = (i : Int) + 1 from by omega] at this
      exact this
theorem right_ref (l : List ByteArray) (k : Nat) (hk : 30 ≤ k) : rillbedref06_Right.f k l = some (rightB l) := by
  unfold rillbedref06_Right.f rightB
  by_cases h : (l.length : Int) > 6
  · rw [if_pos h, decide_eq_false (show ¬ l.length ≤ 6 by omega), Bool.and_false]
  · rw [if_neg h, decide_eq_true (show l.length ≤ 6 by omega), Bool.and_true]
    have := right_loop l (by omega) l.length k 0 (by omega) (by omega) (by omega)
    rw [List.drop_zero] at this
    exact this
theorem nil_size (s : ByteArray) : s.toList = [] ↔ s.size = 0 := by
  rw [tl, ← size_len]
  exact List.length_eq_zero_iff.symm
theorem key_right_loop (y : List ByteArray) (x0 : List ByteArray) (hs : x0.length ≤ 1000000) : ∀ (d k i : Nat), i ≤ x0.length → x0.length - i = d → d < k → key_right.l0 k y x0 (x0.length : Int) (i : Int) = some ((x0.drop i).all nameB && decide (y.length ≤ 6)) := by
  intro d
  induction d with
  | zero =>
    intro k i h1 hd hk
    obtain ⟨k, rfl⟩ : ∃ m, k = m + 1 := ⟨k - 1, by omega⟩
    simp only [key_right.l0]
    rw [if_neg (by omega), List.drop_of_length_le (by omega)]
    simp
    omega
  | succ d ih =>
    intro k i h1 hd hk
    obtain ⟨k, rfl⟩ : ∃ m, k = m + 1 := ⟨k - 1, by omega⟩
    have hl : i < x0.length := by omega
    simp only [key_right.l0]
    rw [if_pos (by omega), if_pos (by omega), if_pos (by omega), rd_nat x0 i x0[i] (List.getElem?_eq_getElem hl), List.drop_eq_getElem_cons hl, List.all_cons]
    have hnx := ih k (i + 1) (by omega) (by omega) (by omega)
    rw [show ((i + 1 : Nat) : Int) = (i : Int) + 1 from by omega] at hnx
    generalize x0[i] = s
    unfold nameB
    by_cases h1 : s.toList = []
    · rw [if_pos h1, decide_eq_false (show ¬ 1 ≤ s.size by have := (nil_size s).1 h1; omega)]
      rfl
    · rw [if_neg h1, decide_eq_true (show 1 ≤ s.size by have := mt (nil_size s).2 h1; omega)]
      by_cases h3 : s.toList = [46]
      · rw [if_pos h3, h3]
        simp
      · rw [if_neg h3, beq_eq_false_iff_ne.2 h3]
        by_cases h4 : s.toList = [46, 46]
        · rw [if_pos h4, h4]
          simp
        · rw [if_neg h4, beq_eq_false_iff_ne.2 h4]
          by_cases h2 : (s.size : Int) > 16
          · rw [if_pos h2, decide_eq_false (show ¬ s.size ≤ 16 by omega)]
            simp
          · rw [if_neg h2, decide_eq_true (show s.size ≤ 16 by omega)]
            have ha : strings_ContainsAny.f s (⟨#[0, 47]⟩ : ByteArray) = some (hasB s) := by
              show anyF s _ = _
              unfold anyF
              rw [if_pos ⟨rfl, by omega⟩]
            rw [ha]
            simp only [Option.bind_some]
            cases hasB s with
            | true => rfl
            | false =>
              rw [if_neg (by decide), wrap_small (by omega) (by omega), hnx]
              rfl
theorem key_right_is (l : List ByteArray) (hl : l.length ≤ 1000000) (k : Nat) (hk : l.length < k) : key_right.f k l = some (rightB l) := by
  unfold key_right.f rightB
  have := key_right_loop l l hl l.length k 0 (by omega) (by omega) (by omega)
  rw [List.drop_zero] at this
  exact this

theorem joinB_data (l : List ByteArray) (sep : ByteArray) : (joinB l sep).data.toList = Lib.join (l.map (·.data.toList)) sep.data.toList := by simp [joinB]
theorem join_more (x : List UInt8) (r : List (List UInt8)) (sep : List UInt8) (hr : r ≠ []) : Lib.join (x :: r) sep = x ++ sep ++ Lib.join r sep := by
  obtain ⟨y, t, rfl⟩ := List.exists_cons_of_ne_nil hr
  rw [Lib.join_cons, Lib.join_cons]
  simp [Lib.joinTail, List.append_assoc]
theorem ext_data (s : ByteArray) (a b : Nat) : (s.extract a b).data.toList = (s.data.toList.take b).drop a := by
  rw [Lib.extract_data]
  rw [List.drop_take]

/-- Cut at bytes 0, by the program and by the definition, and joined again. -/
theorem parts_loop (x0 : ByteArray) (hs : x0.size ≤ 100000) : ∀ (d k i from_ : Nat) (x3 : List ByteArray), from_ ≤ i → i ≤ x0.size → x0.size - i = d → d < k → x3.length ≤ i →
    ∃ l, partsL k x0 x3 (from_ : Int) (i : Int) = some (x3 ++ l) ∧ rillbedref06_Cut.l0 (k + 1) x0 x3 (from_ : Int) (i : Int) = some (x3 ++ l) ∧ l ≠ [] ∧ l.length ≤ d + 1 ∧ Lib.join (l.map (·.data.toList)) [0] = x0.data.toList.drop from_ := by
  intro d
  induction d with
  | zero =>
    intro k i from_ x3 h0 h1 hd hk hx
    obtain ⟨k, rfl⟩ : ∃ m, k = m + 1 := ⟨k - 1, by omega⟩
    have hi : i = x0.size := by omega
    refine ⟨[x0.extract from_ i], ?_, ?_, by simp, by simp, ?_⟩
    · simp only [partsL]
      rw [if_pos (by omega), if_pos (by omega), if_pos (by omega), if_pos (by omega)]
      rfl
    · simp only [rillbedref06_Cut.l0]
      rw [if_pos (by omega), if_pos (by omega), if_pos (by omega), if_pos (by omega), if_pos (by omega), if_neg (by rw [wrap_small (by omega) (by omega)]; omega)]
      rfl
    · rw [List.map_cons, List.map_nil, Lib.join_one, ext_data, List.take_of_length_le (by rw [size_len]; omega)]
  | succ d ih =>
    intro k i from_ x3 h0 h1 hd hk hx
    obtain ⟨k, rfl⟩ : ∃ m, k = m + 1 := ⟨k - 1, by omega⟩
    obtain ⟨b, hb⟩ := byte_at x0 i (by omega)
    have hw : wrap64 ((i : Int) + 1) = ((i + 1 : Nat) : Int) := by rw [wrap_small (by omega) (by omega)]; omega
    have hbt := bt_nat x0 i b hb
    by_cases hb0 : b = 0
    · have hz : bt x0 (i : Int) = 0 := by rw [hbt, hb0]; rfl
      obtain ⟨l, e1, e2, e3, e5, e4⟩ := ih k (i + 1) (i + 1) (x3 ++ [x0.extract from_ i]) (by omega) (by omega) (by omega) (by omega) (by simp; omega)
      refine ⟨x0.extract from_ i :: l, ?_, ?_, by simp, by simp; omega, ?_⟩
      · simp only [partsL]
        rw [if_neg (by omega), if_pos (by omega), if_pos (by omega), if_pos hz, if_pos (by omega), if_pos (by omega), if_pos (by omega), hw]
        rw [List.append_assoc] at e1
        exact e1
      · rw [rillbedref06_Cut.l0]
        rw [if_pos (by omega), if_neg (by omega), if_pos (by omega), if_pos (by omega), if_pos hz, if_pos (by omega), if_pos (by omega), if_pos (by omega), hw]
        rw [List.append_assoc] at e2
        exact e2
      · rw [List.map_cons, join_more _ _ _ (by simpa using e3), e4, ext_data]
        obtain ⟨hl, he⟩ := List.getElem?_eq_some_iff.1 hb
        have hdr : x0.data.toList.drop i = 0 :: x0.data.toList.drop (i + 1) := by rw [List.drop_eq_getElem_cons hl, he, hb0]
        rw [List.append_assoc, List.singleton_append, ← hdr, List.drop_take]
        conv => rhs; rw [← List.take_append_drop (i - from_) (x0.data.toList.drop from_)]
        rw [List.drop_drop, Nat.add_sub_cancel' h0]
    · have hz : ¬ bt x0 (i : Int) = 0 := by
        rw [hbt]
        intro h
        apply hb0
        have : b.toNat = 0 := by omega
        exact UInt8.toNat_inj.1 this
      obtain ⟨l, e1, e2, e3, e5, e4⟩ := ih k (i + 1) from_ x3 (by omega) (by omega) (by omega) (by omega) (by omega)
      refine ⟨l, ?_, ?_, e3, by omega, e4⟩
      · simp only [partsL]
        rw [if_neg (by omega), if_pos (by omega), if_pos (by omega), if_neg hz, hw]
        exact e1
      · rw [rillbedref06_Cut.l0]
        rw [if_pos (by omega), if_neg (by omega), if_pos (by omega), if_pos (by omega), if_neg hz, hw]
        exact e2
theorem parts_is (s : ByteArray) (hs : s.size ≤ 100000) (k : Nat) (hk : s.size + 2 ≤ k) : ∃ l, key_parts.f s = some l ∧ rillbedref06_Cut.f k s = some l ∧ l ≠ [] ∧ l.length ≤ s.size + 1 ∧ joinB l ⟨#[0]⟩ = s := by
  obtain ⟨l, e1, e2, e3, e5, e4⟩ := parts_loop s hs s.size (s.size + 1) 0 0 [] (by omega) (by omega) (by omega) (by omega) (by simp)
  rw [List.nil_append] at e1 e2
  refine ⟨l, e1, ?_, e3, e5, ?_⟩
  · refine at_rounds (g := fun k => rillbedref06_Cut.f k s) (fun k => rillbedref06_Cut.mono s k) hk ?_
    exact e2
  · apply WideShapes.bytes_inj
    rw [joinB_data]
    simpa using e4
theorem joint_is (l : List ByteArray) (hl : l.length ≤ 1000000) (hj : (joinB l ⟨#[0]⟩).size ≤ 1000000) : key_joint.f l = some (joinB l ⟨#[0]⟩) := by
  unfold key_joint.f
  show (joinF l _).bind _ = _
  unfold joinF
  rw [if_pos ⟨by omega, by omega⟩]
  rfl
end Go.Proofs.YthafpbidfgmacaaDoor.Q
