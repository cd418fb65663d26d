/- Where a key moves to, by the program alone. (Taken out of N5k.) -/
import Derived.Test.YthafpbidfgmacaaDoorN3b
import Derived.Test.YthafpbidfgmacaaDoorN0k
import Derived.Test.YthafpbidfgmacaaDoorQkeyMove
namespace Go.Proofs.YthafpbidfgmacaaDoor.Q
open Go.RowKit Go.Proofs.YthafpbidfgmacaaDoorW.PrintWords Go.Proofs.YthafpbidfgmacaaDoorW.PrintLast Go.Proofs.YthafpbidfgmacaaDoorW.PrintMore
set_option linter.unusedVariables false

def mvS (a J K : ByteArray) : ByteArray :=
  if (bt a 0 = 109 ∨ bt a 0 = 100) ∧ J.size ≤ (a.extract 1 a.size).size ∧ ((a.extract 1 a.size).extract 0 J.size).toList = J.toList ∧ ((a.extract 1 a.size).size ≤ J.size ∨ bt (a.extract 1 a.size) (J.size : Int) = 0)
  then (a.extract 0 1 ++ K) ++ (a.extract 1 a.size).extract J.size (a.extract 1 a.size).size else a
def mvP (a : ByteArray) (l1 l2 : List ByteArray) : ByteArray :=
  if a.toList = [] ∨ (l1.length : Int) = 0 ∨ (l2.length : Int) = 0 ∨ rightB l1 = false ∨ rightB l2 = false then a else mvS a (joinB l1 ⟨#[0]⟩) (joinB l2 ⟨#[0]⟩)
theorem bt_rest (s : ByteArray) (j : Nat) (h : j < s.size) : bt (s.extract j s.size) 0 = bt s (j : Int) := by
  obtain ⟨b, hb⟩ := byte_at s j h
  rw [bt_nat s j b hb]
  exact bt_nat (s.extract j s.size) 0 b (by rw [ext_data, List.take_of_length_le (by rw [size_len]; omega), List.getElem?_drop, Nat.add_zero, hb])
theorem cutp_is (s J : ByteArray) (hs : s.size ≤ 100000) (hJ : J.size ≤ 100000) : strings_CutPrefix.f s J = some (if J.size ≤ s.size ∧ (s.extract 0 J.size).toList = J.toList then (s.extract J.size s.size, true) else (s, false)) := by
  unfold strings_CutPrefix.f stringslite_CutPrefix.f stringslite_HasPrefix.f
  by_cases c1 : J.size ≤ s.size
  · rw [if_pos (by omega), if_pos (by omega), if_pos (by omega), Int.toNat_natCast, Option.bind_some]
    by_cases c2 : (s.extract 0 J.size).toList = J.toList
    · rw [if_pos (beq_iff_eq.2 c2), if_pos (by omega), if_pos (by omega), if_pos ⟨c1, c2⟩]
      rfl
    · rw [if_neg (by rw [beq_iff_eq]; exact c2), if_neg (fun h => c2 h.2)]
      rfl
  · rw [if_neg (by omega), Option.bind_some, if_neg (by decide), if_neg (fun h => c1 h.1)]
    rfl
theorem kmove_j0 (k : Nat) (a : ByteArray) (l1 l2 : List ByteArray) (J K : ByteArray) (h1 : key_joint.f l1 = some J) (h2 : key_joint.f l2 = some K) (ha : ¬ a.toList = []) (hs : a.size ≤ 100000) (hJ : J.size ≤ 100000) (hK : K.size ≤ 100000) :
    key_Move.j0 (k + 1) a l1 l2 false = some (mvS a J K) := by
  have hz : 1 ≤ a.size := by have := mt (nil_size a).2 ha; omega
  have e1 : (a.extract 0 1).size = 1 := by rw [ByteArray.size_extract]; omega
  have e2 : (a.extract 1 a.size).size = a.size - 1 := by rw [ByteArray.size_extract]; omega
  simp only [key_Move.j0]
  rw [if_neg (by decide), if_pos (by omega), h1, Option.bind_some, h2]
  generalize hsd : a.extract 1 a.size = s at e2
  unfold mvS
  rw [hsd, cutp_is s J (by omega) hJ, Option.bind_some]
  have e3 : (a.extract 0 1 ++ K).size = 1 + K.size := by rw [ByteArray.size_append, e1]
  by_cases c1 : J.size ≤ s.size ∧ (s.extract 0 J.size).toList = J.toList
  · have e4 : (s.extract J.size s.size).size = s.size - J.size := by rw [ByteArray.size_extract]; omega
    rw [if_pos c1]
    dsimp only
    rw [if_pos rfl, if_pos (by omega)]
    have hfin : ∀ (b : Prop) [Decidable b], (b → ((s.size ≤ J.size) ∨ bt s (J.size : Int) = 0)) → (¬ b → ¬ ((s.size ≤ J.size) ∨ bt s (J.size : Int) = 0)) → (bt a 0 = 109 ∨ bt a 0 = 100) →
        (if b then some ((a.extract 0 1 ++ K) ++ s.extract J.size s.size) else some a) = some (if (bt a 0 = 109 ∨ bt a 0 = 100) ∧ J.size ≤ s.size ∧ (s.extract 0 J.size).toList = J.toList ∧ (s.size ≤ J.size ∨ bt s (J.size : Int) = 0) then (a.extract 0 1 ++ K) ++ s.extract J.size s.size else a) := by
      intro b _ hb1 hb2 hc
      by_cases hb : b
      · rw [if_pos hb, if_pos ⟨hc, c1.1, c1.2, hb1 hb⟩]
      · rw [if_neg hb, if_neg (fun h => hb2 hb h.2.2.2)]
    have hrest : (s.extract J.size s.size).toList = [] ↔ s.size ≤ J.size := by
      rw [nil_size, e4]
      omega
    by_cases c5 : (s.extract J.size s.size).toList = []
    · have c5' := hrest.1 c5
      by_cases c6 : bt a 0 = 109
      · rw [if_pos c6, if_pos c5, if_pos (by decide), Option.bind_some, if_pos (by omega), if_pos (by omega), if_pos ⟨.inl c6, c1.1, c1.2, .inl c5'⟩]
      · rw [if_neg c6]
        by_cases c7 : bt a 0 = 100
        · rw [if_pos c7, if_pos c5, if_pos (by decide), Option.bind_some, if_pos (by omega), if_pos (by omega), if_pos ⟨.inr c7, c1.1, c1.2, .inl c5'⟩]
        · rw [if_neg c7, if_neg (fun h => by rcases h.1 with h | h; exact c6 h; exact c7 h)]
    · have c5' : J.size < s.size := by have := mt hrest.2 c5; omega
      have hb := bt_rest s J.size c5'
      rw [if_neg c5, if_pos (show (0 : Int) < ((s.extract J.size s.size).size : Int) by omega), if_pos (show (0 : Nat) ≤ 1 by decide), Option.bind_some, if_pos (show (a.extract 0 1).size + K.size ≤ 9223372036854775807 by omega), if_pos (show (a.extract 0 1 ++ K).size + (s.extract J.size s.size).size ≤ 9223372036854775807 by omega), hb]
      by_cases c6 : bt a 0 = 109
      · rw [if_pos c6]
        exact hfin _ (fun h => .inr h) (fun h h' => by rcases h' with h' | h'; omega; exact h h') (.inl c6)
      · rw [if_neg c6]
        by_cases c7 : bt a 0 = 100
        · rw [if_pos c7]
          exact hfin _ (fun h => .inr h) (fun h h' => by rcases h' with h' | h'; omega; exact h h') (.inr c7)
        · rw [if_neg c7, if_neg (fun h => by rcases h.1 with h | h; exact c6 h; exact c7 h)]
  · rw [if_neg c1]
    dsimp only
    rw [if_neg (by decide), if_neg (fun h => c1 ⟨h.2.1, h.2.2.1⟩)]
theorem kmove_is (k : Nat) (hk : 1000 ≤ k) (a : ByteArray) (l1 l2 : List ByteArray) (hs : a.size ≤ 100000) (g1 : l1.length ≤ 20) (x1 : ∀ x ∈ l1, x.size ≤ 200) (g2 : l2.length ≤ 20) (x2 : ∀ x ∈ l2, x.size ≤ 200) :
    key_Move.f (k + 1) a l1 l2 = some (mvP a l1 l2) := by
  have hT : key_Move.j0 (k + 1) a l1 l2 true = some a := by
    simp only [key_Move.j0]
    rfl
  have z1 := join_size l1 g1 x1
  have z2 := join_size l2 g2 x2
  have j1 := joint_is l1 (by omega) (by omega)
  have j2 := joint_is l2 (by omega) (by omega)
  unfold key_Move.f mvP
  by_cases c5 : a.toList = []
  · rw [if_pos c5, if_pos (.inl c5), hT]
  rw [if_neg c5]
  by_cases c1 : (l1.length : Int) = 0
  · rw [if_pos c1, if_pos (.inr (.inl c1)), hT]
  rw [if_neg c1]
  by_cases c2 : (l2.length : Int) = 0
  · rw [if_pos c2, if_pos (.inr (.inr (.inl c2))), hT]
  rw [if_neg c2, key_right_is l1 (by omega) _ (by omega), Option.bind_some, key_right_is l2 (by omega) _ (by omega)]
  cases c3 : rightB l1 with
  | false => rw [if_neg (by decide), if_pos (.inr (.inr (.inr (.inl rfl)))), hT]
  | true =>
    rw [if_pos rfl, Option.bind_some]
    cases c4 : rightB l2 with
    | false => rw [if_pos (.inr (.inr (.inr (.inr rfl)))), Bool.not_false, hT]
    | true =>
      have hN : ¬ (a.toList = [] ∨ (l1.length : Int) = 0 ∨ (l2.length : Int) = 0 ∨ true = false ∨ true = false) := by simp only [c5, c1, c2, reduceCtorEq, or_self, not_false_eq_true]
      rw [Bool.not_true, if_neg hN, kmove_j0 k a l1 l2 _ _ j1 j2 c5 hs (by omega) (by omega)]
end Go.Proofs.YthafpbidfgmacaaDoor.Q
