/- Plain laws of keys that need no text of the document: names, paths, a text joined. (Taken out of N1k, for claims that must be small.) -/
import Derived.Test.YthafpbidfgmacaaDoorQC
namespace Go.Proofs.YthafpbidfgmacaaDoor.Q
open Go.RowKit Go.Proofs.YthafpbidfgmacaaDoorW.PrintWords Go.Proofs.YthafpbidfgmacaaDoorW.PrintLast Go.Proofs.YthafpbidfgmacaaDoorW.PrintMore
set_option linter.unusedVariables false

theorem wrap_small {i : Int} (h0 : -9223372036854775808 ≤ i) (h : i < 9223372036854775808) : wrap64 i = i := by unfold wrap64; omega
theorem size_len (s : ByteArray) : s.data.toList.length = s.size := (Lib.size_eq s).symm
theorem tl (s : ByteArray) : s.toList = s.data.toList := Lib.toList_data s
theorem bt_nat (s : ByteArray) (i : Nat) (b : UInt8) (h : s.data.toList[i]? = some b) : bt s (i : Int) = (b.toNat : Int) := by
  obtain ⟨hl, he⟩ := List.getElem?_eq_some_iff.1 h
  rw [size_len] at hl
  unfold bt
  have e : ((i : Int)).toNat = i := by omega
  rw [dif_pos (by rw [e]; exact hl)]
  have : s[((i : Int)).toNat]'(by rw [e]; exact hl) = b := by
    rw [← he]
    simp [Array.getElem_toList]
    rfl
  rw [this]
theorem byte_at (s : ByteArray) (i : Nat) (h : i < s.size) : ∃ b, s.data.toList[i]? = some b := ⟨_, List.getElem?_eq_getElem (by rw [size_len]; exact h)⟩
theorem rd_nat (l : List ByteArray) (i : Nat) (x : ByteArray) (h : l[i]? = some x) : rdOf ByteArray.empty l (i : Int) = x := by
  unfold rdOf
  have e : ((i : Int)).toNat = i := by omega
  rw [e, List.getD_eq_getElem?_getD, h]
  rfl

def nameB (s : ByteArray) : Bool := decide (1 ≤ s.size) && (decide (s.size ≤ 16) && (!(s.toList == [46]) && (!(s.toList == [46, 46]) && !hasB s)))
def rightB (l : List ByteArray) : Bool := l.all nameB && decide (l.length ≤ 6)

theorem nil_size (s : ByteArray) : s.toList = [] ↔ s.size = 0 := by
  rw [tl, ← size_len]
  exact List.length_eq_zero_iff.symm
theorem key_right_loop (y : List ByteArray) (x0 : List ByteArray) (hs : x0.length ≤ 1000000) : ∀ (d k i : Nat), i ≤ x0.length → x0.length - i = d → d < k → key_right.l0 k y x0 (x0.length : Int) (i : Int) = some ((x0.drop i).all nameB && decide (y.length ≤ 6)) := by
  intro d
  induction d with
  | zero =>
    intro k i h1 hd hk
    obtain ⟨k, rfl⟩ : ∃ m, k = m + 1 := ⟨k - 1, by omega⟩
    simp only [key_right.l0]
    rw [if_neg (by omega), List.drop_of_length_le (by omega)]
    simp
    omega
  | succ d ih =>
    intro k i h1 hd hk
    obtain ⟨k, rfl⟩ : ∃ m, k = m + 1 := ⟨k - 1, by omega⟩
    have hl : i < x0.length := by omega
    simp only [key_right.l0]
    rw [if_pos (by omega), if_pos (by omega), if_pos (by omega), rd_nat x0 i x0[i] (List.getElem?_eq_getElem hl), List.drop_eq_getElem_cons hl, List.all_cons]
    have hnx := ih k (i + 1) (by omega) (by omega) (by omega)
    rw [show ((i + 1 : Nat) : Int) = (i : Int) + 1 from by omega] at hnx
    generalize x0[i] = s
    unfold nameB
    by_cases h1 : s.toList = []
    · rw [if_pos h1, decide_eq_false (show ¬ 1 ≤ s.size by have := (nil_size s).1 h1; omega)]
      rfl
    · rw [if_neg h1, decide_eq_true (show 1 ≤ s.size by have := mt (nil_size s).2 h1; omega)]
      by_cases h3 : s.toList = [46]
      · rw [if_pos h3, h3]
        simp
      · rw [if_neg h3, beq_eq_false_iff_ne.2 h3]
        by_cases h4 : s.toList = [46, 46]
        · rw [if_pos h4, h4]
          simp
        · rw [if_neg h4, beq_eq_false_iff_ne.2 h4]
          by_cases h2 : (s.size : Int) > 16
          · rw [if_pos h2, decide_eq_false (show ¬ s.size ≤ 16 by omega)]
            simp
          · rw [if_neg h2, decide_eq_true (show s.size ≤ 16 by omega)]
            have ha : strings_ContainsAny.f s (⟨#[0, 47]⟩ : ByteArray) = some (hasB s) := by
              show anyF s _ = _
              unfold anyF
              rw [if_pos ⟨rfl, by omega⟩]
            rw [ha]
            simp only [Option.bind_some]
            cases hasB s with
            | true => rfl
            | false =>
              rw [if_neg (by decide), wrap_small (by omega) (by omega), hnx]
              rfl
theorem key_right_is (l : List ByteArray) (hl : l.length ≤ 1000000) (k : Nat) (hk : l.length < k) : key_right.f k l = some (rightB l) := by
  unfold key_right.f rightB
  have := key_right_loop l l hl l.length k 0 (by omega) (by omega) (by omega)
  rw [List.drop_zero] at this
  exact this

theorem joinB_data (l : List ByteArray) (sep : ByteArray) : (joinB l sep).data.toList = Lib.join (l.map (·.data.toList)) sep.data.toList := by simp [joinB]
theorem join_more (x : List UInt8) (r : List (List UInt8)) (sep : List UInt8) (hr : r ≠ []) : Lib.join (x :: r) sep = x ++ sep ++ Lib.join r sep := by
  obtain ⟨y, t, rfl⟩ := List.exists_cons_of_ne_nil hr
  rw [Lib.join_cons, Lib.join_cons]
  simp [Lib.joinTail, List.append_assoc]
theorem ext_data (s : ByteArray) (a b : Nat) : (s.extract a b).data.toList = (s.data.toList.take b).drop a := by
  rw [Lib.extract_data]
  rw [List.drop_take]

theorem joint_is (l : List ByteArray) (hl : l.length ≤ 1000000) (hj : (joinB l ⟨#[0]⟩).size ≤ 1000000) : key_joint.f l = some (joinB l ⟨#[0]⟩) := by
  unfold key_joint.f
  show (joinF l _).bind _ = _
  unfold joinF
  rw [if_pos ⟨by omega, by omega⟩]
  rfl
end Go.Proofs.YthafpbidfgmacaaDoor.Q
