/- What key.Meta answers, for laws over descriptors. -/
import Derived.Test.YthafpbidfgmacaaDoorN1b
import Derived.Test.YthafpbidfgmacaaDoorQM
namespace Go.Proofs.YthafpbidfgmacaaDoor.Q
open Go.RowKit Go.Proofs.YthafpbidfgmacaaDoorW.PrintWords Go.Proofs.YthafpbidfgmacaaDoorW.PrintLast Go.Proofs.YthafpbidfgmacaaDoorW.PrintMore
set_option linter.unusedVariables false

theorem app_data (a b : ByteArray) : (a ++ b).data.toList = a.data.toList ++ b.data.toList := by simp
theorem within_is (a b : ByteArray) (ha : a.size ≤ 1) (l : List ByteArray) (hl : l.length ≤ 1000000) (hj : (joinB l ⟨#[0]⟩).size ≤ 1000000) (k : Nat) (hk : l.length < k) :
    key_sort_within.f k a b l = some (if rightB l = true then (if (l.length : Int) = 0 then (a, b) else (a ++ joinB l ⟨#[0]⟩, (a ++ joinB l ⟨#[0]⟩) ++ ⟨#[1]⟩)) else (⟨#[]⟩, ⟨#[]⟩)) := by
  unfold key_sort_within.f
  rw [key_right_is l hl k hk]
  simp only [Option.bind_some]
  by_cases hr : rightB l = true
  · rw [if_pos hr, if_pos hr]
    by_cases h0 : (l.length : Int) = 0
    · rw [if_pos h0, if_pos h0]
    · rw [if_neg h0, if_neg h0, joint_is l hl hj]
      simp only [Option.bind_some]
      rw [if_pos (by omega), if_pos (by rw [ByteArray.size_append]; omega)]
  · rw [if_neg hr, if_neg hr]
theorem subtree_is (l : List ByteArray) (hl : l.length ≤ 1000000) (hj : (joinB l ⟨#[0]⟩).size ≤ 1000000) (k : Nat) (hk : l.length < k) (h0 : ¬ (l.length : Int) = 0) :
    key_Subtree.f k l = some (if rightB l = true then (⟨#[109]⟩ ++ joinB l ⟨#[0]⟩, (⟨#[109]⟩ ++ joinB l ⟨#[0]⟩) ++ ⟨#[1]⟩, ⟨#[100]⟩ ++ joinB l ⟨#[0]⟩, (⟨#[100]⟩ ++ joinB l ⟨#[0]⟩) ++ ⟨#[1]⟩) else (⟨#[]⟩, ⟨#[]⟩, ⟨#[]⟩, ⟨#[]⟩)) := by
  unfold key_Subtree.f key_sorts.f
  simp only [Option.bind_some]
  rw [within_is _ _ (Nat.le_refl _) l hl hj k hk, within_is _ _ (Nat.le_refl _) l hl hj k hk]
  simp only [Option.bind_some]
  by_cases hr : rightB l = true
  · simp only [if_pos hr, if_neg h0]
  · simp only [if_neg hr]
theorem meta_is (l : List ByteArray) (hl : l.length ≤ 1000000) (hj : (joinB l ⟨#[0]⟩).size ≤ 1000000) (k : Nat) (hk : l.length < k) (h0 : ¬ (l.length : Int) = 0) :
    key_Meta.f k l = some (if rightB l = true then ⟨#[109]⟩ ++ joinB l ⟨#[0]⟩ else ⟨#[]⟩) := by
  unfold key_Meta.f key_whole.f
  rw [subtree_is l hl hj k hk h0]
  simp only [Option.bind_some]
  by_cases hr : rightB l = true
  · simp only [if_pos hr]
  · simp only [if_neg hr]
end Go.Proofs.YthafpbidfgmacaaDoor.Q
