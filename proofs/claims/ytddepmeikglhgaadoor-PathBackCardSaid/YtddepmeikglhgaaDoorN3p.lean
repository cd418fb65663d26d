/- PathParses' plain statement. -/
import Derived.Test.YtddepmeikglhgaaDoorN2p
import Derived.Test.YtddepmeikglhgaaDoorN0p
import Derived.Test.YtddepmeikglhgaaDoorRrillbedlaw05PathParses
namespace Go.Proofs.YtddepmeikglhgaaDoor.Q
open Go.RowKit Go.Proofs.YtddepmeikglhgaaDoorW.PrintWords Go.Proofs.YtddepmeikglhgaaDoorW.PrintLast Go.Proofs.YtddepmeikglhgaaDoorW.PrintMore
set_option linter.unusedVariables false
theorem goP_len : ∀ (l : List ByteArray) (n : Nat), n ≤ 6 → goP n l = 0 → n + l.length ≤ 6
  | [], n, h, _ => by simpa using h
  | x :: t, n, h, hg => by
    simp only [goP] at hg
    split at hg
    · split at hg
      · simp at hg
      · have := goP_len t (n + 1) (by omega) hg
        rw [List.length_cons]; omega
    · rename_i h1
      exact absurd hg h1
theorem parse_len (p : ByteArray) : (parseP p).2.1.length ≤ 6 := by
  unfold parseP
  split
  · simp
  split
  · simp
  · simp
  · split
    · split
      · simp
      · unfold outP
        split
        · rename_i h
          have := goP_len _ 0 (by omega) h
          simpa using this
        · simp
    · simp
theorem pathParses_pure (a0 : ByteArray) : ∃ k, rillbedlaw05_PathParses.f k a0 = some true := by
  refine ⟨200001, ?_⟩
  have ha := awake_is 200001 (by omega)
  unfold rillbedlaw05_PathParses.f
  rw [ha]
  simp only [Option.bind_some]
  by_cases h : (a0.size : Int) > 1000
  · rw [if_pos h]
  · rw [if_neg h, parse_is a0 (by omega) _ (by omega), rparse_is a0 (by omega) _ (by omega)]
    have hl := parse_len a0
    generalize parseP a0 = x at hl ⊢
    simp only [Option.bind_some, if_true]
    rw [rsame_is _ _ (by omega) _ (by omega), name_is a0 _ (by omega), rcheck_is a0 (by omega) _ (by omega)]
    unfold badB
    simp
theorem pathParsesWalk (a0 : ByteArray) (W : World) : Calls Tryd.prog 3 #[.string a0] W fun e w' => e = .returned (.bool true) ∧ Below W.heap.size W w' := by
  obtain ⟨k, h⟩ := pathParses_pure a0
  exact rillbedlaw05_PathParses.calls k a0 true W h
end Go.Proofs.YtddepmeikglhgaaDoor.Q
