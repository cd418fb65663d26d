/- KeyMoves' plain statement. -/
import Derived.Test.YthafpbidfgmacaaDoorN5k
import Derived.Test.YthafpbidfgmacaaDoorQrillbedlaw06KeyMoves
import Derived.Test.YthafpbidfgmacaaDoorJ4
namespace Go.Proofs.YthafpbidfgmacaaDoor.Q
open Go.RowKit Go.Proofs.YthafpbidfgmacaaDoorW.PrintWords Go.Proofs.YthafpbidfgmacaaDoorW.PrintLast Go.Proofs.YthafpbidfgmacaaDoorW.PrintMore
set_option linter.unusedVariables false
theorem works_is (k : Nat) (hk : 12 ≤ k) : rillbedlaw06_works.f k = some true := at_rounds (g := fun k => rillbedlaw06_works.f k) (fun k => rillbedlaw06_works.mono k) hk works_ok
theorem keyMoves_pure (a0 : ByteArray) (l1 l2 : List ByteArray) (hl1 : l1.length ≤ 9223372036854775807) (hl2 : l2.length ≤ 9223372036854775807) : ∃ k, rillbedlaw06_KeyMoves.f k a0 l1 l2 = some true := by
  obtain ⟨k, hk⟩ : ∃ k : Nat, k = 3000 := ⟨_, rfl⟩
  refine ⟨k + 2, ?_⟩
  have hw := works_is (k + 1) (by omega)
  obtain ⟨b1, hb1, hf1⟩ := few_is l1 hl1 (k + 2) (by omega)
  obtain ⟨b2, hb2, hf2⟩ := few_is l2 hl2 (k + 2) (by omega)
  have hT : rillbedlaw06_KeyMoves.j0 (k + 2) a0 l1 l2 true = some true := by
    rw [rillbedlaw06_KeyMoves.j0, if_pos rfl, hw]
    rfl
  unfold rillbedlaw06_KeyMoves.f
  by_cases h : (a0.size : Int) > 500
  · rw [if_pos h, hT]
  · rw [if_neg h, hb1, Option.bind_some, hb2]
    cases b1 with
    | false => rw [if_neg (by decide), hT]
    | true =>
      rw [if_pos rfl, Option.bind_some]
      cases b2 with
      | false => rw [Bool.not_false, hT]
      | true =>
        obtain ⟨g1, x1⟩ := hf1 rfl
        obtain ⟨g2, x2⟩ := hf2 rfl
        rw [Bool.not_true, rillbedlaw06_KeyMoves.j0, if_neg (by decide), kmove_is k (by omega) a0 l1 l2 (by omega) g1 x1 g2 x2, rmove_is k (by omega) a0 l1 l2 (by omega) g1 x1 g2 x2, Option.bind_some, Option.bind_some, if_pos rfl, hw]
        rfl
theorem keyMovesWalk (a0 : ByteArray) (A1 : Option Addr) (c1 : Nat) (l1 : List ByteArray) (A2 : Option Addr) (c2 : Nat) (l2 : List ByteArray) (W : World)
    (hC1 : Kd.C Kd.string W A1 l1.length l1) (hc1 : l1.length ≤ c1) (hl1 : l1.length ≤ 9223372036854775807) (hC2 : Kd.C Kd.string W A2 l2.length l2) (hc2 : l2.length ≤ c2) (hl2 : l2.length ≤ 9223372036854775807) :
    Calls Tryd.prog 8 #[.string a0, .slice A1 l1.length c1, .slice A2 l2.length c2] W fun e w' => e = .returned (.bool true) ∧ Below W.heap.size W w' := by
  obtain ⟨k, h⟩ := keyMoves_pure a0 l1 l2 hl1 hl2
  exact rillbedlaw06_KeyMoves.calls k a0 A1 c1 l1 A2 c2 l2 true W hC1 hc1 hC2 hc2 h
end Go.Proofs.YthafpbidfgmacaaDoor.Q
