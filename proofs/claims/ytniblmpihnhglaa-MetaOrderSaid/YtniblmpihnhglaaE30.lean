/- MetaOrder: the printed walk and the plain law together. -/
import Derived.Test.YtniblmpihnhglaaE29
import Derived.Test.YtniblmpihnhglaaRMwalk2
namespace Go.Proofs.Ytniblmpihnhglaa
open Go.RowKit
set_option linter.unusedVariables false
theorem metaOrder_on (x : Me) (a b : Ch) (w : World) (hx : x.ok) (ha : a.ok) (hb : b.ok) : Calls Try.prog 10 #[meV x, chW a, chW b] w fun e w' => e = .returned (.bool true) ∧ Bl w w' :=
  Q.rillbedlaw07_MetaOrder.calls 3 x.k x.s x.m x.t a.k a.n a.op a.y b.k b.n b.op b.y w (Q.metaOrder_plain x a b hx ha hb)
theorem metaOrder_walk (v0 : Value) (x : Me) (h0 : MetaArg v0 x) (v1 : Value) (a : Ch) (h1 : ChangeArg v1 a) (v2 : Value) (b : Ch) (h2 : ChangeArg v2 b) (w : World) : Calls Try.prog 10 #[v0, v1, v2] w fun e w' => e = .returned (.bool true) ∧ Bl w w' := by
  obtain ⟨rfl, hx⟩ := h0
  obtain ⟨rfl, ha⟩ := h1
  obtain ⟨rfl, hb⟩ := h2
  exact metaOrder_on x a b w hx ha hb
end Go.Proofs.Ytniblmpihnhglaa
