/- KeyRanges: the walk and the plain law together. -/
import Derived.Test.YthafpbidfgmacaaDoorN13k
import Derived.Test.YthafpbidfgmacaaDoorQrillbedlaw06KeyRanges
namespace Go.Proofs.YthafpbidfgmacaaDoor.Q
open Go.RowKit Go.Proofs.YthafpbidfgmacaaDoorW.PrintWords Go.Proofs.YthafpbidfgmacaaDoorW.PrintLast Go.Proofs.YthafpbidfgmacaaDoorW.PrintMore
set_option linter.unusedVariables false
theorem keyRangesWalk (A0 : Option Addr) (c0 : Nat) (l0 : List ByteArray) (A1 : Option Addr) (c1 : Nat) (l1 : List ByteArray) (x y : Int) (W : World)
    (hC0 : Kd.C Kd.string W A0 l0.length l0) (hc0 : l0.length ≤ c0) (hl0 : l0.length ≤ 9223372036854775807) (hC1 : Kd.C Kd.string W A1 l1.length l1) (hc1 : l1.length ≤ c1) (hl1 : l1.length ≤ 9223372036854775807)
    (hx : 0 ≤ x ∧ x < 256) (hy : 0 ≤ y ∧ y < 256) :
    Calls Tryd.prog 6 #[.slice A0 l0.length c0, .slice A1 l1.length c1, .agg #[.int .u8 x, .int .u8 y]] W fun e w' => e = .returned (.bool true) ∧ Below W.heap.size W w' := by
  obtain ⟨k, h⟩ := keyRanges_plain l0 l1 hl0 hl1 x y hx.1 hx.2 hy.1 hy.2
  exact rillbedlaw06_KeyRanges.calls k A0 c0 l0 A1 c1 l1 x y W hC0 hc0 hC1 hc1 h
end Go.Proofs.YthafpbidfgmacaaDoor.Q
