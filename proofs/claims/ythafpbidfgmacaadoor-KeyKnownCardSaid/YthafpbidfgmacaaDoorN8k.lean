/- KeyKnown: the walk and the examples together. -/
import Derived.Test.YthafpbidfgmacaaDoorN7k
import Derived.Test.YthafpbidfgmacaaDoorQrillbedlaw06KeyKnown
namespace Go.Proofs.YthafpbidfgmacaaDoor.Q
open Go.RowKit Go.Proofs.YthafpbidfgmacaaDoorW.PrintWords Go.Proofs.YthafpbidfgmacaaDoorW.PrintLast Go.Proofs.YthafpbidfgmacaaDoorW.PrintMore
set_option linter.unusedVariables false

theorem keyKnownWalk (W : World) : Calls Tryd.prog 4 #[] W fun e w' => e = .returned (.bool true) ∧ Below W.heap.size W w' := rillbedlaw06_KeyKnown.calls 60 W known_ok
end Go.Proofs.YthafpbidfgmacaaDoor.Q
