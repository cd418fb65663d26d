/- KeyKnown's plain statement: the chapter's examples. -/
import Derived.Test.YthafpbidfgmacaaDoorQKnownF
namespace Go.Proofs.YthafpbidfgmacaaDoor.Q
open Go.RowKit Go.Proofs.YthafpbidfgmacaaDoorW.PrintWords Go.Proofs.YthafpbidfgmacaaDoorW.PrintLast Go.Proofs.YthafpbidfgmacaaDoorW.PrintMore
set_option linter.unusedVariables false

theorem known_ok : rillbedlaw06_KeyKnown.f 60 = some true := by decide +kernel
end Go.Proofs.YthafpbidfgmacaaDoor.Q
