import Derived.Test.YthafpbidfgmacaaDoorQrillbedlaw06works
namespace Go.Proofs.YthafpbidfgmacaaDoor.Q
open Go.RowKit Go.Proofs.YthafpbidfgmacaaDoorW.PrintWords Go.Proofs.YthafpbidfgmacaaDoorW.PrintLast Go.Proofs.YthafpbidfgmacaaDoorW.PrintMore
theorem works_ok : rillbedlaw06_works.f 12 = some true := by decide +kernel
end Go.Proofs.YthafpbidfgmacaaDoor.Q
