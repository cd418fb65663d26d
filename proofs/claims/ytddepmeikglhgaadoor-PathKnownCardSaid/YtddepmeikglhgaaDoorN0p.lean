/- The chapter's answers that each statement asks: they hold. -/
import Derived.Test.YtddepmeikglhgaaDoorRD
namespace Go.Proofs.YtddepmeikglhgaaDoor.Q
open Go.RowKit Go.Proofs.YtddepmeikglhgaaDoorW.PrintWords Go.Proofs.YtddepmeikglhgaaDoorW.PrintLast Go.Proofs.YtddepmeikglhgaaDoorW.PrintMore
theorem awake_ok : rillbedlaw05_awake.f 12 = some true := by decide +kernel
theorem awake_is (k : Nat) (hk : 12 ≤ k) : rillbedlaw05_awake.f k = some true := at_rounds (g := fun k => rillbedlaw05_awake.f k) (fun k => rillbedlaw05_awake.mono k) hk awake_ok
end Go.Proofs.YtddepmeikglhgaaDoor.Q
