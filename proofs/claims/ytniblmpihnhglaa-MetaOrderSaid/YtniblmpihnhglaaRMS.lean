-- Printed by a copy of the print program over stub bodies; what stood in the stubs' place is hand-made (post.py)
import Derived.Test.YtniblmpihnhglaaEB
import Derived.Test.YtniblmpihnhglaaRM0
namespace Go.Proofs.Ytniblmpihnhglaa.Q
open Go.RowKit Go.Proofs.YtniblmpihnhglaaW.PrintWords Go.Proofs.YtniblmpihnhglaaW.PrintLast Go.Proofs.YtniblmpihnhglaaW.PrintMore
attribute [local go_sem] max2_int min2_int max_two min_two max_three min_three max_four min_four   -- for this text's walks alone
set_option linter.unusedVariables false
set_option linter.unusedSimpArgs false

/-! ### rillbedlaw07_awake: function 39 -/
def rillbedlaw07_awake.f  : Option (Bool) := some true
theorem rillbedlaw07_awake.calls  (r : Bool) (w : World) (h : rillbedlaw07_awake.f  = some r) :
    Calls Try.prog 39 #[] w fun e w' => e = .returned (.bool r) ∧ Below w.heap.size w w' := awake_calls r w h

/-! ### meta_Apply: function 45 -/
def meta_Apply.f (a0_0 : Int) (a0_1 : Int) (a0_2 : Int) (a0_3 : Int) (a1_0 : Int) (a1_1 : Int) (a1_2 : Int) (a1_3 : Int) : Option (Int × Int × Int × Int) := applyF a0_0 a0_1 a0_2 a0_3 a1_0 a1_1 a1_2 a1_3
theorem meta_Apply.calls (a0_0 : Int) (a0_1 : Int) (a0_2 : Int) (a0_3 : Int) (a1_0 : Int) (a1_1 : Int) (a1_2 : Int) (a1_3 : Int) (r1 : Int) (r2 : Int) (r3 : Int) (r4 : Int) (w : World) (h : meta_Apply.f a0_0 a0_1 a0_2 a0_3 a1_0 a1_1 a1_2 a1_3 = some (r1, r2, r3, r4)) :
    Calls Try.prog 45 #[.agg #[.int .u8 a0_0, .int .u32 a0_1, .int .u64 a0_2, .int .u64 a0_3], .agg #[.int .u8 a1_0, .int .u64 a1_1, .int .u8 a1_2, .int .u64 a1_3]] w fun e w' => e = .returned (.agg #[.int .u8 r1, .int .u32 r2, .int .u64 r3, .int .u64 r4]) ∧ Below w.heap.size w w' := apply_calls _ _ _ _ _ _ _ _ r1 r2 r3 r4 w h

/-! ### meta_Check: function 47 -/
def meta_Check.f (a0_0 : Int) (a0_1 : Int) (a0_2 : Int) (a0_3 : Int) : Option (Int) := checkF a0_0 a0_1 a0_2 a0_3
theorem meta_Check.calls (a0_0 : Int) (a0_1 : Int) (a0_2 : Int) (a0_3 : Int) (r : Int) (w : World) (h : meta_Check.f a0_0 a0_1 a0_2 a0_3 = some r) :
    Calls Try.prog 47 #[.agg #[.int .u8 a0_0, .int .u32 a0_1, .int .u64 a0_2, .int .u64 a0_3]] w fun e w' => e = .returned (.int .i64 r) ∧ Below w.heap.size w w' := check_calls _ _ _ _ r w h

/-! ### rillbedlaw07_part: function 48 -/
def rillbedlaw07_part.f (a0_0 : Int) (a0_1 : Int) (a0_2 : Int) (a0_3 : Int) : Option (Int) := partF a0_0 a0_1 a0_2 a0_3
theorem rillbedlaw07_part.calls (a0_0 : Int) (a0_1 : Int) (a0_2 : Int) (a0_3 : Int) (r : Int) (w : World) (h : rillbedlaw07_part.f a0_0 a0_1 a0_2 a0_3 = some r) :
    Calls Try.prog 48 #[.agg #[.int .u8 a0_0, .int .u64 a0_1, .int .u8 a0_2, .int .u64 a0_3]] w fun e w' => e = .returned (.int .i64 r) ∧ Below w.heap.size w w' := part_calls _ _ _ _ r w h

end Go.Proofs.Ytniblmpihnhglaa.Q
