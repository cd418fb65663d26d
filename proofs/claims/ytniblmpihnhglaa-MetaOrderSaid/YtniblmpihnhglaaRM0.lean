-- Printed by a copy of the print program over stub bodies; what stood in the stubs' place is hand-made (post.py)
import Derived.Test.YtniblmpihnhglaaProg
import Derived.Below
import Derived.Deep.Draws
import Derived.Deep.AppendLies
import Derived.Maps.AppendAt
import Derived.OwnWalk
import Derived.Laws.BytesArg
import Derived.Laws.MakeOwn
import Derived.Laws.OwnMore
import Derived.Deep.OwnRows
import Derived.Tactics
import Derived.Lib.ConvBytes
import Derived.Laws.Slices
import Derived.WalkKit
import Derived.KernelRfl
import Derived.RowKit3
import Derived.Deep.LoopGhost
import Derived.Deep.QuietTactic
import Derived.BigQuiet
import Derived.WideLaws
import Derived.Deep.DeepCutAuto
import Derived.Deep.CutBlock
import Derived.Deep.RegionHeld3
import Derived.Laws.Rows
import Derived.Lib.AppendStr
import Derived.ArgAppend
import Derived.Laws.IdiomCopy
import Derived.OrdersHeld
import Derived.Laws.BitsLemmas
import Derived.RowKit
import Derived.Test.YtniblmpihnhglaaWWords
import Derived.Test.YtniblmpihnhglaaWLast
import Derived.Test.YtniblmpihnhglaaWTab
import Derived.Test.YtniblmpihnhglaaWFour
import Derived.Test.YtniblmpihnhglaaWQPut
import Derived.Test.YtniblmpihnhglaaWApart
import Derived.Test.YtniblmpihnhglaaWArr
import Derived.Test.YtniblmpihnhglaaWZeros
import Derived.Test.YtniblmpihnhglaaWFoot
import Derived.Test.YtniblmpihnhglaaWKept
import Derived.Test.YtniblmpihnhglaaWShare
import Derived.Test.YtniblmpihnhglaaWN
import Derived.Test.YtniblmpihnhglaaWFootNe
import Derived.Test.YtniblmpihnhglaaWAt
import Derived.Test.YtniblmpihnhglaaWEqStruct
import Derived.Test.YtniblmpihnhglaaWRepsOne
import Derived.Test.YtniblmpihnhglaaWInv
import Derived.Test.YtniblmpihnhglaaWInvWords
import Derived.Test.YtniblmpihnhglaaWGuard
import Derived.Test.YtniblmpihnhglaaWNEv
import Derived.Test.YtniblmpihnhglaaWMore
import Derived.Test.YtniblmpihnhglaaWSized
namespace Go.Proofs.Ytniblmpihnhglaa.Q
open Go.RowKit Go.Proofs.YtniblmpihnhglaaW.PrintWords Go.Proofs.YtniblmpihnhglaaW.PrintLast Go.Proofs.YtniblmpihnhglaaW.PrintMore
attribute [local go_sem] max2_int min2_int max_two min_two max_three min_three max_four min_four   -- for this text's walks alone
set_option linter.unusedVariables false
set_option linter.unusedSimpArgs false

theorem szl1 (a : UInt8) : (⟨#[a]⟩ : ByteArray).size = 1 := rfl
theorem szl2 (a b : UInt8) : (⟨#[a, b]⟩ : ByteArray).size = 2 := rfl
theorem szl3 (a b c : UInt8) : (⟨#[a, b, c]⟩ : ByteArray).size = 3 := rfl
theorem szl4 (a b c d : UInt8) : (⟨#[a, b, c, d]⟩ : ByteArray).size = 4 := rfl



def errW : Option Int → Value
  | none => .nilIface
  | some c => .iface 0 (.int .i64 c)
theorem errW_none : errW none = .nilIface := rfl
theorem errW_some (c : Int) : errW (some c) = .iface 0 (.int .i64 c) := rfl

-- the values' own types



theorem eqA85 (d : Nat) (w : World) (x0 y0 : Int) (x1 y1 : Int) (x2 y2 : Int) (x3 y3 : Int) :
    (Op.equalIn (d + 2) 85 (.agg #[.int .u8 x0, .int .u32 x1, .int .u64 x2, .int .u64 x3]) (.agg #[.int .u8 y0, .int .u32 y1, .int .u64 y2, .int .u64 y3])).run Try.prog w = .ok (x0 == y0 && (x1 == y1 && (x2 == y2 && (x3 == y3)))) w := by
  refine eqA_of Try.underlying85 (by kernel_rfl) ?_
  refine eqf_cons (by rfl) (by go_simp; rfl) (by go_simp; rfl) (by go_simp) ?_
  refine eqf_cons (by rfl) (by go_simp; rfl) (by go_simp; rfl) (by go_simp) ?_
  refine eqf_cons (by rfl) (by go_simp; rfl) (by go_simp; rfl) (by go_simp) ?_
  exact eqf_last (by rfl) (by go_simp; rfl) (by go_simp; rfl) (by go_simp)


attribute [local go_sem high] eqA85
end Go.Proofs.Ytniblmpihnhglaa.Q
