-- Printed by a copy of the print program over stub bodies; what stood in the stubs' place is hand-made (post.py)
import Derived.Test.YtddepmeikglhgaaDoorProg
import Derived.Below
import Derived.Deep.Draws
import Derived.Deep.AppendLies
import Derived.Maps.AppendAt
import Derived.OwnWalk
import Derived.Laws.BytesArg
import Derived.Laws.MakeOwn
import Derived.Laws.OwnMore
import Derived.Deep.OwnRows
import Derived.Tactics
import Derived.Lib.ConvBytes
import Derived.Laws.Slices
import Derived.WalkKit
import Derived.KernelRfl
import Derived.RowKit3
import Derived.Deep.LoopGhost
import Derived.Deep.QuietTactic
import Derived.BigQuiet
import Derived.WideLaws
import Derived.Deep.DeepCutAuto
import Derived.Deep.CutBlock
import Derived.Deep.RegionHeld3
import Derived.Laws.Rows
import Derived.Lib.AppendStr
import Derived.ArgAppend
import Derived.Laws.IdiomCopy
import Derived.OrdersHeld
import Derived.Laws.BitsLemmas
import Derived.RowKit
import Derived.Test.YtddepmeikglhgaaDoorWWords
import Derived.Test.YtddepmeikglhgaaDoorWLast
import Derived.Test.YtddepmeikglhgaaDoorWTab
import Derived.Test.YtddepmeikglhgaaDoorWFour
import Derived.Test.YtddepmeikglhgaaDoorWQPut
import Derived.Test.YtddepmeikglhgaaDoorWApart
import Derived.Test.YtddepmeikglhgaaDoorWArr
import Derived.Test.YtddepmeikglhgaaDoorWZeros
import Derived.Test.YtddepmeikglhgaaDoorWFoot
import Derived.Test.YtddepmeikglhgaaDoorWKept
import Derived.Test.YtddepmeikglhgaaDoorWShare
import Derived.Test.YtddepmeikglhgaaDoorWN
import Derived.Test.YtddepmeikglhgaaDoorWFootNe
import Derived.Test.YtddepmeikglhgaaDoorWAt
import Derived.Test.YtddepmeikglhgaaDoorWEqStruct
import Derived.Test.YtddepmeikglhgaaDoorWRepsOne
import Derived.Test.YtddepmeikglhgaaDoorWInv
import Derived.Test.YtddepmeikglhgaaDoorWInvWords
import Derived.Test.YtddepmeikglhgaaDoorWGuard
import Derived.Test.YtddepmeikglhgaaDoorWNEv
import Derived.Test.YtddepmeikglhgaaDoorWMore
import Derived.Test.YtddepmeikglhgaaDoorWSized
namespace Go.Proofs.YtddepmeikglhgaaDoor.Q
open Go.RowKit Go.Proofs.YtddepmeikglhgaaDoorW.PrintWords Go.Proofs.YtddepmeikglhgaaDoorW.PrintLast Go.Proofs.YtddepmeikglhgaaDoorW.PrintMore
attribute [local go_sem] max2_int min2_int max_two min_two max_three min_three max_four min_four   -- for this text's walks alone
set_option linter.unusedVariables false
set_option linter.unusedSimpArgs false

theorem szl1 (a : UInt8) : (⟨#[a]⟩ : ByteArray).size = 1 := rfl
theorem szl2 (a b : UInt8) : (⟨#[a, b]⟩ : ByteArray).size = 2 := rfl
theorem szl3 (a b c : UInt8) : (⟨#[a, b, c]⟩ : ByteArray).size = 3 := rfl
theorem szl4 (a b c d : UInt8) : (⟨#[a, b, c, d]⟩ : ByteArray).size = 4 := rfl



def errW : Option Int → Value
  | none => .nilIface
  | some c => .iface 0 (.int .i64 c)
theorem errW_none : errW none = .nilIface := rfl
theorem errW_some (c : Int) : errW (some c) = .iface 0 (.int .i64 c) := rfl

theorem info9 : (Tryd.prog.info? 9).map (fun i => (i.zero, i.size, i.bytes)) = some (some (.string ⟨#[]⟩), 1, 16) := by kernel_rfl
-- the values' own types

end Go.Proofs.YtddepmeikglhgaaDoor.Q
