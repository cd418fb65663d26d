-- Printed by a copy of the print program over stub bodies; what stood in the stubs' place is hand-made (post.py)
import Derived.Test.YthafpbidfgmacaaDoorProg
import Derived.Below
import Derived.Deep.Draws
import Derived.Deep.AppendLies
import Derived.Maps.AppendAt
import Derived.OwnWalk
import Derived.Laws.BytesArg
import Derived.Laws.MakeOwn
import Derived.Laws.OwnMore
import Derived.Deep.OwnRows
import Derived.Tactics
import Derived.Lib.ConvBytes
import Derived.Laws.Slices
import Derived.WalkKit
import Derived.KernelRfl
import Derived.RowKit3
import Derived.Deep.LoopGhost
import Derived.Deep.QuietTactic
import Derived.BigQuiet
import Derived.WideLaws
import Derived.Deep.DeepCutAuto
import Derived.Deep.CutBlock
import Derived.Deep.RegionHeld3
import Derived.Laws.Rows
import Derived.Lib.AppendStr
import Derived.ArgAppend
import Derived.Laws.IdiomCopy
import Derived.OrdersHeld
import Derived.Laws.BitsLemmas
import Derived.RowKit
import Derived.Test.YthafpbidfgmacaaDoorWWords
import Derived.Test.YthafpbidfgmacaaDoorWLast
import Derived.Test.YthafpbidfgmacaaDoorWTab
import Derived.Test.YthafpbidfgmacaaDoorWFour
import Derived.Test.YthafpbidfgmacaaDoorWQPut
import Derived.Test.YthafpbidfgmacaaDoorWApart
import Derived.Test.YthafpbidfgmacaaDoorWArr
import Derived.Test.YthafpbidfgmacaaDoorWZeros
import Derived.Test.YthafpbidfgmacaaDoorWFoot
import Derived.Test.YthafpbidfgmacaaDoorWKept
import Derived.Test.YthafpbidfgmacaaDoorWShare
import Derived.Test.YthafpbidfgmacaaDoorWN
import Derived.Test.YthafpbidfgmacaaDoorWFootNe
import Derived.Test.YthafpbidfgmacaaDoorWAt
import Derived.Test.YthafpbidfgmacaaDoorWEqStruct
import Derived.Test.YthafpbidfgmacaaDoorWRepsOne
import Derived.Test.YthafpbidfgmacaaDoorWInv
import Derived.Test.YthafpbidfgmacaaDoorWInvWords
import Derived.Test.YthafpbidfgmacaaDoorWGuard
import Derived.Test.YthafpbidfgmacaaDoorWNEv
import Derived.Test.YthafpbidfgmacaaDoorWMore
import Derived.Test.YthafpbidfgmacaaDoorWSized
namespace Go.Proofs.YthafpbidfgmacaaDoor.Q
open Go.RowKit Go.Proofs.YthafpbidfgmacaaDoorW.PrintWords Go.Proofs.YthafpbidfgmacaaDoorW.PrintLast Go.Proofs.YthafpbidfgmacaaDoorW.PrintMore
attribute [local go_sem] max2_int min2_int max_two min_two max_three min_three max_four min_four   -- for this text's walks alone
set_option linter.unusedVariables false
set_option linter.unusedSimpArgs false

theorem szl1 (a : UInt8) : (⟨#[a]⟩ : ByteArray).size = 1 := rfl
theorem szl2 (a b : UInt8) : (⟨#[a, b]⟩ : ByteArray).size = 2 := rfl
theorem szl3 (a b c : UInt8) : (⟨#[a, b, c]⟩ : ByteArray).size = 3 := rfl
theorem szl4 (a b c d : UInt8) : (⟨#[a, b, c, d]⟩ : ByteArray).size = 4 := rfl



def errW : Option Int → Value
  | none => .nilIface
  | some c => .iface 0 (.int .i64 c)
theorem errW_none : errW none = .nilIface := rfl
theorem errW_some (c : Int) : errW (some c) = .iface 0 (.int .i64 c) := rfl

theorem info5 : (Tryd.prog.info? 5).map (fun i => (i.zero, i.size, i.bytes)) = some (some (.int .u8 0), 1, 1) := by kernel_rfl
theorem info9 : (Tryd.prog.info? 9).map (fun i => (i.zero, i.size, i.bytes)) = some (some (.string ⟨#[]⟩), 1, 16) := by kernel_rfl
-- the values' own types



theorem eqA49 (d : Nat) (w : World) (x0 y0 : ByteArray) (x1 y1 : ByteArray) :
    (Op.equalIn (d + 2) 49 (.agg #[.string x0, .string x1]) (.agg #[.string y0, .string y1])).run Tryd.prog w = .ok (x0.toList == y0.toList && (x1.toList == y1.toList)) w := by
  refine eqA_of Tryd.underlying49 (by kernel_rfl) ?_
  refine eqf_cons (by rfl) (by go_simp; rfl) (by go_simp; rfl) (by go_simp) ?_
  exact eqf_last (by rfl) (by go_simp; rfl) (by go_simp; rfl) (by go_simp)


attribute [local go_sem high] eqA49


attribute [local go_sem high] eqA49
end Go.Proofs.YthafpbidfgmacaaDoor.Q
