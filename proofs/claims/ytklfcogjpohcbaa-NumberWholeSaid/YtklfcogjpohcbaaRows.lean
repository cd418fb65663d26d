/-
  No cell of these rows narrows 'for every input' (looked for: loops, veiled, ifaces, maps, wideKeys, modest, calm, conditions, laid).
  DERIVED. THE GIVEN ROWS OF THIS SEAT. 7 by the template 'for every input the law returns true; each argument reads behind the call as it read before'; 0 by the template 'total and deterministic' (their statements: YtklfcogjpohcbaaTotals.lean).
  GIVEN WITH THE SEED: the statements are not yours to turn. If you find one false, say at which input.
  Laid BY PROGRAM, IN A SANDBOX (cutbox-rows.mjs): the forced cells as the released guide's own fill.sh prints them over the translation c791d7014d75a617… (all of the seat's roots in one cut). By AI agents, Wed Nov 11 2026. No macro, syntax, notation, axiom, sorry.
-/
import Derived.Test.YtklfcogjpohcbaaChecked
import GoSem.Claim
import GoSem.ClaimJoined
import GoSem.ClaimMapViews
import Derived.JoinedTies
import Derived.KernelRfl
namespace Go.Proofs.Ytklfcogjpohcbaa
/- THE CELL 'sum', in the pinned program and in every row, IS THE sha256 OF THE DUMP (.gsa) THAT YtklfcogjpohcbaaProg.lean LOADS. Nothing in Lean hashes anything: it is a label: what it is worth is what the hold of that sum in a sandbox is worth. -/
noncomputable def Try.pinned : Pinned := { name := "ytklfcogjpohcbaa", sum := "c791d7014d75a61796b4b49a28ea93bd4d0822e68616fab5713c2cb085aecfe3", checked := Try.checked }
namespace Rows
def none {H : Type} : Left H := { results := [], args := [] }

/-- 'rillbedlaw01.NumberOrders': WHATEVER THE INPUT: true; the input reads as it did. -/
def numberOrdersSpec : ChangeSpec := { name := "numberOrders", fn := fun _ => fun
  | [d] => { results := [.lit (.bool true)], args := [d] }
  | _ => none }
def numberOrdersRow : OpenClaim := { program := "ytklfcogjpohcbaa", sum := "c791d7014d75a61796b4b49a28ea93bd4d0822e68616fab5713c2cb085aecfe3", func := "rillbed/rillbedlaw01.NumberOrders", spec := "numberOrders", inPlace := ["math.Float64frombits", "math.Float64bits"], unfollowed := true, recurses := true, apart := false }
def NumberOrdersSaid : Prop := numberOrdersRow.holds Try.pinned (OpenSpec.ofChange numberOrdersSpec)

/-- ITS FALSE NEIGHBOUR: 'it returns false'. Refute it at one input. -/
def numberOrdersWrong : ChangeSpec := { name := "numberOrders", fn := fun _ => fun
  | [d] => { results := [.lit (.bool false)], args := [d] }
  | _ => none }
def NumberOrdersWrongFalsely : Prop := numberOrdersRow.holds Try.pinned (OpenSpec.ofChange numberOrdersWrong)

/-- 'rillbedlaw01.NumberSames': WHATEVER THE INPUT: true; the input reads as it did. -/
def numberSamesSpec : ChangeSpec := { name := "numberSames", fn := fun _ => fun
  | [d1, d2] => { results := [.lit (.bool true)], args := [d1, d2] }
  | _ => none }
def numberSamesRow : OpenClaim := { program := "ytklfcogjpohcbaa", sum := "c791d7014d75a61796b4b49a28ea93bd4d0822e68616fab5713c2cb085aecfe3", func := "rillbed/rillbedlaw01.NumberSames", spec := "numberSames", inPlace := ["math.Float64frombits", "math.Float64bits"], unfollowed := true, recurses := true, apart := false }
def NumberSamesSaid : Prop := numberSamesRow.holds Try.pinned (OpenSpec.ofChange numberSamesSpec)

/-- ITS FALSE NEIGHBOUR: 'it returns false'. Refute it at one input. -/
def numberSamesWrong : ChangeSpec := { name := "numberSames", fn := fun _ => fun
  | [d1, d2] => { results := [.lit (.bool false)], args := [d1, d2] }
  | _ => none }
def NumberSamesWrongFalsely : Prop := numberSamesRow.holds Try.pinned (OpenSpec.ofChange numberSamesWrong)

/-- 'rillbedlaw01.NumberSteps': WHATEVER THE INPUT: true; the input reads as it did. -/
def numberStepsSpec : ChangeSpec := { name := "numberSteps", fn := fun _ => fun
  | [d1, d2] => { results := [.lit (.bool true)], args := [d1, d2] }
  | _ => none }
def numberStepsRow : OpenClaim := { program := "ytklfcogjpohcbaa", sum := "c791d7014d75a61796b4b49a28ea93bd4d0822e68616fab5713c2cb085aecfe3", func := "rillbed/rillbedlaw01.NumberSteps", spec := "numberSteps", inPlace := ["math.Float64frombits", "math.Float64bits"], unfollowed := true, recurses := true, apart := false }
def NumberStepsSaid : Prop := numberStepsRow.holds Try.pinned (OpenSpec.ofChange numberStepsSpec)

/-- ITS FALSE NEIGHBOUR: 'it returns false'. Refute it at one input. -/
def numberStepsWrong : ChangeSpec := { name := "numberSteps", fn := fun _ => fun
  | [d1, d2] => { results := [.lit (.bool false)], args := [d1, d2] }
  | _ => none }
def NumberStepsWrongFalsely : Prop := numberStepsRow.holds Try.pinned (OpenSpec.ofChange numberStepsWrong)

/-- 'rillbedlaw01.NumberKnown': WHATEVER THE INPUT: true; the input reads as it did. -/
def numberKnownSpec : ChangeSpec := { name := "numberKnown", fn := fun _ => fun
  | [] => { results := [.lit (.bool true)], args := [] }
  | _ => none }
def numberKnownRow : OpenClaim := { program := "ytklfcogjpohcbaa", sum := "c791d7014d75a61796b4b49a28ea93bd4d0822e68616fab5713c2cb085aecfe3", func := "rillbed/rillbedlaw01.NumberKnown", spec := "numberKnown", inPlace := ["math.Float64frombits", "math.Float64bits"], unfollowed := true, recurses := true, apart := false }
def NumberKnownSaid : Prop := numberKnownRow.holds Try.pinned (OpenSpec.ofChange numberKnownSpec)

/-- ITS FALSE NEIGHBOUR: 'it returns false'. Refute it at one input. -/
def numberKnownWrong : ChangeSpec := { name := "numberKnown", fn := fun _ => fun
  | [] => { results := [.lit (.bool false)], args := [] }
  | _ => none }
def NumberKnownWrongFalsely : Prop := numberKnownRow.holds Try.pinned (OpenSpec.ofChange numberKnownWrong)

/-- 'rillbedlaw01.NumberSorts': WHATEVER THE INPUT: true; the input reads as it did. -/
def numberSortsSpec : ChangeSpec := { name := "numberSorts", fn := fun _ => fun
  | [d1, d2] => { results := [.lit (.bool true)], args := [d1, d2] }
  | _ => none }
def numberSortsRow : OpenClaim := { program := "ytklfcogjpohcbaa", sum := "c791d7014d75a61796b4b49a28ea93bd4d0822e68616fab5713c2cb085aecfe3", func := "rillbed/rillbedlaw01.NumberSorts", spec := "numberSorts", inPlace := ["math.Float64frombits", "math.Float64bits"], unfollowed := true, recurses := true, apart := false }
def NumberSortsSaid : Prop := numberSortsRow.holds Try.pinned (OpenSpec.ofChange numberSortsSpec)

/-- ITS FALSE NEIGHBOUR: 'it returns false'. Refute it at one input. -/
def numberSortsWrong : ChangeSpec := { name := "numberSorts", fn := fun _ => fun
  | [d1, d2] => { results := [.lit (.bool false)], args := [d1, d2] }
  | _ => none }
def NumberSortsWrongFalsely : Prop := numberSortsRow.holds Try.pinned (OpenSpec.ofChange numberSortsWrong)

/-- 'rillbedlaw01.NumberTurns': WHATEVER THE INPUT: true; the input reads as it did. -/
def numberTurnsSpec : ChangeSpec := { name := "numberTurns", fn := fun _ => fun
  | [d1, d2, d3] => { results := [.lit (.bool true)], args := [d1, d2, d3] }
  | _ => none }
def numberTurnsRow : OpenClaim := { program := "ytklfcogjpohcbaa", sum := "c791d7014d75a61796b4b49a28ea93bd4d0822e68616fab5713c2cb085aecfe3", func := "rillbed/rillbedlaw01.NumberTurns", spec := "numberTurns", inPlace := ["math.Float64frombits", "math.Float64bits"], unfollowed := true, recurses := true, apart := false }
def NumberTurnsSaid : Prop := numberTurnsRow.holds Try.pinned (OpenSpec.ofChange numberTurnsSpec)

/-- ITS FALSE NEIGHBOUR: 'it returns false'. Refute it at one input. -/
def numberTurnsWrong : ChangeSpec := { name := "numberTurns", fn := fun _ => fun
  | [d1, d2, d3] => { results := [.lit (.bool false)], args := [d1, d2, d3] }
  | _ => none }
def NumberTurnsWrongFalsely : Prop := numberTurnsRow.holds Try.pinned (OpenSpec.ofChange numberTurnsWrong)

/-- 'rillbedlaw01.NumberWhole': WHATEVER THE INPUT: true; the input reads as it did. -/
def numberWholeSpec : ChangeSpec := { name := "numberWhole", fn := fun _ => fun
  | [d1, d2] => { results := [.lit (.bool true)], args := [d1, d2] }
  | _ => none }
def numberWholeRow : OpenClaim := { program := "ytklfcogjpohcbaa", sum := "c791d7014d75a61796b4b49a28ea93bd4d0822e68616fab5713c2cb085aecfe3", func := "rillbed/rillbedlaw01.NumberWhole", spec := "numberWhole", inPlace := ["math.Float64bits", "math.Float64frombits"], unfollowed := true, recurses := true, apart := false }
def NumberWholeSaid : Prop := numberWholeRow.holds Try.pinned (OpenSpec.ofChange numberWholeSpec)

/-- ITS FALSE NEIGHBOUR: 'it returns false'. Refute it at one input. -/
def numberWholeWrong : ChangeSpec := { name := "numberWhole", fn := fun _ => fun
  | [d1, d2] => { results := [.lit (.bool false)], args := [d1, d2] }
  | _ => none }
def NumberWholeWrongFalsely : Prop := numberWholeRow.holds Try.pinned (OpenSpec.ofChange numberWholeWrong)

/- THE SECOND FORM. 'bulk': how many values and letters a reading holds, each counted each time it is reached (what is shared counts as often as it is met; a slice's spare places count too). A statement '..UptoSaid' is the law's where the arguments, and the package variables that the reading takes, are together of bulk at most 1048576: NARROWER than '..Said'. Prove '..Said' where nothing that the law and all that it calls make is longer than what came in: it says more and counts as full. Else prove '..UptoSaid'. A law counts once. -/
mutual
def uptoBulk {H : Type} : DataW H → Nat
  | .lit (.string bytes) => bytes.length + 1
  | .lit _ => 1
  | .nil => 1
  | .ptr d => uptoBulk d + 1
  | .slice elems spare => uptoBulkAll elems + uptoBulkAll spare + 1
  | .agg parts => uptoBulkAll parts + 1
  | .iface _ d => uptoBulk d + 1
  | .map entries => uptoBulkEntries entries + 1
  | .held _ => 1
def uptoBulkAll {H : Type} : List (DataW H) → Nat
  | [] => 0
  | d :: r => uptoBulk d + uptoBulkAll r
def uptoBulkEntries {H : Type} : List (Lit × DataW H) → Nat
  | [] => 0
  | x :: r => uptoBulkEntry x + uptoBulkEntries r
def uptoBulkEntry {H : Type} : Lit × DataW H → Nat
  | (.string bytes, d) => bytes.length + uptoBulk d + 1
  | (_, d) => uptoBulk d + 1
 end
def uptoSmall : (H : Type) → List (DataW H) → Bool := fun _ ds => decide (uptoBulkAll ds ≤ 1048576)
def OpenSpec.upto (s : _root_.Go.ChangeSpec) : _root_.Go.OpenSpec := { _root_.Go.OpenSpec.ofChange s with cond := some uptoSmall }

/-- 'rillbedlaw01.NumberOrders', WHERE WHAT IT READS IS OF BULK AT MOST 1048576: true; the input reads as it did. -/
def numberOrdersUptoRow : OpenClaim := { program := "ytklfcogjpohcbaa", sum := "c791d7014d75a61796b4b49a28ea93bd4d0822e68616fab5713c2cb085aecfe3", func := "rillbed/rillbedlaw01.NumberOrders", spec := "numberOrders", inPlace := ["math.Float64frombits", "math.Float64bits"], unfollowed := true, recurses := true, apart := false, narrowed := true }
def NumberOrdersUptoSaid : Prop := numberOrdersUptoRow.holds Try.pinned (OpenSpec.upto numberOrdersSpec)

/-- 'rillbedlaw01.NumberSames', WHERE WHAT IT READS IS OF BULK AT MOST 1048576: true; the input reads as it did. -/
def numberSamesUptoRow : OpenClaim := { program := "ytklfcogjpohcbaa", sum := "c791d7014d75a61796b4b49a28ea93bd4d0822e68616fab5713c2cb085aecfe3", func := "rillbed/rillbedlaw01.NumberSames", spec := "numberSames", inPlace := ["math.Float64frombits", "math.Float64bits"], unfollowed := true, recurses := true, apart := false, narrowed := true }
def NumberSamesUptoSaid : Prop := numberSamesUptoRow.holds Try.pinned (OpenSpec.upto numberSamesSpec)

/-- 'rillbedlaw01.NumberSteps', WHERE WHAT IT READS IS OF BULK AT MOST 1048576: true; the input reads as it did. -/
def numberStepsUptoRow : OpenClaim := { program := "ytklfcogjpohcbaa", sum := "c791d7014d75a61796b4b49a28ea93bd4d0822e68616fab5713c2cb085aecfe3", func := "rillbed/rillbedlaw01.NumberSteps", spec := "numberSteps", inPlace := ["math.Float64frombits", "math.Float64bits"], unfollowed := true, recurses := true, apart := false, narrowed := true }
def NumberStepsUptoSaid : Prop := numberStepsUptoRow.holds Try.pinned (OpenSpec.upto numberStepsSpec)

/-- 'rillbedlaw01.NumberKnown', WHERE WHAT IT READS IS OF BULK AT MOST 1048576: true; the input reads as it did. -/
def numberKnownUptoRow : OpenClaim := { program := "ytklfcogjpohcbaa", sum := "c791d7014d75a61796b4b49a28ea93bd4d0822e68616fab5713c2cb085aecfe3", func := "rillbed/rillbedlaw01.NumberKnown", spec := "numberKnown", inPlace := ["math.Float64frombits", "math.Float64bits"], unfollowed := true, recurses := true, apart := false, narrowed := true }
def NumberKnownUptoSaid : Prop := numberKnownUptoRow.holds Try.pinned (OpenSpec.upto numberKnownSpec)

/-- 'rillbedlaw01.NumberSorts', WHERE WHAT IT READS IS OF BULK AT MOST 1048576: true; the input reads as it did. -/
def numberSortsUptoRow : OpenClaim := { program := "ytklfcogjpohcbaa", sum := "c791d7014d75a61796b4b49a28ea93bd4d0822e68616fab5713c2cb085aecfe3", func := "rillbed/rillbedlaw01.NumberSorts", spec := "numberSorts", inPlace := ["math.Float64frombits", "math.Float64bits"], unfollowed := true, recurses := true, apart := false, narrowed := true }
def NumberSortsUptoSaid : Prop := numberSortsUptoRow.holds Try.pinned (OpenSpec.upto numberSortsSpec)

/-- 'rillbedlaw01.NumberTurns', WHERE WHAT IT READS IS OF BULK AT MOST 1048576: true; the input reads as it did. -/
def numberTurnsUptoRow : OpenClaim := { program := "ytklfcogjpohcbaa", sum := "c791d7014d75a61796b4b49a28ea93bd4d0822e68616fab5713c2cb085aecfe3", func := "rillbed/rillbedlaw01.NumberTurns", spec := "numberTurns", inPlace := ["math.Float64frombits", "math.Float64bits"], unfollowed := true, recurses := true, apart := false, narrowed := true }
def NumberTurnsUptoSaid : Prop := numberTurnsUptoRow.holds Try.pinned (OpenSpec.upto numberTurnsSpec)

/-- 'rillbedlaw01.NumberWhole', WHERE WHAT IT READS IS OF BULK AT MOST 1048576: true; the input reads as it did. -/
def numberWholeUptoRow : OpenClaim := { program := "ytklfcogjpohcbaa", sum := "c791d7014d75a61796b4b49a28ea93bd4d0822e68616fab5713c2cb085aecfe3", func := "rillbed/rillbedlaw01.NumberWhole", spec := "numberWhole", inPlace := ["math.Float64bits", "math.Float64frombits"], unfollowed := true, recurses := true, apart := false, narrowed := true }
def NumberWholeUptoSaid : Prop := numberWholeUptoRow.holds Try.pinned (OpenSpec.upto numberWholeSpec)

end Rows
end Go.Proofs.Ytklfcogjpohcbaa
