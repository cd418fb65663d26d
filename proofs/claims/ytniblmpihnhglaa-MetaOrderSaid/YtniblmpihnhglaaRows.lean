/-
  No cell of these rows narrows 'for every input' (looked for: loops, veiled, ifaces, maps, wideKeys, modest, calm, conditions, laid).
  DERIVED. THE GIVEN ROWS OF THIS SEAT. 11 by the template 'for every input the law returns true; each argument reads behind the call as it read before'; 0 by the template 'total and deterministic' (their statements: YtniblmpihnhglaaTotals.lean).
  GIVEN WITH THE SEED: the statements are not yours to turn. If you find one false, say at which input.
  Laid BY PROGRAM, IN A SANDBOX (cutbox-rows.mjs): the forced cells as the released guide's own fill.sh prints them over the translation 13089def7c62933e… (all of the seat's roots in one cut). By AI agents, Wed Nov 11 2026. No macro, syntax, notation, axiom, sorry.
-/
import Derived.Test.YtniblmpihnhglaaChecked
import GoSem.Claim
import GoSem.ClaimJoined
import GoSem.ClaimMapViews
import Derived.JoinedTies
import Derived.KernelRfl
namespace Go.Proofs.Ytniblmpihnhglaa
/- THE CELL 'sum', in the pinned program and in every row, IS THE sha256 OF THE DUMP (.gsa) THAT YtniblmpihnhglaaProg.lean LOADS. Nothing in Lean hashes anything: it is a label: what it is worth is what the hold of that sum in a sandbox is worth. -/
noncomputable def Try.pinned : Pinned := { name := "ytniblmpihnhglaa", sum := "13089def7c62933ea4a81599b3f56868cbd3b2bc35bda9a52a6c6797c9b13932", checked := Try.checked }
namespace Rows
def none {H : Type} : Left H := { results := [], args := [] }

/-- 'rillbedlaw03.CodecWrites': WHATEVER THE INPUT: true; the input reads as it did. -/
def codecWritesSpec : ChangeSpec := { name := "codecWrites", fn := fun _ => fun
  | [d] => { results := [.lit (.bool true)], args := [d] }
  | _ => none }
def codecWritesRow : OpenClaim := { program := "ytniblmpihnhglaa", sum := "13089def7c62933ea4a81599b3f56868cbd3b2bc35bda9a52a6c6797c9b13932", func := "rillbed/rillbedlaw03.CodecWrites", spec := "codecWrites", apart := false }
def CodecWritesSaid : Prop := codecWritesRow.holds Try.pinned (OpenSpec.ofChange codecWritesSpec)

/-- ITS FALSE NEIGHBOUR: 'it returns false'. Refute it at one input. -/
def codecWritesWrong : ChangeSpec := { name := "codecWrites", fn := fun _ => fun
  | [d] => { results := [.lit (.bool false)], args := [d] }
  | _ => none }
def CodecWritesWrongFalsely : Prop := codecWritesRow.holds Try.pinned (OpenSpec.ofChange codecWritesWrong)

/-- 'rillbedlaw03.CodecReads': WHATEVER THE INPUT: true; the input reads as it did. -/
def codecReadsSpec : ChangeSpec := { name := "codecReads", fn := fun _ => fun
  | [d1, d2] => { results := [.lit (.bool true)], args := [d1, d2] }
  | _ => none }
def codecReadsRow : OpenClaim := { program := "ytniblmpihnhglaa", sum := "13089def7c62933ea4a81599b3f56868cbd3b2bc35bda9a52a6c6797c9b13932", func := "rillbed/rillbedlaw03.CodecReads", spec := "codecReads", apart := false }
def CodecReadsSaid : Prop := codecReadsRow.holds Try.pinned (OpenSpec.ofChange codecReadsSpec)

/-- ITS FALSE NEIGHBOUR: 'it returns false'. Refute it at one input. -/
def codecReadsWrong : ChangeSpec := { name := "codecReads", fn := fun _ => fun
  | [d1, d2] => { results := [.lit (.bool false)], args := [d1, d2] }
  | _ => none }
def CodecReadsWrongFalsely : Prop := codecReadsRow.holds Try.pinned (OpenSpec.ofChange codecReadsWrong)

/-- 'rillbedlaw03.CodecKnown': WHATEVER THE INPUT: true; the input reads as it did. -/
def codecKnownSpec : ChangeSpec := { name := "codecKnown", fn := fun _ => fun
  | [] => { results := [.lit (.bool true)], args := [] }
  | _ => none }
def codecKnownRow : OpenClaim := { program := "ytniblmpihnhglaa", sum := "13089def7c62933ea4a81599b3f56868cbd3b2bc35bda9a52a6c6797c9b13932", func := "rillbed/rillbedlaw03.CodecKnown", spec := "codecKnown", apart := false }
def CodecKnownSaid : Prop := codecKnownRow.holds Try.pinned (OpenSpec.ofChange codecKnownSpec)

/-- ITS FALSE NEIGHBOUR: 'it returns false'. Refute it at one input. -/
def codecKnownWrong : ChangeSpec := { name := "codecKnown", fn := fun _ => fun
  | [] => { results := [.lit (.bool false)], args := [] }
  | _ => none }
def CodecKnownWrongFalsely : Prop := codecKnownRow.holds Try.pinned (OpenSpec.ofChange codecKnownWrong)

/-- 'rillbedlaw03.CodecBack': WHATEVER THE INPUT: true; the input reads as it did. -/
def codecBackSpec : ChangeSpec := { name := "codecBack", fn := fun _ => fun
  | [d1, d2, d3] => { results := [.lit (.bool true)], args := [d1, d2, d3] }
  | _ => none }
def codecBackRow : OpenClaim := { program := "ytniblmpihnhglaa", sum := "13089def7c62933ea4a81599b3f56868cbd3b2bc35bda9a52a6c6797c9b13932", func := "rillbed/rillbedlaw03.CodecBack", spec := "codecBack", apart := false }
def CodecBackSaid : Prop := codecBackRow.holds Try.pinned (OpenSpec.ofChange codecBackSpec)

/-- ITS FALSE NEIGHBOUR: 'it returns false'. Refute it at one input. -/
def codecBackWrong : ChangeSpec := { name := "codecBack", fn := fun _ => fun
  | [d1, d2, d3] => { results := [.lit (.bool false)], args := [d1, d2, d3] }
  | _ => none }
def CodecBackWrongFalsely : Prop := codecBackRow.holds Try.pinned (OpenSpec.ofChange codecBackWrong)

/-- 'rillbedlaw03.CodecOne': WHATEVER THE INPUT: true; the input reads as it did. -/
def codecOneSpec : ChangeSpec := { name := "codecOne", fn := fun _ => fun
  | [d1, d2] => { results := [.lit (.bool true)], args := [d1, d2] }
  | _ => none }
def codecOneRow : OpenClaim := { program := "ytniblmpihnhglaa", sum := "13089def7c62933ea4a81599b3f56868cbd3b2bc35bda9a52a6c6797c9b13932", func := "rillbed/rillbedlaw03.CodecOne", spec := "codecOne", apart := false }
def CodecOneSaid : Prop := codecOneRow.holds Try.pinned (OpenSpec.ofChange codecOneSpec)

/-- ITS FALSE NEIGHBOUR: 'it returns false'. Refute it at one input. -/
def codecOneWrong : ChangeSpec := { name := "codecOne", fn := fun _ => fun
  | [d1, d2] => { results := [.lit (.bool false)], args := [d1, d2] }
  | _ => none }
def CodecOneWrongFalsely : Prop := codecOneRow.holds Try.pinned (OpenSpec.ofChange codecOneWrong)

/-- 'rillbedlaw07.MetaChanges': WHATEVER THE INPUT: true; the input reads as it did. -/
def metaChangesSpec : ChangeSpec := { name := "metaChanges", fn := fun _ => fun
  | [d1, d2] => { results := [.lit (.bool true)], args := [d1, d2] }
  | _ => none }
def metaChangesRow : OpenClaim := { program := "ytniblmpihnhglaa", sum := "13089def7c62933ea4a81599b3f56868cbd3b2bc35bda9a52a6c6797c9b13932", func := "rillbed/rillbedlaw07.MetaChanges", spec := "metaChanges", inPlace := ["math.Float64frombits", "math.Float64bits"], unfollowed := true, recurses := true, apart := false }
def MetaChangesSaid : Prop := metaChangesRow.holds Try.pinned (OpenSpec.ofChange metaChangesSpec)

/-- ITS FALSE NEIGHBOUR: 'it returns false'. Refute it at one input. -/
def metaChangesWrong : ChangeSpec := { name := "metaChanges", fn := fun _ => fun
  | [d1, d2] => { results := [.lit (.bool false)], args := [d1, d2] }
  | _ => none }
def MetaChangesWrongFalsely : Prop := metaChangesRow.holds Try.pinned (OpenSpec.ofChange metaChangesWrong)

/-- 'rillbedlaw07.MetaDoes': WHATEVER THE INPUT: true; the input reads as it did. -/
def metaDoesSpec : ChangeSpec := { name := "metaDoes", fn := fun _ => fun
  | [d1, d2] => { results := [.lit (.bool true)], args := [d1, d2] }
  | _ => none }
def metaDoesRow : OpenClaim := { program := "ytniblmpihnhglaa", sum := "13089def7c62933ea4a81599b3f56868cbd3b2bc35bda9a52a6c6797c9b13932", func := "rillbed/rillbedlaw07.MetaDoes", spec := "metaDoes", inPlace := ["math.Float64frombits", "math.Float64bits"], unfollowed := true, recurses := true, apart := false }
def MetaDoesSaid : Prop := metaDoesRow.holds Try.pinned (OpenSpec.ofChange metaDoesSpec)

/-- ITS FALSE NEIGHBOUR: 'it returns false'. Refute it at one input. -/
def metaDoesWrong : ChangeSpec := { name := "metaDoes", fn := fun _ => fun
  | [d1, d2] => { results := [.lit (.bool false)], args := [d1, d2] }
  | _ => none }
def MetaDoesWrongFalsely : Prop := metaDoesRow.holds Try.pinned (OpenSpec.ofChange metaDoesWrong)

/-- 'rillbedlaw07.MetaOrder': WHATEVER THE INPUT: true; the input reads as it did. -/
def metaOrderSpec : ChangeSpec := { name := "metaOrder", fn := fun _ => fun
  | [d1, d2, d3] => { results := [.lit (.bool true)], args := [d1, d2, d3] }
  | _ => none }
def metaOrderRow : OpenClaim := { program := "ytniblmpihnhglaa", sum := "13089def7c62933ea4a81599b3f56868cbd3b2bc35bda9a52a6c6797c9b13932", func := "rillbed/rillbedlaw07.MetaOrder", spec := "metaOrder", inPlace := ["math.Float64frombits", "math.Float64bits"], unfollowed := true, recurses := true, apart := false }
def MetaOrderSaid : Prop := metaOrderRow.holds Try.pinned (OpenSpec.ofChange metaOrderSpec)

/-- ITS FALSE NEIGHBOUR: 'it returns false'. Refute it at one input. -/
def metaOrderWrong : ChangeSpec := { name := "metaOrder", fn := fun _ => fun
  | [d1, d2, d3] => { results := [.lit (.bool false)], args := [d1, d2, d3] }
  | _ => none }
def MetaOrderWrongFalsely : Prop := metaOrderRow.holds Try.pinned (OpenSpec.ofChange metaOrderWrong)

/-- 'rillbedlaw07.MetaTexts': WHATEVER THE INPUT: true; the input reads as it did. -/
def metaTextsSpec : ChangeSpec := { name := "metaTexts", fn := fun _ => fun
  | [d1, d2] => { results := [.lit (.bool true)], args := [d1, d2] }
  | _ => none }
def metaTextsRow : OpenClaim := { program := "ytniblmpihnhglaa", sum := "13089def7c62933ea4a81599b3f56868cbd3b2bc35bda9a52a6c6797c9b13932", func := "rillbed/rillbedlaw07.MetaTexts", spec := "metaTexts", inPlace := ["math.Float64frombits", "math.Float64bits"], unfollowed := true, recurses := true, apart := false }
def MetaTextsSaid : Prop := metaTextsRow.holds Try.pinned (OpenSpec.ofChange metaTextsSpec)

/-- ITS FALSE NEIGHBOUR: 'it returns false'. Refute it at one input. -/
def metaTextsWrong : ChangeSpec := { name := "metaTexts", fn := fun _ => fun
  | [d1, d2] => { results := [.lit (.bool false)], args := [d1, d2] }
  | _ => none }
def MetaTextsWrongFalsely : Prop := metaTextsRow.holds Try.pinned (OpenSpec.ofChange metaTextsWrong)

/-- 'rillbedlaw07.MetaKnown': WHATEVER THE INPUT: true; the input reads as it did. -/
def metaKnownSpec : ChangeSpec := { name := "metaKnown", fn := fun _ => fun
  | [] => { results := [.lit (.bool true)], args := [] }
  | _ => none }
def metaKnownRow : OpenClaim := { program := "ytniblmpihnhglaa", sum := "13089def7c62933ea4a81599b3f56868cbd3b2bc35bda9a52a6c6797c9b13932", func := "rillbed/rillbedlaw07.MetaKnown", spec := "metaKnown", inPlace := ["math.Float64frombits", "math.Float64bits"], unfollowed := true, recurses := true, apart := false }
def MetaKnownSaid : Prop := metaKnownRow.holds Try.pinned (OpenSpec.ofChange metaKnownSpec)

/-- ITS FALSE NEIGHBOUR: 'it returns false'. Refute it at one input. -/
def metaKnownWrong : ChangeSpec := { name := "metaKnown", fn := fun _ => fun
  | [] => { results := [.lit (.bool false)], args := [] }
  | _ => none }
def MetaKnownWrongFalsely : Prop := metaKnownRow.holds Try.pinned (OpenSpec.ofChange metaKnownWrong)

/-- 'rillbedlaw07.MetaBack': WHATEVER THE INPUT: true; the input reads as it did. -/
def metaBackSpec : ChangeSpec := { name := "metaBack", fn := fun _ => fun
  | [d1, d2, d3] => { results := [.lit (.bool true)], args := [d1, d2, d3] }
  | _ => none }
def metaBackRow : OpenClaim := { program := "ytniblmpihnhglaa", sum := "13089def7c62933ea4a81599b3f56868cbd3b2bc35bda9a52a6c6797c9b13932", func := "rillbed/rillbedlaw07.MetaBack", spec := "metaBack", inPlace := ["math.Float64frombits", "math.Float64bits"], unfollowed := true, recurses := true, apart := false }
def MetaBackSaid : Prop := metaBackRow.holds Try.pinned (OpenSpec.ofChange metaBackSpec)

/-- ITS FALSE NEIGHBOUR: 'it returns false'. Refute it at one input. -/
def metaBackWrong : ChangeSpec := { name := "metaBack", fn := fun _ => fun
  | [d1, d2, d3] => { results := [.lit (.bool false)], args := [d1, d2, d3] }
  | _ => none }
def MetaBackWrongFalsely : Prop := metaBackRow.holds Try.pinned (OpenSpec.ofChange metaBackWrong)

/- THE SECOND FORM. 'bulk': how many values and letters a reading holds, each counted each time it is reached (what is shared counts as often as it is met; a slice's spare places count too). A statement '..UptoSaid' is the law's where the arguments, and the package variables that the reading takes, are together of bulk at most 1048576: NARROWER than '..Said'. Prove '..Said' where nothing that the law and all that it calls make is longer than what came in: it says more and counts as full. Else prove '..UptoSaid'. A law counts once. -/
mutual
def uptoBulk {H : Type} : DataW H → Nat
  | .lit (.string bytes) => bytes.length + 1
  | .lit _ => 1
  | .nil => 1
  | .ptr d => uptoBulk d + 1
  | .slice elems spare => uptoBulkAll elems + uptoBulkAll spare + 1
  | .agg parts => uptoBulkAll parts + 1
  | .iface _ d => uptoBulk d + 1
  | .map entries => uptoBulkEntries entries + 1
  | .held _ => 1
def uptoBulkAll {H : Type} : List (DataW H) → Nat
  | [] => 0
  | d :: r => uptoBulk d + uptoBulkAll r
def uptoBulkEntries {H : Type} : List (Lit × DataW H) → Nat
  | [] => 0
  | x :: r => uptoBulkEntry x + uptoBulkEntries r
def uptoBulkEntry {H : Type} : Lit × DataW H → Nat
  | (.string bytes, d) => bytes.length + uptoBulk d + 1
  | (_, d) => uptoBulk d + 1
 end
def uptoSmall : (H : Type) → List (DataW H) → Bool := fun _ ds => decide (uptoBulkAll ds ≤ 1048576)
def OpenSpec.upto (s : _root_.Go.ChangeSpec) : _root_.Go.OpenSpec := { _root_.Go.OpenSpec.ofChange s with cond := some uptoSmall }

/-- 'rillbedlaw03.CodecWrites', WHERE WHAT IT READS IS OF BULK AT MOST 1048576: true; the input reads as it did. -/
def codecWritesUptoRow : OpenClaim := { program := "ytniblmpihnhglaa", sum := "13089def7c62933ea4a81599b3f56868cbd3b2bc35bda9a52a6c6797c9b13932", func := "rillbed/rillbedlaw03.CodecWrites", spec := "codecWrites", apart := false, narrowed := true }
def CodecWritesUptoSaid : Prop := codecWritesUptoRow.holds Try.pinned (OpenSpec.upto codecWritesSpec)

/-- 'rillbedlaw03.CodecReads', WHERE WHAT IT READS IS OF BULK AT MOST 1048576: true; the input reads as it did. -/
def codecReadsUptoRow : OpenClaim := { program := "ytniblmpihnhglaa", sum := "13089def7c62933ea4a81599b3f56868cbd3b2bc35bda9a52a6c6797c9b13932", func := "rillbed/rillbedlaw03.CodecReads", spec := "codecReads", apart := false, narrowed := true }
def CodecReadsUptoSaid : Prop := codecReadsUptoRow.holds Try.pinned (OpenSpec.upto codecReadsSpec)

/-- 'rillbedlaw03.CodecKnown', WHERE WHAT IT READS IS OF BULK AT MOST 1048576: true; the input reads as it did. -/
def codecKnownUptoRow : OpenClaim := { program := "ytniblmpihnhglaa", sum := "13089def7c62933ea4a81599b3f56868cbd3b2bc35bda9a52a6c6797c9b13932", func := "rillbed/rillbedlaw03.CodecKnown", spec := "codecKnown", apart := false, narrowed := true }
def CodecKnownUptoSaid : Prop := codecKnownUptoRow.holds Try.pinned (OpenSpec.upto codecKnownSpec)

/-- 'rillbedlaw03.CodecBack', WHERE WHAT IT READS IS OF BULK AT MOST 1048576: true; the input reads as it did. -/
def codecBackUptoRow : OpenClaim := { program := "ytniblmpihnhglaa", sum := "13089def7c62933ea4a81599b3f56868cbd3b2bc35bda9a52a6c6797c9b13932", func := "rillbed/rillbedlaw03.CodecBack", spec := "codecBack", apart := false, narrowed := true }
def CodecBackUptoSaid : Prop := codecBackUptoRow.holds Try.pinned (OpenSpec.upto codecBackSpec)

/-- 'rillbedlaw03.CodecOne', WHERE WHAT IT READS IS OF BULK AT MOST 1048576: true; the input reads as it did. -/
def codecOneUptoRow : OpenClaim := { program := "ytniblmpihnhglaa", sum := "13089def7c62933ea4a81599b3f56868cbd3b2bc35bda9a52a6c6797c9b13932", func := "rillbed/rillbedlaw03.CodecOne", spec := "codecOne", apart := false, narrowed := true }
def CodecOneUptoSaid : Prop := codecOneUptoRow.holds Try.pinned (OpenSpec.upto codecOneSpec)

/-- 'rillbedlaw07.MetaChanges', WHERE WHAT IT READS IS OF BULK AT MOST 1048576: true; the input reads as it did. -/
def metaChangesUptoRow : OpenClaim := { program := "ytniblmpihnhglaa", sum := "13089def7c62933ea4a81599b3f56868cbd3b2bc35bda9a52a6c6797c9b13932", func := "rillbed/rillbedlaw07.MetaChanges", spec := "metaChanges", inPlace := ["math.Float64frombits", "math.Float64bits"], unfollowed := true, recurses := true, apart := false, narrowed := true }
def MetaChangesUptoSaid : Prop := metaChangesUptoRow.holds Try.pinned (OpenSpec.upto metaChangesSpec)

/-- 'rillbedlaw07.MetaDoes', WHERE WHAT IT READS IS OF BULK AT MOST 1048576: true; the input reads as it did. -/
def metaDoesUptoRow : OpenClaim := { program := "ytniblmpihnhglaa", sum := "13089def7c62933ea4a81599b3f56868cbd3b2bc35bda9a52a6c6797c9b13932", func := "rillbed/rillbedlaw07.MetaDoes", spec := "metaDoes", inPlace := ["math.Float64frombits", "math.Float64bits"], unfollowed := true, recurses := true, apart := false, narrowed := true }
def MetaDoesUptoSaid : Prop := metaDoesUptoRow.holds Try.pinned (OpenSpec.upto metaDoesSpec)

/-- 'rillbedlaw07.MetaOrder', WHERE WHAT IT READS IS OF BULK AT MOST 1048576: true; the input reads as it did. -/
def metaOrderUptoRow : OpenClaim := { program := "ytniblmpihnhglaa", sum := "13089def7c62933ea4a81599b3f56868cbd3b2bc35bda9a52a6c6797c9b13932", func := "rillbed/rillbedlaw07.MetaOrder", spec := "metaOrder", inPlace := ["math.Float64frombits", "math.Float64bits"], unfollowed := true, recurses := true, apart := false, narrowed := true }
def MetaOrderUptoSaid : Prop := metaOrderUptoRow.holds Try.pinned (OpenSpec.upto metaOrderSpec)

/-- 'rillbedlaw07.MetaTexts', WHERE WHAT IT READS IS OF BULK AT MOST 1048576: true; the input reads as it did. -/
def metaTextsUptoRow : OpenClaim := { program := "ytniblmpihnhglaa", sum := "13089def7c62933ea4a81599b3f56868cbd3b2bc35bda9a52a6c6797c9b13932", func := "rillbed/rillbedlaw07.MetaTexts", spec := "metaTexts", inPlace := ["math.Float64frombits", "math.Float64bits"], unfollowed := true, recurses := true, apart := false, narrowed := true }
def MetaTextsUptoSaid : Prop := metaTextsUptoRow.holds Try.pinned (OpenSpec.upto metaTextsSpec)

/-- 'rillbedlaw07.MetaKnown', WHERE WHAT IT READS IS OF BULK AT MOST 1048576: true; the input reads as it did. -/
def metaKnownUptoRow : OpenClaim := { program := "ytniblmpihnhglaa", sum := "13089def7c62933ea4a81599b3f56868cbd3b2bc35bda9a52a6c6797c9b13932", func := "rillbed/rillbedlaw07.MetaKnown", spec := "metaKnown", inPlace := ["math.Float64frombits", "math.Float64bits"], unfollowed := true, recurses := true, apart := false, narrowed := true }
def MetaKnownUptoSaid : Prop := metaKnownUptoRow.holds Try.pinned (OpenSpec.upto metaKnownSpec)

/-- 'rillbedlaw07.MetaBack', WHERE WHAT IT READS IS OF BULK AT MOST 1048576: true; the input reads as it did. -/
def metaBackUptoRow : OpenClaim := { program := "ytniblmpihnhglaa", sum := "13089def7c62933ea4a81599b3f56868cbd3b2bc35bda9a52a6c6797c9b13932", func := "rillbed/rillbedlaw07.MetaBack", spec := "metaBack", inPlace := ["math.Float64frombits", "math.Float64bits"], unfollowed := true, recurses := true, apart := false, narrowed := true }
def MetaBackUptoSaid : Prop := metaBackUptoRow.holds Try.pinned (OpenSpec.upto metaBackSpec)

end Rows
end Go.Proofs.Ytniblmpihnhglaa
