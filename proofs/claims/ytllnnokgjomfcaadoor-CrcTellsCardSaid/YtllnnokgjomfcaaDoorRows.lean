/-
  NARROWER THAN 'FOR EVERY INPUT', by the rows' own cells (each row's printed sentence says how): CrcSums: laid · CrcJoins: laid · CrcBoth: laid · CrcTells: laid · CrcApart: laid · CrcKnown: laid.
  DERIVED. THE GIVEN ROWS OF THIS SEAT. 6 by the template 'for every input the law returns true; each argument reads behind the call as it read before'; 0 by the template 'total and deterministic' (their statements: YtllnnokgjomfcaaDoorTotals.lean).
  GIVEN WITH THE SEED: the statements are not yours to turn. If you find one false, say at which input.
  Laid BY PROGRAM, IN A SANDBOX (cutbox-rows.mjs): the forced cells as the released guide's own fill.sh prints them over the translation 7c1332338a34c748… (all of the seat's roots in one cut). By AI agents, Wed Nov 11 2026. No macro, syntax, notation, axiom, sorry.
-/
import Derived.Test.YtllnnokgjomfcaaDoorChecked
import GoSem.Claim
import GoSem.ClaimJoined
import GoSem.ClaimMapViews
import Derived.JoinedTies
import Derived.KernelRfl
namespace Go.Proofs.YtllnnokgjomfcaaDoor
/- THE CELL 'sum', in the pinned program and in every row, IS THE sha256 OF THE DUMP (.gsa) THAT YtllnnokgjomfcaaDoorProg.lean LOADS. Nothing in Lean hashes anything: it is a label: what it is worth is what the hold of that sum in a sandbox is worth. -/
noncomputable def Tryd.pinned : Pinned := { name := "ytllnnokgjomfcaadoor", sum := "7c1332338a34c7486da59d6eb09c1129dac55cbdeb0824f5e89384ba159572f4", checked := Tryd.checked }
namespace Rows
def none {H : Type} : Left H := { results := [], args := [] }

/- WHAT THE LISTED PACKAGE-LEVEL VARIABLES READ AS WHEN THE CALL BEGINS. Each datum BY PROGRAM (the guide's laid-datum.mjs) off the statement by which the dump's own 'gosem.cut.vars' lays the variable. In a bare row this is a premise. The card (YtllnnokgjomfcaaDoorCards.lean) ties it to the program's text. -/
def laid_rillbed_crc_fours {H : Type} : DataW H := .agg [.lit (.int .u32 0), .lit (.int .u32 274646895), .lit (.int .u32 549293790), .lit (.int .u32 820201905), .lit (.int .u32 1098587580), .lit (.int .u32 1361435347), .lit (.int .u32 1640403810), .lit (.int .u32 1905808397), .lit (.int .u32 2197175160), .lit (.int .u32 2460548119), .lit (.int .u32 2722870694), .lit (.int .u32 2987750089), .lit (.int .u32 3280807620), .lit (.int .u32 3553878443), .lit (.int .u32 3811616794), .lit (.int .u32 4084100981)]

/-- 'rillbedlaw02.CrcSums': WHATEVER THE INPUT: true; the input reads as it did. -/
def crcSumsSpec : ChangeSpec := { name := "crcSums", fn := fun _ => fun
  | [d1, d2] => { results := [.lit (.bool true)], args := [d1, d2] }
  | _ => none }
def crcSumsRow : OpenClaim := { program := "ytllnnokgjomfcaadoor", sum := "7c1332338a34c7486da59d6eb09c1129dac55cbdeb0824f5e89384ba159572f4", func := "rillbed/rillbedlaw02.CrcSums", spec := "crcSums", unfollowed := true, recurses := true, named := ["rillbed/crc.fours"], apart := false, laid := [("rillbed/crc.fours", laid_rillbed_crc_fours)] }
def CrcSumsSaid : Prop := crcSumsRow.holds Tryd.pinned (OpenSpec.ofChange crcSumsSpec)

/-- ITS FALSE NEIGHBOUR: 'it returns false'. Refute it at one input. -/
def crcSumsWrong : ChangeSpec := { name := "crcSums", fn := fun _ => fun
  | [d1, d2] => { results := [.lit (.bool false)], args := [d1, d2] }
  | _ => none }
def CrcSumsWrongFalsely : Prop := crcSumsRow.holds Tryd.pinned (OpenSpec.ofChange crcSumsWrong)

/-- 'rillbedlaw02.CrcJoins': WHATEVER THE INPUT: true; the input reads as it did. -/
def crcJoinsSpec : ChangeSpec := { name := "crcJoins", fn := fun _ => fun
  | [d1, d2, d3] => { results := [.lit (.bool true)], args := [d1, d2, d3] }
  | _ => none }
def crcJoinsRow : OpenClaim := { program := "ytllnnokgjomfcaadoor", sum := "7c1332338a34c7486da59d6eb09c1129dac55cbdeb0824f5e89384ba159572f4", func := "rillbed/rillbedlaw02.CrcJoins", spec := "crcJoins", unfollowed := true, recurses := true, named := ["rillbed/crc.fours"], apart := false, laid := [("rillbed/crc.fours", laid_rillbed_crc_fours)] }
def CrcJoinsSaid : Prop := crcJoinsRow.holds Tryd.pinned (OpenSpec.ofChange crcJoinsSpec)

/-- ITS FALSE NEIGHBOUR: 'it returns false'. Refute it at one input. -/
def crcJoinsWrong : ChangeSpec := { name := "crcJoins", fn := fun _ => fun
  | [d1, d2, d3] => { results := [.lit (.bool false)], args := [d1, d2, d3] }
  | _ => none }
def CrcJoinsWrongFalsely : Prop := crcJoinsRow.holds Tryd.pinned (OpenSpec.ofChange crcJoinsWrong)

/-- 'rillbedlaw02.CrcBoth': WHATEVER THE INPUT: true; the input reads as it did. -/
def crcBothSpec : ChangeSpec := { name := "crcBoth", fn := fun _ => fun
  | [d1, d2] => { results := [.lit (.bool true)], args := [d1, d2] }
  | _ => none }
def crcBothRow : OpenClaim := { program := "ytllnnokgjomfcaadoor", sum := "7c1332338a34c7486da59d6eb09c1129dac55cbdeb0824f5e89384ba159572f4", func := "rillbed/rillbedlaw02.CrcBoth", spec := "crcBoth", unfollowed := true, recurses := true, named := ["rillbed/crc.fours"], apart := false, laid := [("rillbed/crc.fours", laid_rillbed_crc_fours)] }
def CrcBothSaid : Prop := crcBothRow.holds Tryd.pinned (OpenSpec.ofChange crcBothSpec)

/-- ITS FALSE NEIGHBOUR: 'it returns false'. Refute it at one input. -/
def crcBothWrong : ChangeSpec := { name := "crcBoth", fn := fun _ => fun
  | [d1, d2] => { results := [.lit (.bool false)], args := [d1, d2] }
  | _ => none }
def CrcBothWrongFalsely : Prop := crcBothRow.holds Tryd.pinned (OpenSpec.ofChange crcBothWrong)

/-- 'rillbedlaw02.CrcTells': WHATEVER THE INPUT: true; the input reads as it did. -/
def crcTellsSpec : ChangeSpec := { name := "crcTells", fn := fun _ => fun
  | [d1, d2, d3] => { results := [.lit (.bool true)], args := [d1, d2, d3] }
  | _ => none }
def crcTellsRow : OpenClaim := { program := "ytllnnokgjomfcaadoor", sum := "7c1332338a34c7486da59d6eb09c1129dac55cbdeb0824f5e89384ba159572f4", func := "rillbed/rillbedlaw02.CrcTells", spec := "crcTells", unfollowed := true, recurses := true, named := ["rillbed/crc.fours"], apart := false, laid := [("rillbed/crc.fours", laid_rillbed_crc_fours)] }
def CrcTellsSaid : Prop := crcTellsRow.holds Tryd.pinned (OpenSpec.ofChange crcTellsSpec)

/-- ITS FALSE NEIGHBOUR: 'it returns false'. Refute it at one input. -/
def crcTellsWrong : ChangeSpec := { name := "crcTells", fn := fun _ => fun
  | [d1, d2, d3] => { results := [.lit (.bool false)], args := [d1, d2, d3] }
  | _ => none }
def CrcTellsWrongFalsely : Prop := crcTellsRow.holds Tryd.pinned (OpenSpec.ofChange crcTellsWrong)

/-- 'rillbedlaw02.CrcApart': WHATEVER THE INPUT: true; the input reads as it did. -/
def crcApartSpec : ChangeSpec := { name := "crcApart", fn := fun _ => fun
  | [d1, d2, d3] => { results := [.lit (.bool true)], args := [d1, d2, d3] }
  | _ => none }
def crcApartRow : OpenClaim := { program := "ytllnnokgjomfcaadoor", sum := "7c1332338a34c7486da59d6eb09c1129dac55cbdeb0824f5e89384ba159572f4", func := "rillbed/rillbedlaw02.CrcApart", spec := "crcApart", unfollowed := true, recurses := true, named := ["rillbed/crc.fours"], apart := false, laid := [("rillbed/crc.fours", laid_rillbed_crc_fours)] }
def CrcApartSaid : Prop := crcApartRow.holds Tryd.pinned (OpenSpec.ofChange crcApartSpec)

/-- ITS FALSE NEIGHBOUR: 'it returns false'. Refute it at one input. -/
def crcApartWrong : ChangeSpec := { name := "crcApart", fn := fun _ => fun
  | [d1, d2, d3] => { results := [.lit (.bool false)], args := [d1, d2, d3] }
  | _ => none }
def CrcApartWrongFalsely : Prop := crcApartRow.holds Tryd.pinned (OpenSpec.ofChange crcApartWrong)

/-- 'rillbedlaw02.CrcKnown': WHATEVER THE INPUT: true; the input reads as it did. -/
def crcKnownSpec : ChangeSpec := { name := "crcKnown", fn := fun _ => fun
  | [] => { results := [.lit (.bool true)], args := [] }
  | _ => none }
def crcKnownRow : OpenClaim := { program := "ytllnnokgjomfcaadoor", sum := "7c1332338a34c7486da59d6eb09c1129dac55cbdeb0824f5e89384ba159572f4", func := "rillbed/rillbedlaw02.CrcKnown", spec := "crcKnown", inPlace := ["internal/abi.NoEscape", "internal/bytealg.MakeNoZero"], unfollowed := true, recurses := true, named := ["rillbed/crc.fours"], apart := false, laid := [("rillbed/crc.fours", laid_rillbed_crc_fours)] }
def CrcKnownSaid : Prop := crcKnownRow.holds Tryd.pinned (OpenSpec.ofChange crcKnownSpec)

/-- ITS FALSE NEIGHBOUR: 'it returns false'. Refute it at one input. -/
def crcKnownWrong : ChangeSpec := { name := "crcKnown", fn := fun _ => fun
  | [] => { results := [.lit (.bool false)], args := [] }
  | _ => none }
def CrcKnownWrongFalsely : Prop := crcKnownRow.holds Tryd.pinned (OpenSpec.ofChange crcKnownWrong)

/- THE SECOND FORM. 'bulk': how many values and letters a reading holds, each counted each time it is reached (what is shared counts as often as it is met; a slice's spare places count too). A statement '..UptoSaid' is the law's where the arguments, and the package variables that the reading takes, are together of bulk at most 1048576: NARROWER than '..Said'. Prove '..Said' where nothing that the law and all that it calls make is longer than what came in: it says more and counts as full. Else prove '..UptoSaid'. A law counts once. -/
mutual
def uptoBulk {H : Type} : DataW H → Nat
  | .lit (.string bytes) => bytes.length + 1
  | .lit _ => 1
  | .nil => 1
  | .ptr d => uptoBulk d + 1
  | .slice elems spare => uptoBulkAll elems + uptoBulkAll spare + 1
  | .agg parts => uptoBulkAll parts + 1
  | .iface _ d => uptoBulk d + 1
  | .map entries => uptoBulkEntries entries + 1
  | .held _ => 1
def uptoBulkAll {H : Type} : List (DataW H) → Nat
  | [] => 0
  | d :: r => uptoBulk d + uptoBulkAll r
def uptoBulkEntries {H : Type} : List (Lit × DataW H) → Nat
  | [] => 0
  | x :: r => uptoBulkEntry x + uptoBulkEntries r
def uptoBulkEntry {H : Type} : Lit × DataW H → Nat
  | (.string bytes, d) => bytes.length + uptoBulk d + 1
  | (_, d) => uptoBulk d + 1
 end
def uptoSmall : (H : Type) → List (DataW H) → Bool := fun _ ds => decide (uptoBulkAll ds ≤ 1048576)
def OpenSpec.upto (s : _root_.Go.ChangeSpec) : _root_.Go.OpenSpec := { _root_.Go.OpenSpec.ofChange s with cond := some uptoSmall }

/-- 'rillbedlaw02.CrcSums', WHERE WHAT IT READS IS OF BULK AT MOST 1048576: true; the input reads as it did. -/
def crcSumsUptoRow : OpenClaim := { program := "ytllnnokgjomfcaadoor", sum := "7c1332338a34c7486da59d6eb09c1129dac55cbdeb0824f5e89384ba159572f4", func := "rillbed/rillbedlaw02.CrcSums", spec := "crcSums", unfollowed := true, recurses := true, named := ["rillbed/crc.fours"], apart := false, laid := [("rillbed/crc.fours", laid_rillbed_crc_fours)], narrowed := true }
def CrcSumsUptoSaid : Prop := crcSumsUptoRow.holds Tryd.pinned (OpenSpec.upto crcSumsSpec)

/-- 'rillbedlaw02.CrcJoins', WHERE WHAT IT READS IS OF BULK AT MOST 1048576: true; the input reads as it did. -/
def crcJoinsUptoRow : OpenClaim := { program := "ytllnnokgjomfcaadoor", sum := "7c1332338a34c7486da59d6eb09c1129dac55cbdeb0824f5e89384ba159572f4", func := "rillbed/rillbedlaw02.CrcJoins", spec := "crcJoins", unfollowed := true, recurses := true, named := ["rillbed/crc.fours"], apart := false, laid := [("rillbed/crc.fours", laid_rillbed_crc_fours)], narrowed := true }
def CrcJoinsUptoSaid : Prop := crcJoinsUptoRow.holds Tryd.pinned (OpenSpec.upto crcJoinsSpec)

/-- 'rillbedlaw02.CrcBoth', WHERE WHAT IT READS IS OF BULK AT MOST 1048576: true; the input reads as it did. -/
def crcBothUptoRow : OpenClaim := { program := "ytllnnokgjomfcaadoor", sum := "7c1332338a34c7486da59d6eb09c1129dac55cbdeb0824f5e89384ba159572f4", func := "rillbed/rillbedlaw02.CrcBoth", spec := "crcBoth", unfollowed := true, recurses := true, named := ["rillbed/crc.fours"], apart := false, laid := [("rillbed/crc.fours", laid_rillbed_crc_fours)], narrowed := true }
def CrcBothUptoSaid : Prop := crcBothUptoRow.holds Tryd.pinned (OpenSpec.upto crcBothSpec)

/-- 'rillbedlaw02.CrcTells', WHERE WHAT IT READS IS OF BULK AT MOST 1048576: true; the input reads as it did. -/
def crcTellsUptoRow : OpenClaim := { program := "ytllnnokgjomfcaadoor", sum := "7c1332338a34c7486da59d6eb09c1129dac55cbdeb0824f5e89384ba159572f4", func := "rillbed/rillbedlaw02.CrcTells", spec := "crcTells", unfollowed := true, recurses := true, named := ["rillbed/crc.fours"], apart := false, laid := [("rillbed/crc.fours", laid_rillbed_crc_fours)], narrowed := true }
def CrcTellsUptoSaid : Prop := crcTellsUptoRow.holds Tryd.pinned (OpenSpec.upto crcTellsSpec)

/-- 'rillbedlaw02.CrcApart', WHERE WHAT IT READS IS OF BULK AT MOST 1048576: true; the input reads as it did. -/
def crcApartUptoRow : OpenClaim := { program := "ytllnnokgjomfcaadoor", sum := "7c1332338a34c7486da59d6eb09c1129dac55cbdeb0824f5e89384ba159572f4", func := "rillbed/rillbedlaw02.CrcApart", spec := "crcApart", unfollowed := true, recurses := true, named := ["rillbed/crc.fours"], apart := false, laid := [("rillbed/crc.fours", laid_rillbed_crc_fours)], narrowed := true }
def CrcApartUptoSaid : Prop := crcApartUptoRow.holds Tryd.pinned (OpenSpec.upto crcApartSpec)

/-- 'rillbedlaw02.CrcKnown', WHERE WHAT IT READS IS OF BULK AT MOST 1048576: true; the input reads as it did. -/
def crcKnownUptoRow : OpenClaim := { program := "ytllnnokgjomfcaadoor", sum := "7c1332338a34c7486da59d6eb09c1129dac55cbdeb0824f5e89384ba159572f4", func := "rillbed/rillbedlaw02.CrcKnown", spec := "crcKnown", inPlace := ["internal/abi.NoEscape", "internal/bytealg.MakeNoZero"], unfollowed := true, recurses := true, named := ["rillbed/crc.fours"], apart := false, laid := [("rillbed/crc.fours", laid_rillbed_crc_fours)], narrowed := true }
def CrcKnownUptoSaid : Prop := crcKnownUptoRow.holds Tryd.pinned (OpenSpec.upto crcKnownSpec)

end Rows
end Go.Proofs.YtllnnokgjomfcaaDoor
