/-
  DERIVED. GIVEN WITH THE SEED: THE CARDS: each row of YtddepmeikglhgaaDoorRows.lean that lists a variable, with what it lists TIED to the program's text (the seventh form; the later family's looks); each row that meets fmt, with fmt's text TOLD by the authors' own Lean function (tested against real Go, not proved from fmt's source: count such statements apart). THE CARD IS WHAT COUNTS. Prove the row's statement (the work); the ties are given (YtddepmeikglhgaaDoorTie.lean); close each card by the builder's one call (the guide's Derived/Test/ToyasCard.lean, 'card_holds'). Laid BY PROGRAM, IN A SANDBOX (cutbox-door.mjs). By AI agents, Wed Nov 11 2026. No macro, syntax, notation, axiom, sorry.
-/
import Derived.Test.YtddepmeikglhgaaDoorRows
import GoSem.ClaimSeven
namespace Go.Proofs.YtddepmeikglhgaaDoor
namespace Rows

/-- THE TIED CARD OF 'rillbedlaw05.PathParses'. -/
def pathParsesCard : Claim7 := { stood := { row := pathParsesRow, standIns := [], harness := (true, "5dc7585808362bcb956a9fea8b2cb8320dbb18589a403880e852643db6ffc729"), looks := false }, kinds := [], alts := [], laidByText := true, laidKinds := [.data, .pinned], laidTests := true, laidLooks := .later }
def PathParsesCardSaid : Prop := Claim7.holds Tryd.pinned (.plain (OpenSpec.ofChange pathParsesSpec)) pathParsesCard

/-- THE TIED CARD OF 'rillbedlaw05.PathTexts'. -/
def pathTextsCard : Claim7 := { stood := { row := pathTextsRow, standIns := [], harness := (true, "5dc7585808362bcb956a9fea8b2cb8320dbb18589a403880e852643db6ffc729"), looks := false }, kinds := [], alts := [], laidByText := true, laidKinds := [.data, .pinned], laidTests := true, laidLooks := .later }
def PathTextsCardSaid : Prop := Claim7.holds Tryd.pinned (.plain (OpenSpec.ofChange pathTextsSpec)) pathTextsCard

/-- THE TIED CARD OF 'rillbedlaw05.PathBack'. -/
def pathBackCard : Claim7 := { stood := { row := pathBackRow, standIns := [], harness := (true, "5dc7585808362bcb956a9fea8b2cb8320dbb18589a403880e852643db6ffc729"), looks := false }, kinds := [], alts := [], laidByText := true, laidKinds := [.data, .pinned], laidTests := true, laidLooks := .later }
def PathBackCardSaid : Prop := Claim7.holds Tryd.pinned (.plain (OpenSpec.ofChange pathBackSpec)) pathBackCard

/-- THE TIED CARD OF 'rillbedlaw05.PathReturns'. -/
def pathReturnsCard : Claim7 := { stood := { row := pathReturnsRow, standIns := [], harness := (true, "5dc7585808362bcb956a9fea8b2cb8320dbb18589a403880e852643db6ffc729"), looks := false }, kinds := [], alts := [], laidByText := true, laidKinds := [.data, .pinned], laidTests := true, laidLooks := .later }
def PathReturnsCardSaid : Prop := Claim7.holds Tryd.pinned (.plain (OpenSpec.ofChange pathReturnsSpec)) pathReturnsCard

/-- THE TIED CARD OF 'rillbedlaw05.PathMoves'. -/
def pathMovesCard : Claim7 := { stood := { row := pathMovesRow, standIns := [], harness := (true, "5dc7585808362bcb956a9fea8b2cb8320dbb18589a403880e852643db6ffc729"), looks := false }, kinds := [], alts := [], laidByText := true, laidKinds := [.data, .pinned], laidTests := true, laidLooks := .later }
def PathMovesCardSaid : Prop := Claim7.holds Tryd.pinned (.plain (OpenSpec.ofChange pathMovesSpec)) pathMovesCard

/-- THE TIED CARD OF 'rillbedlaw05.PathKnown'. -/
def pathKnownCard : Claim7 := { stood := { row := pathKnownRow, standIns := [], harness := (true, "5dc7585808362bcb956a9fea8b2cb8320dbb18589a403880e852643db6ffc729"), looks := false }, kinds := [], alts := [], laidByText := true, laidKinds := [.data, .pinned], laidTests := true, laidLooks := .later }
def PathKnownCardSaid : Prop := Claim7.holds Tryd.pinned (.plain (OpenSpec.ofChange pathKnownSpec)) pathKnownCard

/-- THE SECOND FORM's CARD OF 'rillbedlaw05.PathParses'. -/
def pathParsesUptoCard : Claim7 := { stood := { row := pathParsesUptoRow, standIns := [], harness := (true, "5dc7585808362bcb956a9fea8b2cb8320dbb18589a403880e852643db6ffc729"), looks := false }, kinds := [], alts := [], laidByText := true, laidKinds := [.data, .pinned], laidTests := true, laidLooks := .later }
def PathParsesUptoCardSaid : Prop := Claim7.holds Tryd.pinned (.plain (OpenSpec.upto pathParsesSpec)) pathParsesUptoCard

/-- THE SECOND FORM's CARD OF 'rillbedlaw05.PathTexts'. -/
def pathTextsUptoCard : Claim7 := { stood := { row := pathTextsUptoRow, standIns := [], harness := (true, "5dc7585808362bcb956a9fea8b2cb8320dbb18589a403880e852643db6ffc729"), looks := false }, kinds := [], alts := [], laidByText := true, laidKinds := [.data, .pinned], laidTests := true, laidLooks := .later }
def PathTextsUptoCardSaid : Prop := Claim7.holds Tryd.pinned (.plain (OpenSpec.upto pathTextsSpec)) pathTextsUptoCard

/-- THE SECOND FORM's CARD OF 'rillbedlaw05.PathBack'. -/
def pathBackUptoCard : Claim7 := { stood := { row := pathBackUptoRow, standIns := [], harness := (true, "5dc7585808362bcb956a9fea8b2cb8320dbb18589a403880e852643db6ffc729"), looks := false }, kinds := [], alts := [], laidByText := true, laidKinds := [.data, .pinned], laidTests := true, laidLooks := .later }
def PathBackUptoCardSaid : Prop := Claim7.holds Tryd.pinned (.plain (OpenSpec.upto pathBackSpec)) pathBackUptoCard

/-- THE SECOND FORM's CARD OF 'rillbedlaw05.PathReturns'. -/
def pathReturnsUptoCard : Claim7 := { stood := { row := pathReturnsUptoRow, standIns := [], harness := (true, "5dc7585808362bcb956a9fea8b2cb8320dbb18589a403880e852643db6ffc729"), looks := false }, kinds := [], alts := [], laidByText := true, laidKinds := [.data, .pinned], laidTests := true, laidLooks := .later }
def PathReturnsUptoCardSaid : Prop := Claim7.holds Tryd.pinned (.plain (OpenSpec.upto pathReturnsSpec)) pathReturnsUptoCard

/-- THE SECOND FORM's CARD OF 'rillbedlaw05.PathMoves'. -/
def pathMovesUptoCard : Claim7 := { stood := { row := pathMovesUptoRow, standIns := [], harness := (true, "5dc7585808362bcb956a9fea8b2cb8320dbb18589a403880e852643db6ffc729"), looks := false }, kinds := [], alts := [], laidByText := true, laidKinds := [.data, .pinned], laidTests := true, laidLooks := .later }
def PathMovesUptoCardSaid : Prop := Claim7.holds Tryd.pinned (.plain (OpenSpec.upto pathMovesSpec)) pathMovesUptoCard

/-- THE SECOND FORM's CARD OF 'rillbedlaw05.PathKnown'. -/
def pathKnownUptoCard : Claim7 := { stood := { row := pathKnownUptoRow, standIns := [], harness := (true, "5dc7585808362bcb956a9fea8b2cb8320dbb18589a403880e852643db6ffc729"), looks := false }, kinds := [], alts := [], laidByText := true, laidKinds := [.data, .pinned], laidTests := true, laidLooks := .later }
def PathKnownUptoCardSaid : Prop := Claim7.holds Tryd.pinned (.plain (OpenSpec.upto pathKnownSpec)) pathKnownUptoCard
end Rows
end Go.Proofs.YtddepmeikglhgaaDoor
