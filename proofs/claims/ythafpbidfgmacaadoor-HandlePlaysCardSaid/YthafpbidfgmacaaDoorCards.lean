/-
  DERIVED. GIVEN WITH THE SEED: THE CARDS: each row of YthafpbidfgmacaaDoorRows.lean that lists a variable, with what it lists TIED to the program's text (the seventh form; the later family's looks); each row that meets fmt, with fmt's text TOLD by the authors' own Lean function (tested against real Go, not proved from fmt's source: count such statements apart). THE CARD IS WHAT COUNTS. Prove the row's statement (the work); the ties are given (YthafpbidfgmacaaDoorTie.lean); close each card by the builder's one call (the guide's Derived/Test/ToyasCard.lean, 'card_holds'). Laid BY PROGRAM, IN A SANDBOX (cutbox-door.mjs). By AI agents, Wed Nov 11 2026. No macro, syntax, notation, axiom, sorry.
-/
import Derived.Test.YthafpbidfgmacaaDoorRows
import GoSem.ClaimSeven
namespace Go.Proofs.YthafpbidfgmacaaDoor
namespace Rows

/-- THE TIED CARD OF 'rillbedlaw30.HandleKeeps'. -/
def handleKeepsCard : Claim7 := { stood := { row := handleKeepsRow, standIns := [], harness := (true, "f629e54f1c514c3906f3cc081a0edcc5653021891515a0b7cf03bd56b3453d9d"), looks := false }, kinds := [], alts := [], laidByText := true, laidKinds := [.data, .pinned], laidTests := true, laidLooks := .later }
def HandleKeepsCardSaid : Prop := Claim7.holds Tryd.pinned (.plain (OpenSpec.ofChange handleKeepsSpec)) handleKeepsCard

/-- THE TIED CARD OF 'rillbedlaw06.KeyKnown'. -/
def keyKnownCard : Claim7 := { stood := { row := keyKnownRow, standIns := [], harness := (true, "f629e54f1c514c3906f3cc081a0edcc5653021891515a0b7cf03bd56b3453d9d"), looks := false }, kinds := [], alts := [], laidByText := true, laidKinds := [.data, .pinned], laidTests := true, laidLooks := .later }
def KeyKnownCardSaid : Prop := Claim7.holds Tryd.pinned (.plain (OpenSpec.ofChange keyKnownSpec)) keyKnownCard

/-- THE TIED CARD OF 'rillbedlaw06.KeyTakes'. -/
def keyTakesCard : Claim7 := { stood := { row := keyTakesRow, standIns := [], harness := (true, "f629e54f1c514c3906f3cc081a0edcc5653021891515a0b7cf03bd56b3453d9d"), looks := false }, kinds := [], alts := [], laidByText := true, laidKinds := [.data, .pinned], laidTests := true, laidLooks := .later }
def KeyTakesCardSaid : Prop := Claim7.holds Tryd.pinned (.plain (OpenSpec.ofChange keyTakesSpec)) keyTakesCard

/-- THE TIED CARD OF 'rillbedlaw06.KeyRanges'. -/
def keyRangesCard : Claim7 := { stood := { row := keyRangesRow, standIns := [], harness := (true, "f629e54f1c514c3906f3cc081a0edcc5653021891515a0b7cf03bd56b3453d9d"), looks := false }, kinds := [], alts := [], laidByText := true, laidKinds := [.data, .pinned], laidTests := true, laidLooks := .later }
def KeyRangesCardSaid : Prop := Claim7.holds Tryd.pinned (.plain (OpenSpec.ofChange keyRangesSpec)) keyRangesCard

/-- THE TIED CARD OF 'rillbedlaw06.KeyMakes'. -/
def keyMakesCard : Claim7 := { stood := { row := keyMakesRow, standIns := [], harness := (true, "f629e54f1c514c3906f3cc081a0edcc5653021891515a0b7cf03bd56b3453d9d"), looks := false }, kinds := [], alts := [], laidByText := true, laidKinds := [.data, .pinned], laidTests := true, laidLooks := .later }
def KeyMakesCardSaid : Prop := Claim7.holds Tryd.pinned (.plain (OpenSpec.ofChange keyMakesSpec)) keyMakesCard

/-- THE TIED CARD OF 'rillbedlaw06.KeyMoves'. -/
def keyMovesCard : Claim7 := { stood := { row := keyMovesRow, standIns := [], harness := (true, "f629e54f1c514c3906f3cc081a0edcc5653021891515a0b7cf03bd56b3453d9d"), looks := false }, kinds := [], alts := [], laidByText := true, laidKinds := [.data, .pinned], laidTests := true, laidLooks := .later }
def KeyMovesCardSaid : Prop := Claim7.holds Tryd.pinned (.plain (OpenSpec.ofChange keyMovesSpec)) keyMovesCard

/-- THE TIED CARD OF 'rillbedlaw06.KeyBack'. -/
def keyBackCard : Claim7 := { stood := { row := keyBackRow, standIns := [], harness := (true, "f629e54f1c514c3906f3cc081a0edcc5653021891515a0b7cf03bd56b3453d9d"), looks := false }, kinds := [], alts := [], laidByText := true, laidKinds := [.data, .pinned], laidTests := true, laidLooks := .later }
def KeyBackCardSaid : Prop := Claim7.holds Tryd.pinned (.plain (OpenSpec.ofChange keyBackSpec)) keyBackCard

/-- THE TIED CARD OF 'rillbedlaw30.HandlePlays'. -/
def handlePlaysCard : Claim7 := { stood := { row := handlePlaysRow, standIns := [], harness := (true, "f629e54f1c514c3906f3cc081a0edcc5653021891515a0b7cf03bd56b3453d9d"), looks := false }, kinds := [], alts := [], laidByText := true, laidKinds := [.data, .pinned], laidTests := true, laidLooks := .later }
def HandlePlaysCardSaid : Prop := Claim7.holds Tryd.pinned (.plain (OpenSpec.ofChange handlePlaysSpec)) handlePlaysCard

/-- THE TIED CARD OF 'rillbedlaw30.HandleKnown'. -/
def handleKnownCard : Claim7 := { stood := { row := handleKnownRow, standIns := [], harness := (true, "f629e54f1c514c3906f3cc081a0edcc5653021891515a0b7cf03bd56b3453d9d"), looks := false }, kinds := [], alts := [], laidByText := true, laidKinds := [.data, .pinned], laidTests := true, laidLooks := .later }
def HandleKnownCardSaid : Prop := Claim7.holds Tryd.pinned (.plain (OpenSpec.ofChange handleKnownSpec)) handleKnownCard

/-- THE SECOND FORM's CARD OF 'rillbedlaw30.HandleKeeps'. -/
def handleKeepsUptoCard : Claim7 := { stood := { row := handleKeepsUptoRow, standIns := [], harness := (true, "f629e54f1c514c3906f3cc081a0edcc5653021891515a0b7cf03bd56b3453d9d"), looks := false }, kinds := [], alts := [], laidByText := true, laidKinds := [.data, .pinned], laidTests := true, laidLooks := .later }
def HandleKeepsUptoCardSaid : Prop := Claim7.holds Tryd.pinned (.plain (OpenSpec.upto handleKeepsSpec)) handleKeepsUptoCard

/-- THE SECOND FORM's CARD OF 'rillbedlaw06.KeyKnown'. -/
def keyKnownUptoCard : Claim7 := { stood := { row := keyKnownUptoRow, standIns := [], harness := (true, "f629e54f1c514c3906f3cc081a0edcc5653021891515a0b7cf03bd56b3453d9d"), looks := false }, kinds := [], alts := [], laidByText := true, laidKinds := [.data, .pinned], laidTests := true, laidLooks := .later }
def KeyKnownUptoCardSaid : Prop := Claim7.holds Tryd.pinned (.plain (OpenSpec.upto keyKnownSpec)) keyKnownUptoCard

/-- THE SECOND FORM's CARD OF 'rillbedlaw06.KeyTakes'. -/
def keyTakesUptoCard : Claim7 := { stood := { row := keyTakesUptoRow, standIns := [], harness := (true, "f629e54f1c514c3906f3cc081a0edcc5653021891515a0b7cf03bd56b3453d9d"), looks := false }, kinds := [], alts := [], laidByText := true, laidKinds := [.data, .pinned], laidTests := true, laidLooks := .later }
def KeyTakesUptoCardSaid : Prop := Claim7.holds Tryd.pinned (.plain (OpenSpec.upto keyTakesSpec)) keyTakesUptoCard

/-- THE SECOND FORM's CARD OF 'rillbedlaw06.KeyRanges'. -/
def keyRangesUptoCard : Claim7 := { stood := { row := keyRangesUptoRow, standIns := [], harness := (true, "f629e54f1c514c3906f3cc081a0edcc5653021891515a0b7cf03bd56b3453d9d"), looks := false }, kinds := [], alts := [], laidByText := true, laidKinds := [.data, .pinned], laidTests := true, laidLooks := .later }
def KeyRangesUptoCardSaid : Prop := Claim7.holds Tryd.pinned (.plain (OpenSpec.upto keyRangesSpec)) keyRangesUptoCard

/-- THE SECOND FORM's CARD OF 'rillbedlaw06.KeyMakes'. -/
def keyMakesUptoCard : Claim7 := { stood := { row := keyMakesUptoRow, standIns := [], harness := (true, "f629e54f1c514c3906f3cc081a0edcc5653021891515a0b7cf03bd56b3453d9d"), looks := false }, kinds := [], alts := [], laidByText := true, laidKinds := [.data, .pinned], laidTests := true, laidLooks := .later }
def KeyMakesUptoCardSaid : Prop := Claim7.holds Tryd.pinned (.plain (OpenSpec.upto keyMakesSpec)) keyMakesUptoCard

/-- THE SECOND FORM's CARD OF 'rillbedlaw06.KeyMoves'. -/
def keyMovesUptoCard : Claim7 := { stood := { row := keyMovesUptoRow, standIns := [], harness := (true, "f629e54f1c514c3906f3cc081a0edcc5653021891515a0b7cf03bd56b3453d9d"), looks := false }, kinds := [], alts := [], laidByText := true, laidKinds := [.data, .pinned], laidTests := true, laidLooks := .later }
def KeyMovesUptoCardSaid : Prop := Claim7.holds Tryd.pinned (.plain (OpenSpec.upto keyMovesSpec)) keyMovesUptoCard

/-- THE SECOND FORM's CARD OF 'rillbedlaw06.KeyBack'. -/
def keyBackUptoCard : Claim7 := { stood := { row := keyBackUptoRow, standIns := [], harness := (true, "f629e54f1c514c3906f3cc081a0edcc5653021891515a0b7cf03bd56b3453d9d"), looks := false }, kinds := [], alts := [], laidByText := true, laidKinds := [.data, .pinned], laidTests := true, laidLooks := .later }
def KeyBackUptoCardSaid : Prop := Claim7.holds Tryd.pinned (.plain (OpenSpec.upto keyBackSpec)) keyBackUptoCard

/-- THE SECOND FORM's CARD OF 'rillbedlaw30.HandlePlays'. -/
def handlePlaysUptoCard : Claim7 := { stood := { row := handlePlaysUptoRow, standIns := [], harness := (true, "f629e54f1c514c3906f3cc081a0edcc5653021891515a0b7cf03bd56b3453d9d"), looks := false }, kinds := [], alts := [], laidByText := true, laidKinds := [.data, .pinned], laidTests := true, laidLooks := .later }
def HandlePlaysUptoCardSaid : Prop := Claim7.holds Tryd.pinned (.plain (OpenSpec.upto handlePlaysSpec)) handlePlaysUptoCard

/-- THE SECOND FORM's CARD OF 'rillbedlaw30.HandleKnown'. -/
def handleKnownUptoCard : Claim7 := { stood := { row := handleKnownUptoRow, standIns := [], harness := (true, "f629e54f1c514c3906f3cc081a0edcc5653021891515a0b7cf03bd56b3453d9d"), looks := false }, kinds := [], alts := [], laidByText := true, laidKinds := [.data, .pinned], laidTests := true, laidLooks := .later }
def HandleKnownUptoCardSaid : Prop := Claim7.holds Tryd.pinned (.plain (OpenSpec.upto handleKnownSpec)) handleKnownUptoCard
end Rows
end Go.Proofs.YthafpbidfgmacaaDoor
