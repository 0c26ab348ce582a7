/-
  DERIVED. GIVEN WITH THE SEED: THE CARDS: each row of YthpjkgoahneldaaDoorRows.lean that lists a variable, with what it lists TIED to the program's text (the seventh form; the later family's looks); each row that meets fmt, with fmt's text TOLD by the authors' own Lean function (tested against real Go, not proved from fmt's source: count such statements apart). THE CARD IS WHAT COUNTS. Prove the row's statement (the work); the ties are given (YthpjkgoahneldaaDoorTie.lean); close each card by the builder's one call (the guide's Derived/Test/ToyasCard.lean, 'card_holds'). Laid BY PROGRAM, IN A SANDBOX (cutbox-door.mjs). By AI agents, Wed Nov 11 2026. No macro, syntax, notation, axiom, sorry.
-/
import Derived.Test.YthpjkgoahneldaaDoorRows
import GoSem.ClaimSeven
namespace Go.Proofs.YthpjkgoahneldaaDoor
namespace Rows

/-- THE TIED CARD OF 'shuttlelaw13.BreaksWhere'. -/
def breaksWhereCard : Claim7 := { stood := { row := breaksWhereRow, standIns := [], harness := (true, "93bee46139b0101c6491802db214459f82c38f5236553456c06faebca463dae1"), looks := false }, kinds := [], alts := [], laidByText := true, laidKinds := [.data, .pinned], laidTests := true, laidLooks := .later }
def BreaksWhereCardSaid : Prop := Claim7.holds Tryd.pinned (.plain (OpenSpec.ofChange breaksWhereSpec)) breaksWhereCard

/-- THE TIED CARD OF 'shuttlelaw13.BreaksLines'. -/
def breaksLinesCard : Claim7 := { stood := { row := breaksLinesRow, standIns := [], harness := (true, "93bee46139b0101c6491802db214459f82c38f5236553456c06faebca463dae1"), looks := false }, kinds := [], alts := [], laidByText := true, laidKinds := [.data, .pinned], laidTests := true, laidLooks := .later }
def BreaksLinesCardSaid : Prop := Claim7.holds Tryd.pinned (.plain (OpenSpec.ofChange breaksLinesSpec)) breaksLinesCard

/-- THE TIED CARD OF 'shuttlelaw13.BreaksLocal'. -/
def breaksLocalCard : Claim7 := { stood := { row := breaksLocalRow, standIns := [], harness := (true, "93bee46139b0101c6491802db214459f82c38f5236553456c06faebca463dae1"), looks := false }, kinds := [], alts := [], laidByText := true, laidKinds := [.data, .pinned], laidTests := true, laidLooks := .later }
def BreaksLocalCardSaid : Prop := Claim7.holds Tryd.pinned (.plain (OpenSpec.ofChange breaksLocalSpec)) breaksLocalCard

/-- THE TIED CARD OF 'shuttlelaw13.BreaksWhole'. -/
def breaksWholeCard : Claim7 := { stood := { row := breaksWholeRow, standIns := [], harness := (true, "93bee46139b0101c6491802db214459f82c38f5236553456c06faebca463dae1"), looks := false }, kinds := [], alts := [], laidByText := true, laidKinds := [.data, .pinned], laidTests := true, laidLooks := .later }
def BreaksWholeCardSaid : Prop := Claim7.holds Tryd.pinned (.plain (OpenSpec.ofChange breaksWholeSpec)) breaksWholeCard

/-- THE TIED CARD OF 'shuttlelaw12.WordAll'. -/
def wordAllCard : Claim7 := { stood := { row := wordAllRow, standIns := [], harness := (true, "93bee46139b0101c6491802db214459f82c38f5236553456c06faebca463dae1"), looks := false }, kinds := [], alts := [], laidByText := true, laidKinds := [.data, .pinned], laidTests := true, laidLooks := .later }
def WordAllCardSaid : Prop := Claim7.holds Tryd.pinned (.plain (OpenSpec.ofChange wordAllSpec)) wordAllCard

/-- THE TIED CARD OF 'shuttlelaw12.WordAt'. -/
def wordAtCard : Claim7 := { stood := { row := wordAtRow, standIns := [], harness := (true, "93bee46139b0101c6491802db214459f82c38f5236553456c06faebca463dae1"), looks := false }, kinds := [], alts := [], laidByText := true, laidKinds := [.data, .pinned], laidTests := true, laidLooks := .later }
def WordAtCardSaid : Prop := Claim7.holds Tryd.pinned (.plain (OpenSpec.ofChange wordAtSpec)) wordAtCard

/-- THE TIED CARD OF 'shuttlelaw12.WordSteps'. -/
def wordStepsCard : Claim7 := { stood := { row := wordStepsRow, standIns := [], harness := (true, "93bee46139b0101c6491802db214459f82c38f5236553456c06faebca463dae1"), looks := false }, kinds := [], alts := [], laidByText := true, laidKinds := [.data, .pinned], laidTests := true, laidLooks := .later }
def WordStepsCardSaid : Prop := Claim7.holds Tryd.pinned (.plain (OpenSpec.ofChange wordStepsSpec)) wordStepsCard

/-- THE TIED CARD OF 'shuttlelaw12.WordKnown'. -/
def wordKnownCard : Claim7 := { stood := { row := wordKnownRow, standIns := [], harness := (true, "93bee46139b0101c6491802db214459f82c38f5236553456c06faebca463dae1"), looks := false }, kinds := [], alts := [], laidByText := true, laidKinds := [.data, .pinned], laidTests := true, laidLooks := .later }
def WordKnownCardSaid : Prop := Claim7.holds Tryd.pinned (.plain (OpenSpec.ofChange wordKnownSpec)) wordKnownCard

/-- THE TIED CARD OF 'shuttlelaw12.WordCuts'. -/
def wordCutsCard : Claim7 := { stood := { row := wordCutsRow, standIns := [], harness := (true, "93bee46139b0101c6491802db214459f82c38f5236553456c06faebca463dae1"), looks := false }, kinds := [], alts := [], laidByText := true, laidKinds := [.data, .pinned], laidTests := true, laidLooks := .later }
def WordCutsCardSaid : Prop := Claim7.holds Tryd.pinned (.plain (OpenSpec.ofChange wordCutsSpec)) wordCutsCard

/-- THE TIED CARD OF 'shuttlelaw06.ShowText'. -/
def showTextCard : Claim7 := { stood := { row := showTextRow, standIns := [], harness := (true, "93bee46139b0101c6491802db214459f82c38f5236553456c06faebca463dae1"), looks := false }, kinds := [], alts := [], laidByText := true, laidKinds := [.data, .data, .data, .data, .pinned], laidTests := true, laidLooks := .later }
def ShowTextCardSaid : Prop := Claim7.holds Tryd.pinned (.plain (OpenSpec.ofChange showTextSpec)) showTextCard

/-- THE TIED CARD OF 'shuttlelaw06.ShowWide'. -/
def showWideCard : Claim7 := { stood := { row := showWideRow, standIns := [], harness := (true, "93bee46139b0101c6491802db214459f82c38f5236553456c06faebca463dae1"), looks := false }, kinds := [], alts := [], laidByText := true, laidKinds := [.data, .data, .data, .data, .pinned], laidTests := true, laidLooks := .later }
def ShowWideCardSaid : Prop := Claim7.holds Tryd.pinned (.plain (OpenSpec.ofChange showWideSpec)) showWideCard

/-- THE TIED CARD OF 'shuttlelaw06.ShowCut'. -/
def showCutCard : Claim7 := { stood := { row := showCutRow, standIns := [], harness := (true, "93bee46139b0101c6491802db214459f82c38f5236553456c06faebca463dae1"), looks := false }, kinds := [], alts := [], laidByText := true, laidKinds := [.data, .data, .data, .data, .pinned], laidTests := true, laidLooks := .later }
def ShowCutCardSaid : Prop := Claim7.holds Tryd.pinned (.plain (OpenSpec.ofChange showCutSpec)) showCutCard

/-- THE TIED CARD OF 'shuttlelaw06.ShowPlain'. -/
def showPlainCard : Claim7 := { stood := { row := showPlainRow, standIns := [], harness := (true, "93bee46139b0101c6491802db214459f82c38f5236553456c06faebca463dae1"), looks := false }, kinds := [], alts := [], laidByText := true, laidKinds := [.data, .data, .data, .data, .pinned], laidTests := true, laidLooks := .later }
def ShowPlainCardSaid : Prop := Claim7.holds Tryd.pinned (.plain (OpenSpec.ofChange showPlainSpec)) showPlainCard

/-- THE TIED CARD OF 'shuttlelaw06.ShowBytes'. -/
def showBytesCard : Claim7 := { stood := { row := showBytesRow, standIns := [], harness := (true, "93bee46139b0101c6491802db214459f82c38f5236553456c06faebca463dae1"), looks := false }, kinds := [], alts := [], laidByText := true, laidKinds := [.data, .data, .data, .data, .pinned], laidTests := true, laidLooks := .later }
def ShowBytesCardSaid : Prop := Claim7.holds Tryd.pinned (.plain (OpenSpec.ofChange showBytesSpec)) showBytesCard

/-- THE TIED CARD OF 'shuttlelaw06.ShowKnown'. -/
def showKnownCard : Claim7 := { stood := { row := showKnownRow, standIns := [], harness := (true, "93bee46139b0101c6491802db214459f82c38f5236553456c06faebca463dae1"), looks := false }, kinds := [], alts := [], laidByText := true, laidKinds := [.data, .data, .data, .data, .pinned], laidTests := true, laidLooks := .later }
def ShowKnownCardSaid : Prop := Claim7.holds Tryd.pinned (.plain (OpenSpec.ofChange showKnownSpec)) showKnownCard

/-- THE TIED CARD OF 'shuttlelaw06.ShowAdds'. -/
def showAddsCard : Claim7 := { stood := { row := showAddsRow, standIns := [], harness := (true, "93bee46139b0101c6491802db214459f82c38f5236553456c06faebca463dae1"), looks := false }, kinds := [], alts := [], laidByText := true, laidKinds := [.data, .data, .data, .data, .pinned], laidTests := true, laidLooks := .later }
def ShowAddsCardSaid : Prop := Claim7.holds Tryd.pinned (.plain (OpenSpec.ofChange showAddsSpec)) showAddsCard

/-- THE SECOND FORM's CARD OF 'shuttlelaw13.BreaksWhere'. -/
def breaksWhereUptoCard : Claim7 := { stood := { row := breaksWhereUptoRow, standIns := [], harness := (true, "93bee46139b0101c6491802db214459f82c38f5236553456c06faebca463dae1"), looks := false }, kinds := [], alts := [], laidByText := true, laidKinds := [.data, .pinned], laidTests := true, laidLooks := .later }
def BreaksWhereUptoCardSaid : Prop := Claim7.holds Tryd.pinned (.plain (OpenSpec.upto breaksWhereSpec)) breaksWhereUptoCard

/-- THE SECOND FORM's CARD OF 'shuttlelaw13.BreaksLines'. -/
def breaksLinesUptoCard : Claim7 := { stood := { row := breaksLinesUptoRow, standIns := [], harness := (true, "93bee46139b0101c6491802db214459f82c38f5236553456c06faebca463dae1"), looks := false }, kinds := [], alts := [], laidByText := true, laidKinds := [.data, .pinned], laidTests := true, laidLooks := .later }
def BreaksLinesUptoCardSaid : Prop := Claim7.holds Tryd.pinned (.plain (OpenSpec.upto breaksLinesSpec)) breaksLinesUptoCard

/-- THE SECOND FORM's CARD OF 'shuttlelaw13.BreaksLocal'. -/
def breaksLocalUptoCard : Claim7 := { stood := { row := breaksLocalUptoRow, standIns := [], harness := (true, "93bee46139b0101c6491802db214459f82c38f5236553456c06faebca463dae1"), looks := false }, kinds := [], alts := [], laidByText := true, laidKinds := [.data, .pinned], laidTests := true, laidLooks := .later }
def BreaksLocalUptoCardSaid : Prop := Claim7.holds Tryd.pinned (.plain (OpenSpec.upto breaksLocalSpec)) breaksLocalUptoCard

/-- THE SECOND FORM's CARD OF 'shuttlelaw13.BreaksWhole'. -/
def breaksWholeUptoCard : Claim7 := { stood := { row := breaksWholeUptoRow, standIns := [], harness := (true, "93bee46139b0101c6491802db214459f82c38f5236553456c06faebca463dae1"), looks := false }, kinds := [], alts := [], laidByText := true, laidKinds := [.data, .pinned], laidTests := true, laidLooks := .later }
def BreaksWholeUptoCardSaid : Prop := Claim7.holds Tryd.pinned (.plain (OpenSpec.upto breaksWholeSpec)) breaksWholeUptoCard

/-- THE SECOND FORM's CARD OF 'shuttlelaw12.WordAll'. -/
def wordAllUptoCard : Claim7 := { stood := { row := wordAllUptoRow, standIns := [], harness := (true, "93bee46139b0101c6491802db214459f82c38f5236553456c06faebca463dae1"), looks := false }, kinds := [], alts := [], laidByText := true, laidKinds := [.data, .pinned], laidTests := true, laidLooks := .later }
def WordAllUptoCardSaid : Prop := Claim7.holds Tryd.pinned (.plain (OpenSpec.upto wordAllSpec)) wordAllUptoCard

/-- THE SECOND FORM's CARD OF 'shuttlelaw12.WordAt'. -/
def wordAtUptoCard : Claim7 := { stood := { row := wordAtUptoRow, standIns := [], harness := (true, "93bee46139b0101c6491802db214459f82c38f5236553456c06faebca463dae1"), looks := false }, kinds := [], alts := [], laidByText := true, laidKinds := [.data, .pinned], laidTests := true, laidLooks := .later }
def WordAtUptoCardSaid : Prop := Claim7.holds Tryd.pinned (.plain (OpenSpec.upto wordAtSpec)) wordAtUptoCard

/-- THE SECOND FORM's CARD OF 'shuttlelaw12.WordSteps'. -/
def wordStepsUptoCard : Claim7 := { stood := { row := wordStepsUptoRow, standIns := [], harness := (true, "93bee46139b0101c6491802db214459f82c38f5236553456c06faebca463dae1"), looks := false }, kinds := [], alts := [], laidByText := true, laidKinds := [.data, .pinned], laidTests := true, laidLooks := .later }
def WordStepsUptoCardSaid : Prop := Claim7.holds Tryd.pinned (.plain (OpenSpec.upto wordStepsSpec)) wordStepsUptoCard

/-- THE SECOND FORM's CARD OF 'shuttlelaw12.WordKnown'. -/
def wordKnownUptoCard : Claim7 := { stood := { row := wordKnownUptoRow, standIns := [], harness := (true, "93bee46139b0101c6491802db214459f82c38f5236553456c06faebca463dae1"), looks := false }, kinds := [], alts := [], laidByText := true, laidKinds := [.data, .pinned], laidTests := true, laidLooks := .later }
def WordKnownUptoCardSaid : Prop := Claim7.holds Tryd.pinned (.plain (OpenSpec.upto wordKnownSpec)) wordKnownUptoCard

/-- THE SECOND FORM's CARD OF 'shuttlelaw12.WordCuts'. -/
def wordCutsUptoCard : Claim7 := { stood := { row := wordCutsUptoRow, standIns := [], harness := (true, "93bee46139b0101c6491802db214459f82c38f5236553456c06faebca463dae1"), looks := false }, kinds := [], alts := [], laidByText := true, laidKinds := [.data, .pinned], laidTests := true, laidLooks := .later }
def WordCutsUptoCardSaid : Prop := Claim7.holds Tryd.pinned (.plain (OpenSpec.upto wordCutsSpec)) wordCutsUptoCard

/-- THE SECOND FORM's CARD OF 'shuttlelaw06.ShowText'. -/
def showTextUptoCard : Claim7 := { stood := { row := showTextUptoRow, standIns := [], harness := (true, "93bee46139b0101c6491802db214459f82c38f5236553456c06faebca463dae1"), looks := false }, kinds := [], alts := [], laidByText := true, laidKinds := [.data, .data, .data, .data, .pinned], laidTests := true, laidLooks := .later }
def ShowTextUptoCardSaid : Prop := Claim7.holds Tryd.pinned (.plain (OpenSpec.upto showTextSpec)) showTextUptoCard

/-- THE SECOND FORM's CARD OF 'shuttlelaw06.ShowWide'. -/
def showWideUptoCard : Claim7 := { stood := { row := showWideUptoRow, standIns := [], harness := (true, "93bee46139b0101c6491802db214459f82c38f5236553456c06faebca463dae1"), looks := false }, kinds := [], alts := [], laidByText := true, laidKinds := [.data, .data, .data, .data, .pinned], laidTests := true, laidLooks := .later }
def ShowWideUptoCardSaid : Prop := Claim7.holds Tryd.pinned (.plain (OpenSpec.upto showWideSpec)) showWideUptoCard

/-- THE SECOND FORM's CARD OF 'shuttlelaw06.ShowCut'. -/
def showCutUptoCard : Claim7 := { stood := { row := showCutUptoRow, standIns := [], harness := (true, "93bee46139b0101c6491802db214459f82c38f5236553456c06faebca463dae1"), looks := false }, kinds := [], alts := [], laidByText := true, laidKinds := [.data, .data, .data, .data, .pinned], laidTests := true, laidLooks := .later }
def ShowCutUptoCardSaid : Prop := Claim7.holds Tryd.pinned (.plain (OpenSpec.upto showCutSpec)) showCutUptoCard

/-- THE SECOND FORM's CARD OF 'shuttlelaw06.ShowPlain'. -/
def showPlainUptoCard : Claim7 := { stood := { row := showPlainUptoRow, standIns := [], harness := (true, "93bee46139b0101c6491802db214459f82c38f5236553456c06faebca463dae1"), looks := false }, kinds := [], alts := [], laidByText := true, laidKinds := [.data, .data, .data, .data, .pinned], laidTests := true, laidLooks := .later }
def ShowPlainUptoCardSaid : Prop := Claim7.holds Tryd.pinned (.plain (OpenSpec.upto showPlainSpec)) showPlainUptoCard

/-- THE SECOND FORM's CARD OF 'shuttlelaw06.ShowBytes'. -/
def showBytesUptoCard : Claim7 := { stood := { row := showBytesUptoRow, standIns := [], harness := (true, "93bee46139b0101c6491802db214459f82c38f5236553456c06faebca463dae1"), looks := false }, kinds := [], alts := [], laidByText := true, laidKinds := [.data, .data, .data, .data, .pinned], laidTests := true, laidLooks := .later }
def ShowBytesUptoCardSaid : Prop := Claim7.holds Tryd.pinned (.plain (OpenSpec.upto showBytesSpec)) showBytesUptoCard

/-- THE SECOND FORM's CARD OF 'shuttlelaw06.ShowKnown'. -/
def showKnownUptoCard : Claim7 := { stood := { row := showKnownUptoRow, standIns := [], harness := (true, "93bee46139b0101c6491802db214459f82c38f5236553456c06faebca463dae1"), looks := false }, kinds := [], alts := [], laidByText := true, laidKinds := [.data, .data, .data, .data, .pinned], laidTests := true, laidLooks := .later }
def ShowKnownUptoCardSaid : Prop := Claim7.holds Tryd.pinned (.plain (OpenSpec.upto showKnownSpec)) showKnownUptoCard

/-- THE SECOND FORM's CARD OF 'shuttlelaw06.ShowAdds'. -/
def showAddsUptoCard : Claim7 := { stood := { row := showAddsUptoRow, standIns := [], harness := (true, "93bee46139b0101c6491802db214459f82c38f5236553456c06faebca463dae1"), looks := false }, kinds := [], alts := [], laidByText := true, laidKinds := [.data, .data, .data, .data, .pinned], laidTests := true, laidLooks := .later }
def ShowAddsUptoCardSaid : Prop := Claim7.holds Tryd.pinned (.plain (OpenSpec.upto showAddsSpec)) showAddsUptoCard
end Rows
end Go.Proofs.YthpjkgoahneldaaDoor
