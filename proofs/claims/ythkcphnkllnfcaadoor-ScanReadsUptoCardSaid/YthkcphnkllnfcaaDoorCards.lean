/-
  DERIVED. GIVEN WITH THE SEED: THE CARDS: each row of YthkcphnkllnfcaaDoorRows.lean that lists a variable, with what it lists TIED to the program's text (the seventh form; the later family's looks); each row that meets fmt, with fmt's text TOLD by the authors' own Lean function (tested against real Go, not proved from fmt's source: count such statements apart). THE CARD IS WHAT COUNTS. Prove the row's statement (the work); the ties are given (YthkcphnkllnfcaaDoorTie.lean); close each card by the builder's one call (the guide's Derived/Test/ToyasCard.lean, 'card_holds'). Laid BY PROGRAM, IN A SANDBOX (cutbox-door.mjs). By AI agents, Wed Nov 11 2026. No macro, syntax, notation, axiom, sorry.
-/
import Derived.Test.YthkcphnkllnfcaaDoorRows
import GoSem.ClaimSeven
namespace Go.Proofs.YthkcphnkllnfcaaDoor
namespace Rows

/-- THE TIED CARD OF 'shuttlelaw01.ScanOne'. -/
def scanOneCard : Claim7 := { stood := { row := scanOneRow, standIns := [], harness := (true, "12d06f3f2ac5322d34354b8e97d014bd1ebca2e6d6d6ae850aa65fa78148f1b6"), looks := false }, kinds := [], alts := [], laidByText := true, laidKinds := [.data, .pinned], laidTests := true, laidLooks := .later }
def ScanOneCardSaid : Prop := Claim7.holds Tryd.pinned (.plain (OpenSpec.ofChange scanOneSpec)) scanOneCard

/-- THE TIED CARD OF 'shuttlelaw01.ScanText'. -/
def scanTextCard : Claim7 := { stood := { row := scanTextRow, standIns := [], harness := (true, "12d06f3f2ac5322d34354b8e97d014bd1ebca2e6d6d6ae850aa65fa78148f1b6"), looks := false }, kinds := [], alts := [], laidByText := true, laidKinds := [.data, .pinned], laidTests := true, laidLooks := .later }
def ScanTextCardSaid : Prop := Claim7.holds Tryd.pinned (.plain (OpenSpec.ofChange scanTextSpec)) scanTextCard

/-- THE TIED CARD OF 'shuttlelaw01.ScanNumbers'. -/
def scanNumbersCard : Claim7 := { stood := { row := scanNumbersRow, standIns := [], harness := (true, "12d06f3f2ac5322d34354b8e97d014bd1ebca2e6d6d6ae850aa65fa78148f1b6"), looks := false }, kinds := [], alts := [], laidByText := true, laidKinds := [.data, .pinned], laidTests := true, laidLooks := .later }
def ScanNumbersCardSaid : Prop := Claim7.holds Tryd.pinned (.plain (OpenSpec.ofChange scanNumbersSpec)) scanNumbersCard

/-- THE TIED CARD OF 'shuttlelaw01.ScanGoes'. -/
def scanGoesCard : Claim7 := { stood := { row := scanGoesRow, standIns := [], harness := (true, "12d06f3f2ac5322d34354b8e97d014bd1ebca2e6d6d6ae850aa65fa78148f1b6"), looks := false }, kinds := [], alts := [], laidByText := true, laidKinds := [.data, .pinned], laidTests := true, laidLooks := .later }
def ScanGoesCardSaid : Prop := Claim7.holds Tryd.pinned (.plain (OpenSpec.ofChange scanGoesSpec)) scanGoesCard

/-- THE TIED CARD OF 'shuttlelaw01.ScanLanguage'. -/
def scanLanguageCard : Claim7 := { stood := { row := scanLanguageRow, standIns := [], harness := (true, "12d06f3f2ac5322d34354b8e97d014bd1ebca2e6d6d6ae850aa65fa78148f1b6"), looks := false }, kinds := [], alts := [], laidByText := true, laidKinds := [.data, .pinned], laidTests := true, laidLooks := .later }
def ScanLanguageCardSaid : Prop := Claim7.holds Tryd.pinned (.plain (OpenSpec.ofChange scanLanguageSpec)) scanLanguageCard

/-- THE TIED CARD OF 'shuttlelaw01.ScanBack'. -/
def scanBackCard : Claim7 := { stood := { row := scanBackRow, standIns := [], harness := (true, "12d06f3f2ac5322d34354b8e97d014bd1ebca2e6d6d6ae850aa65fa78148f1b6"), looks := false }, kinds := [], alts := [], laidByText := true, laidKinds := [.data, .pinned], laidTests := true, laidLooks := .later }
def ScanBackCardSaid : Prop := Claim7.holds Tryd.pinned (.plain (OpenSpec.ofChange scanBackSpec)) scanBackCard

/-- THE TIED CARD OF 'shuttlelaw01.ScanAll'. -/
def scanAllCard : Claim7 := { stood := { row := scanAllRow, standIns := [], harness := (true, "12d06f3f2ac5322d34354b8e97d014bd1ebca2e6d6d6ae850aa65fa78148f1b6"), looks := false }, kinds := [], alts := [], laidByText := true, laidKinds := [.data, .pinned], laidTests := true, laidLooks := .later }
def ScanAllCardSaid : Prop := Claim7.holds Tryd.pinned (.plain (OpenSpec.ofChange scanAllSpec)) scanAllCard

/-- THE TIED CARD OF 'shuttlelaw01.ScanParts'. -/
def scanPartsCard : Claim7 := { stood := { row := scanPartsRow, standIns := [], harness := (true, "12d06f3f2ac5322d34354b8e97d014bd1ebca2e6d6d6ae850aa65fa78148f1b6"), looks := false }, kinds := [], alts := [], laidByText := true, laidKinds := [.data, .pinned], laidTests := true, laidLooks := .later }
def ScanPartsCardSaid : Prop := Claim7.holds Tryd.pinned (.plain (OpenSpec.ofChange scanPartsSpec)) scanPartsCard

/-- THE TIED CARD OF 'shuttlelaw01.ScanNil'. -/
def scanNilCard : Claim7 := { stood := { row := scanNilRow, standIns := [], harness := (true, "12d06f3f2ac5322d34354b8e97d014bd1ebca2e6d6d6ae850aa65fa78148f1b6"), looks := false }, kinds := [], alts := [], laidByText := true, laidKinds := [.data, .pinned], laidTests := true, laidLooks := .later }
def ScanNilCardSaid : Prop := Claim7.holds Tryd.pinned (.plain (OpenSpec.ofChange scanNilSpec)) scanNilCard

/-- THE TIED CARD OF 'shuttlelaw01.ScanReads'. -/
def scanReadsCard : Claim7 := { stood := { row := scanReadsRow, standIns := [], harness := (true, "12d06f3f2ac5322d34354b8e97d014bd1ebca2e6d6d6ae850aa65fa78148f1b6"), looks := false }, kinds := [], alts := [], laidByText := true, laidKinds := [.data, .pinned], laidTests := true, laidLooks := .later }
def ScanReadsCardSaid : Prop := Claim7.holds Tryd.pinned (.plain (OpenSpec.ofChange scanReadsSpec)) scanReadsCard

/-- THE TIED CARD OF 'shuttlelaw01.ScanPieces'. -/
def scanPiecesCard : Claim7 := { stood := { row := scanPiecesRow, standIns := [], harness := (true, "12d06f3f2ac5322d34354b8e97d014bd1ebca2e6d6d6ae850aa65fa78148f1b6"), looks := false }, kinds := [], alts := [], laidByText := true, laidKinds := [.data, .pinned], laidTests := true, laidLooks := .later }
def ScanPiecesCardSaid : Prop := Claim7.holds Tryd.pinned (.plain (OpenSpec.ofChange scanPiecesSpec)) scanPiecesCard

/-- THE SECOND FORM's CARD OF 'shuttlelaw01.ScanOne'. -/
def scanOneUptoCard : Claim7 := { stood := { row := scanOneUptoRow, standIns := [], harness := (true, "12d06f3f2ac5322d34354b8e97d014bd1ebca2e6d6d6ae850aa65fa78148f1b6"), looks := false }, kinds := [], alts := [], laidByText := true, laidKinds := [.data, .pinned], laidTests := true, laidLooks := .later }
def ScanOneUptoCardSaid : Prop := Claim7.holds Tryd.pinned (.plain (OpenSpec.upto scanOneSpec)) scanOneUptoCard

/-- THE SECOND FORM's CARD OF 'shuttlelaw01.ScanText'. -/
def scanTextUptoCard : Claim7 := { stood := { row := scanTextUptoRow, standIns := [], harness := (true, "12d06f3f2ac5322d34354b8e97d014bd1ebca2e6d6d6ae850aa65fa78148f1b6"), looks := false }, kinds := [], alts := [], laidByText := true, laidKinds := [.data, .pinned], laidTests := true, laidLooks := .later }
def ScanTextUptoCardSaid : Prop := Claim7.holds Tryd.pinned (.plain (OpenSpec.upto scanTextSpec)) scanTextUptoCard

/-- THE SECOND FORM's CARD OF 'shuttlelaw01.ScanNumbers'. -/
def scanNumbersUptoCard : Claim7 := { stood := { row := scanNumbersUptoRow, standIns := [], harness := (true, "12d06f3f2ac5322d34354b8e97d014bd1ebca2e6d6d6ae850aa65fa78148f1b6"), looks := false }, kinds := [], alts := [], laidByText := true, laidKinds := [.data, .pinned], laidTests := true, laidLooks := .later }
def ScanNumbersUptoCardSaid : Prop := Claim7.holds Tryd.pinned (.plain (OpenSpec.upto scanNumbersSpec)) scanNumbersUptoCard

/-- THE SECOND FORM's CARD OF 'shuttlelaw01.ScanGoes'. -/
def scanGoesUptoCard : Claim7 := { stood := { row := scanGoesUptoRow, standIns := [], harness := (true, "12d06f3f2ac5322d34354b8e97d014bd1ebca2e6d6d6ae850aa65fa78148f1b6"), looks := false }, kinds := [], alts := [], laidByText := true, laidKinds := [.data, .pinned], laidTests := true, laidLooks := .later }
def ScanGoesUptoCardSaid : Prop := Claim7.holds Tryd.pinned (.plain (OpenSpec.upto scanGoesSpec)) scanGoesUptoCard

/-- THE SECOND FORM's CARD OF 'shuttlelaw01.ScanLanguage'. -/
def scanLanguageUptoCard : Claim7 := { stood := { row := scanLanguageUptoRow, standIns := [], harness := (true, "12d06f3f2ac5322d34354b8e97d014bd1ebca2e6d6d6ae850aa65fa78148f1b6"), looks := false }, kinds := [], alts := [], laidByText := true, laidKinds := [.data, .pinned], laidTests := true, laidLooks := .later }
def ScanLanguageUptoCardSaid : Prop := Claim7.holds Tryd.pinned (.plain (OpenSpec.upto scanLanguageSpec)) scanLanguageUptoCard

/-- THE SECOND FORM's CARD OF 'shuttlelaw01.ScanBack'. -/
def scanBackUptoCard : Claim7 := { stood := { row := scanBackUptoRow, standIns := [], harness := (true, "12d06f3f2ac5322d34354b8e97d014bd1ebca2e6d6d6ae850aa65fa78148f1b6"), looks := false }, kinds := [], alts := [], laidByText := true, laidKinds := [.data, .pinned], laidTests := true, laidLooks := .later }
def ScanBackUptoCardSaid : Prop := Claim7.holds Tryd.pinned (.plain (OpenSpec.upto scanBackSpec)) scanBackUptoCard

/-- THE SECOND FORM's CARD OF 'shuttlelaw01.ScanAll'. -/
def scanAllUptoCard : Claim7 := { stood := { row := scanAllUptoRow, standIns := [], harness := (true, "12d06f3f2ac5322d34354b8e97d014bd1ebca2e6d6d6ae850aa65fa78148f1b6"), looks := false }, kinds := [], alts := [], laidByText := true, laidKinds := [.data, .pinned], laidTests := true, laidLooks := .later }
def ScanAllUptoCardSaid : Prop := Claim7.holds Tryd.pinned (.plain (OpenSpec.upto scanAllSpec)) scanAllUptoCard

/-- THE SECOND FORM's CARD OF 'shuttlelaw01.ScanParts'. -/
def scanPartsUptoCard : Claim7 := { stood := { row := scanPartsUptoRow, standIns := [], harness := (true, "12d06f3f2ac5322d34354b8e97d014bd1ebca2e6d6d6ae850aa65fa78148f1b6"), looks := false }, kinds := [], alts := [], laidByText := true, laidKinds := [.data, .pinned], laidTests := true, laidLooks := .later }
def ScanPartsUptoCardSaid : Prop := Claim7.holds Tryd.pinned (.plain (OpenSpec.upto scanPartsSpec)) scanPartsUptoCard

/-- THE SECOND FORM's CARD OF 'shuttlelaw01.ScanNil'. -/
def scanNilUptoCard : Claim7 := { stood := { row := scanNilUptoRow, standIns := [], harness := (true, "12d06f3f2ac5322d34354b8e97d014bd1ebca2e6d6d6ae850aa65fa78148f1b6"), looks := false }, kinds := [], alts := [], laidByText := true, laidKinds := [.data, .pinned], laidTests := true, laidLooks := .later }
def ScanNilUptoCardSaid : Prop := Claim7.holds Tryd.pinned (.plain (OpenSpec.upto scanNilSpec)) scanNilUptoCard

/-- THE SECOND FORM's CARD OF 'shuttlelaw01.ScanReads'. -/
def scanReadsUptoCard : Claim7 := { stood := { row := scanReadsUptoRow, standIns := [], harness := (true, "12d06f3f2ac5322d34354b8e97d014bd1ebca2e6d6d6ae850aa65fa78148f1b6"), looks := false }, kinds := [], alts := [], laidByText := true, laidKinds := [.data, .pinned], laidTests := true, laidLooks := .later }
def ScanReadsUptoCardSaid : Prop := Claim7.holds Tryd.pinned (.plain (OpenSpec.upto scanReadsSpec)) scanReadsUptoCard

/-- THE SECOND FORM's CARD OF 'shuttlelaw01.ScanPieces'. -/
def scanPiecesUptoCard : Claim7 := { stood := { row := scanPiecesUptoRow, standIns := [], harness := (true, "12d06f3f2ac5322d34354b8e97d014bd1ebca2e6d6d6ae850aa65fa78148f1b6"), looks := false }, kinds := [], alts := [], laidByText := true, laidKinds := [.data, .pinned], laidTests := true, laidLooks := .later }
def ScanPiecesUptoCardSaid : Prop := Claim7.holds Tryd.pinned (.plain (OpenSpec.upto scanPiecesSpec)) scanPiecesUptoCard
end Rows
end Go.Proofs.YthkcphnkllnfcaaDoor
