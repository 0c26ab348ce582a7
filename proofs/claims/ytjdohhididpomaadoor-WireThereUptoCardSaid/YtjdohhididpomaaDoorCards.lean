/-
  DERIVED. GIVEN WITH THE SEED: THE CARDS: each row of YtjdohhididpomaaDoorRows.lean that lists a variable, with what it lists TIED to the program's text (the seventh form; the later family's looks); each row that meets fmt, with fmt's text TOLD by the authors' own Lean function (tested against real Go, not proved from fmt's source: count such statements apart). THE CARD IS WHAT COUNTS. Prove the row's statement (the work); the ties are given (YtjdohhididpomaaDoorTie.lean); close each card by the builder's one call (the guide's Derived/Test/ToyasCard.lean, 'card_holds'). Laid BY PROGRAM, IN A SANDBOX (cutbox-door.mjs). By AI agents, Wed Nov 11 2026. No macro, syntax, notation, axiom, sorry.
-/
import Derived.Test.YtjdohhididpomaaDoorRows
import GoSem.ClaimSeven
namespace Go.Proofs.YtjdohhididpomaaDoor
namespace Rows

/-- THE TIED CARD OF 'shuttlelaw26.WireThere'. -/
def wireThereCard : Claim7 := { stood := { row := wireThereRow, standIns := [], harness := (true, "6658d235ce0f1cc1a51ed0cb913f7fd2790a44dc55d80466ff881b1d152801dd"), looks := false }, kinds := [], alts := [], laidByText := true, laidKinds := [.data, .data, .data, .data, .pinned], laidTests := true, laidLooks := .later }
def WireThereCardSaid : Prop := Claim7.holds Tryd.pinned (.plain (OpenSpec.ofChange wireThereSpec)) wireThereCard

/-- THE TIED CARD OF 'shuttlelaw26.WirePieces'. -/
def wirePiecesCard : Claim7 := { stood := { row := wirePiecesRow, standIns := [], harness := (true, "6658d235ce0f1cc1a51ed0cb913f7fd2790a44dc55d80466ff881b1d152801dd"), looks := false }, kinds := [], alts := [], laidByText := true, laidKinds := [.data, .data, .data, .data, .pinned], laidTests := true, laidLooks := .later }
def WirePiecesCardSaid : Prop := Claim7.holds Tryd.pinned (.plain (OpenSpec.ofChange wirePiecesSpec)) wirePiecesCard

/-- THE TIED CARD OF 'shuttlelaw26.WireNil'. -/
def wireNilCard : Claim7 := { stood := { row := wireNilRow, standIns := [], harness := (true, "6658d235ce0f1cc1a51ed0cb913f7fd2790a44dc55d80466ff881b1d152801dd"), looks := false }, kinds := [], alts := [], laidByText := true, laidKinds := [.data, .data, .data, .data, .pinned], laidTests := true, laidLooks := .later }
def WireNilCardSaid : Prop := Claim7.holds Tryd.pinned (.plain (OpenSpec.ofChange wireNilSpec)) wireNilCard

/-- THE TIED CARD OF 'shuttlelaw26.WireKnown'. -/
def wireKnownCard : Claim7 := { stood := { row := wireKnownRow, standIns := [], harness := (true, "6658d235ce0f1cc1a51ed0cb913f7fd2790a44dc55d80466ff881b1d152801dd"), looks := false }, kinds := [], alts := [], laidByText := true, laidKinds := [.data, .data, .data, .data, .pinned], laidTests := true, laidLooks := .later }
def WireKnownCardSaid : Prop := Claim7.holds Tryd.pinned (.plain (OpenSpec.ofChange wireKnownSpec)) wireKnownCard

/-- THE SECOND FORM's CARD OF 'shuttlelaw26.WireThere'. -/
def wireThereUptoCard : Claim7 := { stood := { row := wireThereUptoRow, standIns := [], harness := (true, "6658d235ce0f1cc1a51ed0cb913f7fd2790a44dc55d80466ff881b1d152801dd"), looks := false }, kinds := [], alts := [], laidByText := true, laidKinds := [.data, .data, .data, .data, .pinned], laidTests := true, laidLooks := .later }
def WireThereUptoCardSaid : Prop := Claim7.holds Tryd.pinned (.plain (OpenSpec.upto wireThereSpec)) wireThereUptoCard

/-- THE SECOND FORM's CARD OF 'shuttlelaw26.WirePieces'. -/
def wirePiecesUptoCard : Claim7 := { stood := { row := wirePiecesUptoRow, standIns := [], harness := (true, "6658d235ce0f1cc1a51ed0cb913f7fd2790a44dc55d80466ff881b1d152801dd"), looks := false }, kinds := [], alts := [], laidByText := true, laidKinds := [.data, .data, .data, .data, .pinned], laidTests := true, laidLooks := .later }
def WirePiecesUptoCardSaid : Prop := Claim7.holds Tryd.pinned (.plain (OpenSpec.upto wirePiecesSpec)) wirePiecesUptoCard

/-- THE SECOND FORM's CARD OF 'shuttlelaw26.WireNil'. -/
def wireNilUptoCard : Claim7 := { stood := { row := wireNilUptoRow, standIns := [], harness := (true, "6658d235ce0f1cc1a51ed0cb913f7fd2790a44dc55d80466ff881b1d152801dd"), looks := false }, kinds := [], alts := [], laidByText := true, laidKinds := [.data, .data, .data, .data, .pinned], laidTests := true, laidLooks := .later }
def WireNilUptoCardSaid : Prop := Claim7.holds Tryd.pinned (.plain (OpenSpec.upto wireNilSpec)) wireNilUptoCard

/-- THE SECOND FORM's CARD OF 'shuttlelaw26.WireKnown'. -/
def wireKnownUptoCard : Claim7 := { stood := { row := wireKnownUptoRow, standIns := [], harness := (true, "6658d235ce0f1cc1a51ed0cb913f7fd2790a44dc55d80466ff881b1d152801dd"), looks := false }, kinds := [], alts := [], laidByText := true, laidKinds := [.data, .data, .data, .data, .pinned], laidTests := true, laidLooks := .later }
def WireKnownUptoCardSaid : Prop := Claim7.holds Tryd.pinned (.plain (OpenSpec.upto wireKnownSpec)) wireKnownUptoCard
end Rows
end Go.Proofs.YtjdohhididpomaaDoor
