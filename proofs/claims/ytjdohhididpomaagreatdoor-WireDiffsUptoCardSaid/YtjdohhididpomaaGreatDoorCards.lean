/-
  DERIVED. GIVEN WITH THE SEED: THE CARDS: each row of YtjdohhididpomaaGreatDoorRows.lean that lists a variable, with what it lists TIED to the program's text (the seventh form; the later family's looks); each row that meets fmt, with fmt's text TOLD by the authors' own Lean function (tested against real Go, not proved from fmt's source: count such statements apart). THE CARD IS WHAT COUNTS. Prove the row's statement (the work); the ties are given (YtjdohhididpomaaGreatDoorTie.lean); close each card by the builder's one call (the guide's Derived/Test/ToyasCard.lean, 'card_holds'). Laid BY PROGRAM, IN A SANDBOX (cutbox-door.mjs). By AI agents, Wed Nov 11 2026. No macro, syntax, notation, axiom, sorry.
-/
import Derived.Test.YtjdohhididpomaaGreatDoorRows
import GoSem.ClaimSeven
namespace Go.Proofs.YtjdohhididpomaaGreatDoor
namespace Rows

/-- THE TIED CARD OF 'shuttlelaw26.WireRight'. -/
def wireRightCard : Claim7 := { stood := { row := wireRightRow, standIns := [], harness := (true, "e51e6966ded2ccedddda60a3e760a16625b278a8ed378de4795fd5a5f4ef4b7b"), looks := false }, kinds := [], alts := [], laidByText := true, laidKinds := [.data, .data, .data, .data, .pinned], laidTests := true, laidLooks := .later }
def WireRightCardSaid : Prop := Claim7.holds Tryz.pinned (.plain (OpenSpec.ofChange wireRightSpec)) wireRightCard

/-- THE TIED CARD OF 'shuttlelaw26.WireFeeds'. -/
def wireFeedsCard : Claim7 := { stood := { row := wireFeedsRow, standIns := [], harness := (true, "e51e6966ded2ccedddda60a3e760a16625b278a8ed378de4795fd5a5f4ef4b7b"), looks := false }, kinds := [], alts := [], laidByText := true, laidKinds := [.data, .data, .data, .data, .pinned], laidTests := true, laidLooks := .later }
def WireFeedsCardSaid : Prop := Claim7.holds Tryz.pinned (.plain (OpenSpec.ofChange wireFeedsSpec)) wireFeedsCard

/-- THE TIED CARD OF 'shuttlelaw26.WireDiffs'. -/
def wireDiffsCard : Claim7 := { stood := { row := wireDiffsRow, standIns := [], harness := (true, "e51e6966ded2ccedddda60a3e760a16625b278a8ed378de4795fd5a5f4ef4b7b"), looks := false }, kinds := [], alts := [], laidByText := true, laidKinds := [.data, .data, .data, .data, .pinned], laidTests := true, laidLooks := .later }
def WireDiffsCardSaid : Prop := Claim7.holds Tryz.pinned (.plain (OpenSpec.ofChange wireDiffsSpec)) wireDiffsCard

/-- THE SECOND FORM's CARD OF 'shuttlelaw26.WireRight'. -/
def wireRightUptoCard : Claim7 := { stood := { row := wireRightUptoRow, standIns := [], harness := (true, "e51e6966ded2ccedddda60a3e760a16625b278a8ed378de4795fd5a5f4ef4b7b"), looks := false }, kinds := [], alts := [], laidByText := true, laidKinds := [.data, .data, .data, .data, .pinned], laidTests := true, laidLooks := .later }
def WireRightUptoCardSaid : Prop := Claim7.holds Tryz.pinned (.plain (OpenSpec.upto wireRightSpec)) wireRightUptoCard

/-- THE SECOND FORM's CARD OF 'shuttlelaw26.WireFeeds'. -/
def wireFeedsUptoCard : Claim7 := { stood := { row := wireFeedsUptoRow, standIns := [], harness := (true, "e51e6966ded2ccedddda60a3e760a16625b278a8ed378de4795fd5a5f4ef4b7b"), looks := false }, kinds := [], alts := [], laidByText := true, laidKinds := [.data, .data, .data, .data, .pinned], laidTests := true, laidLooks := .later }
def WireFeedsUptoCardSaid : Prop := Claim7.holds Tryz.pinned (.plain (OpenSpec.upto wireFeedsSpec)) wireFeedsUptoCard

/-- THE SECOND FORM's CARD OF 'shuttlelaw26.WireDiffs'. -/
def wireDiffsUptoCard : Claim7 := { stood := { row := wireDiffsUptoRow, standIns := [], harness := (true, "e51e6966ded2ccedddda60a3e760a16625b278a8ed378de4795fd5a5f4ef4b7b"), looks := false }, kinds := [], alts := [], laidByText := true, laidKinds := [.data, .data, .data, .data, .pinned], laidTests := true, laidLooks := .later }
def WireDiffsUptoCardSaid : Prop := Claim7.holds Tryz.pinned (.plain (OpenSpec.upto wireDiffsSpec)) wireDiffsUptoCard
end Rows
end Go.Proofs.YtjdohhididpomaaGreatDoor
