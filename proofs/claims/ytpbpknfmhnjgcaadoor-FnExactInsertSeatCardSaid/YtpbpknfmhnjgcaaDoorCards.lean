/-
  DERIVED. GIVEN WITH THE SEED: THE CARDS: each row of YtpbpknfmhnjgcaaDoorRows.lean that lists a variable, with what it lists TIED to the program's text (the seventh form; the later family's looks); each row that meets fmt, with fmt's text TOLD by the authors' own Lean function (tested against real Go, not proved from fmt's source: count such statements apart). THE CARD IS WHAT COUNTS. Prove the row's statement (the work); the ties are given (YtpbpknfmhnjgcaaDoorTie.lean); close each card by the builder's one call (the guide's Derived/Test/ToyasCard.lean, 'card_holds'). Laid BY PROGRAM, IN A SANDBOX (cutbox-door.mjs). By AI agents, Wed Nov 11 2026. No macro, syntax, notation, axiom, sorry.
-/
import Derived.Test.YtpbpknfmhnjgcaaDoorRows
import GoSem.ClaimSeven
namespace Go.Proofs.YtpbpknfmhnjgcaaDoor
namespace Rows

/-- THE TIED CARD OF 'laws.FnExactNearestTaken'. -/
def fnExactNearestTakenCard : Claim7 := { stood := { row := fnExactNearestTakenRow, standIns := [], harness := (true, "1e90d76a1194db514e9fd24ea1ced4b59ad9a56ede23586fee7b89fd49b30434"), looks := false }, kinds := [], alts := [], laidByText := true, laidKinds := [.data], laidTests := true, laidLooks := .later }
def FnExactNearestTakenCardSaid : Prop := Claim7.holds Tryd.pinned (.plain (OpenSpec.ofChange fnExactNearestTakenSpec)) fnExactNearestTakenCard

/-- THE TIED CARD OF 'laws.FnExactOtherSeats'. -/
def fnExactOtherSeatsCard : Claim7 := { stood := { row := fnExactOtherSeatsRow, standIns := [], harness := (true, "1e90d76a1194db514e9fd24ea1ced4b59ad9a56ede23586fee7b89fd49b30434"), looks := false }, kinds := [], alts := [], laidByText := true, laidKinds := [.data], laidTests := true, laidLooks := .later }
def FnExactOtherSeatsCardSaid : Prop := Claim7.holds Tryd.pinned (.plain (OpenSpec.ofChange fnExactOtherSeatsSpec)) fnExactOtherSeatsCard

/-- THE TIED CARD OF 'laws.FnExactPartSeats'. -/
def fnExactPartSeatsCard : Claim7 := { stood := { row := fnExactPartSeatsRow, standIns := [], harness := (true, "1e90d76a1194db514e9fd24ea1ced4b59ad9a56ede23586fee7b89fd49b30434"), looks := false }, kinds := [], alts := [], laidByText := true, laidKinds := [.data], laidTests := true, laidLooks := .later }
def FnExactPartSeatsCardSaid : Prop := Claim7.holds Tryd.pinned (.plain (OpenSpec.ofChange fnExactPartSeatsSpec)) fnExactPartSeatsCard

/-- THE TIED CARD OF 'laws.FnExactLeaveSeat'. -/
def fnExactLeaveSeatCard : Claim7 := { stood := { row := fnExactLeaveSeatRow, standIns := [], harness := (true, "1e90d76a1194db514e9fd24ea1ced4b59ad9a56ede23586fee7b89fd49b30434"), looks := false }, kinds := [], alts := [], laidByText := true, laidKinds := [.data], laidTests := true, laidLooks := .later }
def FnExactLeaveSeatCardSaid : Prop := Claim7.holds Tryd.pinned (.plain (OpenSpec.ofChange fnExactLeaveSeatSpec)) fnExactLeaveSeatCard

/-- THE TIED CARD OF 'laws.FnExactTakeSeat'. -/
def fnExactTakeSeatCard : Claim7 := { stood := { row := fnExactTakeSeatRow, standIns := [], harness := (true, "1e90d76a1194db514e9fd24ea1ced4b59ad9a56ede23586fee7b89fd49b30434"), looks := false }, kinds := [], alts := [], laidByText := true, laidKinds := [.data], laidTests := true, laidLooks := .later }
def FnExactTakeSeatCardSaid : Prop := Claim7.holds Tryd.pinned (.plain (OpenSpec.ofChange fnExactTakeSeatSpec)) fnExactTakeSeatCard

/-- THE TIED CARD OF 'laws.FnExactSeatNeighbors'. -/
def fnExactSeatNeighborsCard : Claim7 := { stood := { row := fnExactSeatNeighborsRow, standIns := [], harness := (true, "1e90d76a1194db514e9fd24ea1ced4b59ad9a56ede23586fee7b89fd49b30434"), looks := false }, kinds := [], alts := [], laidByText := true, laidKinds := [.data], laidTests := true, laidLooks := .later }
def FnExactSeatNeighborsCardSaid : Prop := Claim7.holds Tryd.pinned (.plain (OpenSpec.ofChange fnExactSeatNeighborsSpec)) fnExactSeatNeighborsCard

/-- THE TIED CARD OF 'laws.FnExactInsertSeat'. -/
def fnExactInsertSeatCard : Claim7 := { stood := { row := fnExactInsertSeatRow, standIns := [], harness := (true, "1e90d76a1194db514e9fd24ea1ced4b59ad9a56ede23586fee7b89fd49b30434"), looks := false }, kinds := [], alts := [], laidByText := true, laidKinds := [.data], laidTests := true, laidLooks := .later }
def FnExactInsertSeatCardSaid : Prop := Claim7.holds Tryd.pinned (.plain (OpenSpec.ofChange fnExactInsertSeatSpec)) fnExactInsertSeatCard

/-- THE TIED CARD OF 'laws.FnExactNearestFree'. -/
def fnExactNearestFreeCard : Claim7 := { stood := { row := fnExactNearestFreeRow, standIns := [], harness := (true, "1e90d76a1194db514e9fd24ea1ced4b59ad9a56ede23586fee7b89fd49b30434"), looks := false }, kinds := [], alts := [], laidByText := true, laidKinds := [.data], laidTests := true, laidLooks := .later }
def FnExactNearestFreeCardSaid : Prop := Claim7.holds Tryd.pinned (.plain (OpenSpec.ofChange fnExactNearestFreeSpec)) fnExactNearestFreeCard

/-- THE TIED CARD OF 'laws.FnExactFarnessOf'. -/
def fnExactFarnessOfCard : Claim7 := { stood := { row := fnExactFarnessOfRow, standIns := [], harness := (true, "1e90d76a1194db514e9fd24ea1ced4b59ad9a56ede23586fee7b89fd49b30434"), looks := false }, kinds := [], alts := [], laidByText := true, laidKinds := [.data], laidTests := true, laidLooks := .later }
def FnExactFarnessOfCardSaid : Prop := Claim7.holds Tryd.pinned (.plain (OpenSpec.ofChange fnExactFarnessOfSpec)) fnExactFarnessOfCard

/-- THE TIED CARD OF 'laws.FnExactLonelySeats'. -/
def fnExactLonelySeatsCard : Claim7 := { stood := { row := fnExactLonelySeatsRow, standIns := [], harness := (true, "1e90d76a1194db514e9fd24ea1ced4b59ad9a56ede23586fee7b89fd49b30434"), looks := false }, kinds := [], alts := [], laidByText := true, laidKinds := [.data], laidTests := true, laidLooks := .later }
def FnExactLonelySeatsCardSaid : Prop := Claim7.holds Tryd.pinned (.plain (OpenSpec.ofChange fnExactLonelySeatsSpec)) fnExactLonelySeatsCard

/-- THE SECOND FORM's CARD OF 'laws.FnExactNearestTaken'. -/
def fnExactNearestTakenUptoCard : Claim7 := { stood := { row := fnExactNearestTakenUptoRow, standIns := [], harness := (true, "1e90d76a1194db514e9fd24ea1ced4b59ad9a56ede23586fee7b89fd49b30434"), looks := false }, kinds := [], alts := [], laidByText := true, laidKinds := [.data], laidTests := true, laidLooks := .later }
def FnExactNearestTakenUptoCardSaid : Prop := Claim7.holds Tryd.pinned (.plain (OpenSpec.upto fnExactNearestTakenSpec)) fnExactNearestTakenUptoCard

/-- THE SECOND FORM's CARD OF 'laws.FnExactOtherSeats'. -/
def fnExactOtherSeatsUptoCard : Claim7 := { stood := { row := fnExactOtherSeatsUptoRow, standIns := [], harness := (true, "1e90d76a1194db514e9fd24ea1ced4b59ad9a56ede23586fee7b89fd49b30434"), looks := false }, kinds := [], alts := [], laidByText := true, laidKinds := [.data], laidTests := true, laidLooks := .later }
def FnExactOtherSeatsUptoCardSaid : Prop := Claim7.holds Tryd.pinned (.plain (OpenSpec.upto fnExactOtherSeatsSpec)) fnExactOtherSeatsUptoCard

/-- THE SECOND FORM's CARD OF 'laws.FnExactPartSeats'. -/
def fnExactPartSeatsUptoCard : Claim7 := { stood := { row := fnExactPartSeatsUptoRow, standIns := [], harness := (true, "1e90d76a1194db514e9fd24ea1ced4b59ad9a56ede23586fee7b89fd49b30434"), looks := false }, kinds := [], alts := [], laidByText := true, laidKinds := [.data], laidTests := true, laidLooks := .later }
def FnExactPartSeatsUptoCardSaid : Prop := Claim7.holds Tryd.pinned (.plain (OpenSpec.upto fnExactPartSeatsSpec)) fnExactPartSeatsUptoCard

/-- THE SECOND FORM's CARD OF 'laws.FnExactLeaveSeat'. -/
def fnExactLeaveSeatUptoCard : Claim7 := { stood := { row := fnExactLeaveSeatUptoRow, standIns := [], harness := (true, "1e90d76a1194db514e9fd24ea1ced4b59ad9a56ede23586fee7b89fd49b30434"), looks := false }, kinds := [], alts := [], laidByText := true, laidKinds := [.data], laidTests := true, laidLooks := .later }
def FnExactLeaveSeatUptoCardSaid : Prop := Claim7.holds Tryd.pinned (.plain (OpenSpec.upto fnExactLeaveSeatSpec)) fnExactLeaveSeatUptoCard

/-- THE SECOND FORM's CARD OF 'laws.FnExactTakeSeat'. -/
def fnExactTakeSeatUptoCard : Claim7 := { stood := { row := fnExactTakeSeatUptoRow, standIns := [], harness := (true, "1e90d76a1194db514e9fd24ea1ced4b59ad9a56ede23586fee7b89fd49b30434"), looks := false }, kinds := [], alts := [], laidByText := true, laidKinds := [.data], laidTests := true, laidLooks := .later }
def FnExactTakeSeatUptoCardSaid : Prop := Claim7.holds Tryd.pinned (.plain (OpenSpec.upto fnExactTakeSeatSpec)) fnExactTakeSeatUptoCard

/-- THE SECOND FORM's CARD OF 'laws.FnExactSeatNeighbors'. -/
def fnExactSeatNeighborsUptoCard : Claim7 := { stood := { row := fnExactSeatNeighborsUptoRow, standIns := [], harness := (true, "1e90d76a1194db514e9fd24ea1ced4b59ad9a56ede23586fee7b89fd49b30434"), looks := false }, kinds := [], alts := [], laidByText := true, laidKinds := [.data], laidTests := true, laidLooks := .later }
def FnExactSeatNeighborsUptoCardSaid : Prop := Claim7.holds Tryd.pinned (.plain (OpenSpec.upto fnExactSeatNeighborsSpec)) fnExactSeatNeighborsUptoCard

/-- THE SECOND FORM's CARD OF 'laws.FnExactInsertSeat'. -/
def fnExactInsertSeatUptoCard : Claim7 := { stood := { row := fnExactInsertSeatUptoRow, standIns := [], harness := (true, "1e90d76a1194db514e9fd24ea1ced4b59ad9a56ede23586fee7b89fd49b30434"), looks := false }, kinds := [], alts := [], laidByText := true, laidKinds := [.data], laidTests := true, laidLooks := .later }
def FnExactInsertSeatUptoCardSaid : Prop := Claim7.holds Tryd.pinned (.plain (OpenSpec.upto fnExactInsertSeatSpec)) fnExactInsertSeatUptoCard

/-- THE SECOND FORM's CARD OF 'laws.FnExactNearestFree'. -/
def fnExactNearestFreeUptoCard : Claim7 := { stood := { row := fnExactNearestFreeUptoRow, standIns := [], harness := (true, "1e90d76a1194db514e9fd24ea1ced4b59ad9a56ede23586fee7b89fd49b30434"), looks := false }, kinds := [], alts := [], laidByText := true, laidKinds := [.data], laidTests := true, laidLooks := .later }
def FnExactNearestFreeUptoCardSaid : Prop := Claim7.holds Tryd.pinned (.plain (OpenSpec.upto fnExactNearestFreeSpec)) fnExactNearestFreeUptoCard

/-- THE SECOND FORM's CARD OF 'laws.FnExactFarnessOf'. -/
def fnExactFarnessOfUptoCard : Claim7 := { stood := { row := fnExactFarnessOfUptoRow, standIns := [], harness := (true, "1e90d76a1194db514e9fd24ea1ced4b59ad9a56ede23586fee7b89fd49b30434"), looks := false }, kinds := [], alts := [], laidByText := true, laidKinds := [.data], laidTests := true, laidLooks := .later }
def FnExactFarnessOfUptoCardSaid : Prop := Claim7.holds Tryd.pinned (.plain (OpenSpec.upto fnExactFarnessOfSpec)) fnExactFarnessOfUptoCard

/-- THE SECOND FORM's CARD OF 'laws.FnExactLonelySeats'. -/
def fnExactLonelySeatsUptoCard : Claim7 := { stood := { row := fnExactLonelySeatsUptoRow, standIns := [], harness := (true, "1e90d76a1194db514e9fd24ea1ced4b59ad9a56ede23586fee7b89fd49b30434"), looks := false }, kinds := [], alts := [], laidByText := true, laidKinds := [.data], laidTests := true, laidLooks := .later }
def FnExactLonelySeatsUptoCardSaid : Prop := Claim7.holds Tryd.pinned (.plain (OpenSpec.upto fnExactLonelySeatsSpec)) fnExactLonelySeatsUptoCard
end Rows
end Go.Proofs.YtpbpknfmhnjgcaaDoor
