/-
  DERIVED. GIVEN WITH THE SEED: THE CARDS: each row of YtoodiahlofeikaaDoorRows.lean that lists a variable, with what it lists TIED to the program's text (the seventh form; the later family's looks); each row that meets fmt, with fmt's text TOLD by the authors' own Lean function (tested against real Go, not proved from fmt's source: count such statements apart). THE CARD IS WHAT COUNTS. Prove the row's statement (the work); the ties are given (YtoodiahlofeikaaDoorTie.lean); close each card by the builder's one call (the guide's Derived/Test/ToyasCard.lean, 'card_holds'). Laid BY PROGRAM, IN A SANDBOX (cutbox-door.mjs). By AI agents, Wed Nov 11 2026. No macro, syntax, notation, axiom, sorry.
-/
import Derived.Test.YtoodiahlofeikaaDoorRows
import GoSem.ClaimSeven
namespace Go.Proofs.YtoodiahlofeikaaDoor
namespace Rows

/-- THE TIED CARD OF 'laws.FnExactSettleCounts'. -/
def fnExactSettleCountsCard : Claim7 := { stood := { row := fnExactSettleCountsRow, standIns := [], harness := (true, "659b396ba91e041a92086f9fcbd2db83670d960c935a562f22d37ec7f7733582"), looks := false }, kinds := [], alts := [], laidByText := true, laidKinds := [.data], laidTests := true, laidLooks := .later }
def FnExactSettleCountsCardSaid : Prop := Claim7.holds Tryd.pinned (.plain (OpenSpec.ofChange fnExactSettleCountsSpec)) fnExactSettleCountsCard

/-- THE TIED CARD OF 'laws.FnExactNextPolite'. -/
def fnExactNextPoliteCard : Claim7 := { stood := { row := fnExactNextPoliteRow, standIns := [], harness := (true, "659b396ba91e041a92086f9fcbd2db83670d960c935a562f22d37ec7f7733582"), looks := false }, kinds := [], alts := [], laidByText := true, laidKinds := [.data], laidTests := true, laidLooks := .later }
def FnExactNextPoliteCardSaid : Prop := Claim7.holds Tryd.pinned (.plain (OpenSpec.ofChange fnExactNextPoliteSpec)) fnExactNextPoliteCard

/-- THE TIED CARD OF 'laws.FnExactPoliteSeats'. -/
def fnExactPoliteSeatsCard : Claim7 := { stood := { row := fnExactPoliteSeatsRow, standIns := [], harness := (true, "659b396ba91e041a92086f9fcbd2db83670d960c935a562f22d37ec7f7733582"), looks := false }, kinds := [], alts := [], laidByText := true, laidKinds := [.data], laidTests := true, laidLooks := .later }
def FnExactPoliteSeatsCardSaid : Prop := Claim7.holds Tryd.pinned (.plain (OpenSpec.ofChange fnExactPoliteSeatsSpec)) fnExactPoliteSeatsCard

/-- THE TIED CARD OF 'laws.FnExactParkBack'. -/
def fnExactParkBackCard : Claim7 := { stood := { row := fnExactParkBackRow, standIns := [], harness := (true, "659b396ba91e041a92086f9fcbd2db83670d960c935a562f22d37ec7f7733582"), looks := false }, kinds := [], alts := [], laidByText := true, laidKinds := [.data], laidTests := true, laidLooks := .later }
def FnExactParkBackCardSaid : Prop := Claim7.holds Tryd.pinned (.plain (OpenSpec.ofChange fnExactParkBackSpec)) fnExactParkBackCard

/-- THE TIED CARD OF 'laws.FnExactParkCars'. -/
def fnExactParkCarsCard : Claim7 := { stood := { row := fnExactParkCarsRow, standIns := [], harness := (true, "659b396ba91e041a92086f9fcbd2db83670d960c935a562f22d37ec7f7733582"), looks := false }, kinds := [], alts := [], laidByText := true, laidKinds := [.data], laidTests := true, laidLooks := .later }
def FnExactParkCarsCardSaid : Prop := Claim7.holds Tryd.pinned (.plain (OpenSpec.ofChange fnExactParkCarsSpec)) fnExactParkCarsCard

/-- THE TIED CARD OF 'laws.FnExactPoliteOrder'. -/
def fnExactPoliteOrderCard : Claim7 := { stood := { row := fnExactPoliteOrderRow, standIns := [], harness := (true, "659b396ba91e041a92086f9fcbd2db83670d960c935a562f22d37ec7f7733582"), looks := false }, kinds := [], alts := [], laidByText := true, laidKinds := [.data], laidTests := true, laidLooks := .later }
def FnExactPoliteOrderCardSaid : Prop := Claim7.holds Tryd.pinned (.plain (OpenSpec.ofChange fnExactPoliteOrderSpec)) fnExactPoliteOrderCard

/-- THE SECOND FORM's CARD OF 'laws.FnExactSettleCounts'. -/
def fnExactSettleCountsUptoCard : Claim7 := { stood := { row := fnExactSettleCountsUptoRow, standIns := [], harness := (true, "659b396ba91e041a92086f9fcbd2db83670d960c935a562f22d37ec7f7733582"), looks := false }, kinds := [], alts := [], laidByText := true, laidKinds := [.data], laidTests := true, laidLooks := .later }
def FnExactSettleCountsUptoCardSaid : Prop := Claim7.holds Tryd.pinned (.plain (OpenSpec.upto fnExactSettleCountsSpec)) fnExactSettleCountsUptoCard

/-- THE SECOND FORM's CARD OF 'laws.FnExactNextPolite'. -/
def fnExactNextPoliteUptoCard : Claim7 := { stood := { row := fnExactNextPoliteUptoRow, standIns := [], harness := (true, "659b396ba91e041a92086f9fcbd2db83670d960c935a562f22d37ec7f7733582"), looks := false }, kinds := [], alts := [], laidByText := true, laidKinds := [.data], laidTests := true, laidLooks := .later }
def FnExactNextPoliteUptoCardSaid : Prop := Claim7.holds Tryd.pinned (.plain (OpenSpec.upto fnExactNextPoliteSpec)) fnExactNextPoliteUptoCard

/-- THE SECOND FORM's CARD OF 'laws.FnExactPoliteSeats'. -/
def fnExactPoliteSeatsUptoCard : Claim7 := { stood := { row := fnExactPoliteSeatsUptoRow, standIns := [], harness := (true, "659b396ba91e041a92086f9fcbd2db83670d960c935a562f22d37ec7f7733582"), looks := false }, kinds := [], alts := [], laidByText := true, laidKinds := [.data], laidTests := true, laidLooks := .later }
def FnExactPoliteSeatsUptoCardSaid : Prop := Claim7.holds Tryd.pinned (.plain (OpenSpec.upto fnExactPoliteSeatsSpec)) fnExactPoliteSeatsUptoCard

/-- THE SECOND FORM's CARD OF 'laws.FnExactParkBack'. -/
def fnExactParkBackUptoCard : Claim7 := { stood := { row := fnExactParkBackUptoRow, standIns := [], harness := (true, "659b396ba91e041a92086f9fcbd2db83670d960c935a562f22d37ec7f7733582"), looks := false }, kinds := [], alts := [], laidByText := true, laidKinds := [.data], laidTests := true, laidLooks := .later }
def FnExactParkBackUptoCardSaid : Prop := Claim7.holds Tryd.pinned (.plain (OpenSpec.upto fnExactParkBackSpec)) fnExactParkBackUptoCard

/-- THE SECOND FORM's CARD OF 'laws.FnExactParkCars'. -/
def fnExactParkCarsUptoCard : Claim7 := { stood := { row := fnExactParkCarsUptoRow, standIns := [], harness := (true, "659b396ba91e041a92086f9fcbd2db83670d960c935a562f22d37ec7f7733582"), looks := false }, kinds := [], alts := [], laidByText := true, laidKinds := [.data], laidTests := true, laidLooks := .later }
def FnExactParkCarsUptoCardSaid : Prop := Claim7.holds Tryd.pinned (.plain (OpenSpec.upto fnExactParkCarsSpec)) fnExactParkCarsUptoCard

/-- THE SECOND FORM's CARD OF 'laws.FnExactPoliteOrder'. -/
def fnExactPoliteOrderUptoCard : Claim7 := { stood := { row := fnExactPoliteOrderUptoRow, standIns := [], harness := (true, "659b396ba91e041a92086f9fcbd2db83670d960c935a562f22d37ec7f7733582"), looks := false }, kinds := [], alts := [], laidByText := true, laidKinds := [.data], laidTests := true, laidLooks := .later }
def FnExactPoliteOrderUptoCardSaid : Prop := Claim7.holds Tryd.pinned (.plain (OpenSpec.upto fnExactPoliteOrderSpec)) fnExactPoliteOrderUptoCard
end Rows
end Go.Proofs.YtoodiahlofeikaaDoor
