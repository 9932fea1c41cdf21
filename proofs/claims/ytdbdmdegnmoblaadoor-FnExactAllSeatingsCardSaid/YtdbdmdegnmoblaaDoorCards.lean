/-
  DERIVED. GIVEN WITH THE SEED: THE CARDS: each row of YtdbdmdegnmoblaaDoorRows.lean that lists a variable, with what it lists TIED to the program's text (the seventh form; the later family's looks); each row that meets fmt, with fmt's text TOLD by the authors' own Lean function (tested against real Go, not proved from fmt's source: count such statements apart). THE CARD IS WHAT COUNTS. Prove the row's statement (the work); the ties are given (YtdbdmdegnmoblaaDoorTie.lean); close each card by the builder's one call (the guide's Derived/Test/ToyasCard.lean, 'card_holds'). Laid BY PROGRAM, IN A SANDBOX (cutbox-door.mjs). By AI agents, Wed Nov 11 2026. No macro, syntax, notation, axiom, sorry.
-/
import Derived.Test.YtdbdmdegnmoblaaDoorRows
import GoSem.ClaimSeven
namespace Go.Proofs.YtdbdmdegnmoblaaDoor
namespace Rows

/-- THE TIED CARD OF 'laws.FnExactSettleRun'. -/
def fnExactSettleRunCard : Claim7 := { stood := { row := fnExactSettleRunRow, standIns := [], harness := (true, "8fd8436abb2b5351cc462507d8a8d4246ab49004f8433b9ef798771b00f210f3"), looks := false }, kinds := [], alts := [], laidByText := true, laidKinds := [.data], laidTests := true, laidLooks := .later }
def FnExactSettleRunCardSaid : Prop := Claim7.holds Tryd.pinned (.plain (OpenSpec.ofChange fnExactSettleRunSpec)) fnExactSettleRunCard

/-- THE TIED CARD OF 'laws.FnExactAllSeatings'. -/
def fnExactAllSeatingsCard : Claim7 := { stood := { row := fnExactAllSeatingsRow, standIns := [], harness := (true, "8fd8436abb2b5351cc462507d8a8d4246ab49004f8433b9ef798771b00f210f3"), looks := false }, kinds := [], alts := [], laidByText := true, laidKinds := [.data], laidTests := true, laidLooks := .later }
def FnExactAllSeatingsCardSaid : Prop := Claim7.holds Tryd.pinned (.plain (OpenSpec.ofChange fnExactAllSeatingsSpec)) fnExactAllSeatingsCard

/-- THE TIED CARD OF 'laws.FnExactMirrorSeats'. -/
def fnExactMirrorSeatsCard : Claim7 := { stood := { row := fnExactMirrorSeatsRow, standIns := [], harness := (true, "8fd8436abb2b5351cc462507d8a8d4246ab49004f8433b9ef798771b00f210f3"), looks := false }, kinds := [], alts := [], laidByText := true, laidKinds := [.data], laidTests := true, laidLooks := .later }
def FnExactMirrorSeatsCardSaid : Prop := Claim7.holds Tryd.pinned (.plain (OpenSpec.ofChange fnExactMirrorSeatsSpec)) fnExactMirrorSeatsCard

/-- THE TIED CARD OF 'laws.FnExactJoinSeats'. -/
def fnExactJoinSeatsCard : Claim7 := { stood := { row := fnExactJoinSeatsRow, standIns := [], harness := (true, "8fd8436abb2b5351cc462507d8a8d4246ab49004f8433b9ef798771b00f210f3"), looks := false }, kinds := [], alts := [], laidByText := true, laidKinds := [.data], laidTests := true, laidLooks := .later }
def FnExactJoinSeatsCardSaid : Prop := Claim7.holds Tryd.pinned (.plain (OpenSpec.ofChange fnExactJoinSeatsSpec)) fnExactJoinSeatsCard

/-- THE TIED CARD OF 'laws.FnExactFreeSeats'. -/
def fnExactFreeSeatsCard : Claim7 := { stood := { row := fnExactFreeSeatsRow, standIns := [], harness := (true, "8fd8436abb2b5351cc462507d8a8d4246ab49004f8433b9ef798771b00f210f3"), looks := false }, kinds := [], alts := [], laidByText := true, laidKinds := [.data], laidTests := true, laidLooks := .later }
def FnExactFreeSeatsCardSaid : Prop := Claim7.holds Tryd.pinned (.plain (OpenSpec.ofChange fnExactFreeSeatsSpec)) fnExactFreeSeatsCard

/-- THE TIED CARD OF 'laws.FnExactTurnSeats'. -/
def fnExactTurnSeatsCard : Claim7 := { stood := { row := fnExactTurnSeatsRow, standIns := [], harness := (true, "8fd8436abb2b5351cc462507d8a8d4246ab49004f8433b9ef798771b00f210f3"), looks := false }, kinds := [], alts := [], laidByText := true, laidKinds := [.data], laidTests := true, laidLooks := .later }
def FnExactTurnSeatsCardSaid : Prop := Claim7.holds Tryd.pinned (.plain (OpenSpec.ofChange fnExactTurnSeatsSpec)) fnExactTurnSeatsCard

/-- THE SECOND FORM's CARD OF 'laws.FnExactSettleRun'. -/
def fnExactSettleRunUptoCard : Claim7 := { stood := { row := fnExactSettleRunUptoRow, standIns := [], harness := (true, "8fd8436abb2b5351cc462507d8a8d4246ab49004f8433b9ef798771b00f210f3"), looks := false }, kinds := [], alts := [], laidByText := true, laidKinds := [.data], laidTests := true, laidLooks := .later }
def FnExactSettleRunUptoCardSaid : Prop := Claim7.holds Tryd.pinned (.plain (OpenSpec.upto fnExactSettleRunSpec)) fnExactSettleRunUptoCard

/-- THE SECOND FORM's CARD OF 'laws.FnExactAllSeatings'. -/
def fnExactAllSeatingsUptoCard : Claim7 := { stood := { row := fnExactAllSeatingsUptoRow, standIns := [], harness := (true, "8fd8436abb2b5351cc462507d8a8d4246ab49004f8433b9ef798771b00f210f3"), looks := false }, kinds := [], alts := [], laidByText := true, laidKinds := [.data], laidTests := true, laidLooks := .later }
def FnExactAllSeatingsUptoCardSaid : Prop := Claim7.holds Tryd.pinned (.plain (OpenSpec.upto fnExactAllSeatingsSpec)) fnExactAllSeatingsUptoCard

/-- THE SECOND FORM's CARD OF 'laws.FnExactMirrorSeats'. -/
def fnExactMirrorSeatsUptoCard : Claim7 := { stood := { row := fnExactMirrorSeatsUptoRow, standIns := [], harness := (true, "8fd8436abb2b5351cc462507d8a8d4246ab49004f8433b9ef798771b00f210f3"), looks := false }, kinds := [], alts := [], laidByText := true, laidKinds := [.data], laidTests := true, laidLooks := .later }
def FnExactMirrorSeatsUptoCardSaid : Prop := Claim7.holds Tryd.pinned (.plain (OpenSpec.upto fnExactMirrorSeatsSpec)) fnExactMirrorSeatsUptoCard

/-- THE SECOND FORM's CARD OF 'laws.FnExactJoinSeats'. -/
def fnExactJoinSeatsUptoCard : Claim7 := { stood := { row := fnExactJoinSeatsUptoRow, standIns := [], harness := (true, "8fd8436abb2b5351cc462507d8a8d4246ab49004f8433b9ef798771b00f210f3"), looks := false }, kinds := [], alts := [], laidByText := true, laidKinds := [.data], laidTests := true, laidLooks := .later }
def FnExactJoinSeatsUptoCardSaid : Prop := Claim7.holds Tryd.pinned (.plain (OpenSpec.upto fnExactJoinSeatsSpec)) fnExactJoinSeatsUptoCard

/-- THE SECOND FORM's CARD OF 'laws.FnExactFreeSeats'. -/
def fnExactFreeSeatsUptoCard : Claim7 := { stood := { row := fnExactFreeSeatsUptoRow, standIns := [], harness := (true, "8fd8436abb2b5351cc462507d8a8d4246ab49004f8433b9ef798771b00f210f3"), looks := false }, kinds := [], alts := [], laidByText := true, laidKinds := [.data], laidTests := true, laidLooks := .later }
def FnExactFreeSeatsUptoCardSaid : Prop := Claim7.holds Tryd.pinned (.plain (OpenSpec.upto fnExactFreeSeatsSpec)) fnExactFreeSeatsUptoCard

/-- THE SECOND FORM's CARD OF 'laws.FnExactTurnSeats'. -/
def fnExactTurnSeatsUptoCard : Claim7 := { stood := { row := fnExactTurnSeatsUptoRow, standIns := [], harness := (true, "8fd8436abb2b5351cc462507d8a8d4246ab49004f8433b9ef798771b00f210f3"), looks := false }, kinds := [], alts := [], laidByText := true, laidKinds := [.data], laidTests := true, laidLooks := .later }
def FnExactTurnSeatsUptoCardSaid : Prop := Claim7.holds Tryd.pinned (.plain (OpenSpec.upto fnExactTurnSeatsSpec)) fnExactTurnSeatsUptoCard
end Rows
end Go.Proofs.YtdbdmdegnmoblaaDoor
