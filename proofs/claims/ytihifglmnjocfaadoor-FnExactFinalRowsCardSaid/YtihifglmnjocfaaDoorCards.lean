/-
  DERIVED. GIVEN WITH THE SEED: THE CARDS: each row of YtihifglmnjocfaaDoorRows.lean that lists a variable, with what it lists TIED to the program's text (the seventh form; the later family's looks); each row that meets fmt, with fmt's text TOLD by the authors' own Lean function (tested against real Go, not proved from fmt's source: count such statements apart). THE CARD IS WHAT COUNTS. Prove the row's statement (the work); the ties are given (YtihifglmnjocfaaDoorTie.lean); close each card by the builder's one call (the guide's Derived/Test/ToyasCard.lean, 'card_holds'). Laid BY PROGRAM, IN A SANDBOX (cutbox-door.mjs). By AI agents, Wed Nov 11 2026. No macro, syntax, notation, axiom, sorry.
-/
import Derived.Test.YtihifglmnjocfaaDoorRows
import GoSem.ClaimSeven
namespace Go.Proofs.YtihifglmnjocfaaDoor
namespace Rows

/-- THE TIED CARD OF 'laws.FnExactChanceOfFinal'. -/
def fnExactChanceOfFinalCard : Claim7 := { stood := { row := fnExactChanceOfFinalRow, standIns := [], harness := (true, "bfdcde03cfda084f9970c3d7e9a66d5b436b81f45cda47236a3145c89dafd346"), looks := false }, kinds := [], alts := [], laidByText := true, laidKinds := [.data], laidTests := true, laidLooks := .later }
def FnExactChanceOfFinalCardSaid : Prop := Claim7.holds Tryd.pinned (.plain (OpenSpec.ofChange fnExactChanceOfFinalSpec)) fnExactChanceOfFinalCard

/-- THE TIED CARD OF 'laws.FnExactFinalRows'. -/
def fnExactFinalRowsCard : Claim7 := { stood := { row := fnExactFinalRowsRow, standIns := [], harness := (true, "bfdcde03cfda084f9970c3d7e9a66d5b436b81f45cda47236a3145c89dafd346"), looks := false }, kinds := [], alts := [], laidByText := true, laidKinds := [.data], laidTests := true, laidLooks := .later }
def FnExactFinalRowsCardSaid : Prop := Claim7.holds Tryd.pinned (.plain (OpenSpec.ofChange fnExactFinalRowsSpec)) fnExactFinalRowsCard

/-- THE TIED CARD OF 'laws.FnExactIsFinal'. -/
def fnExactIsFinalCard : Claim7 := { stood := { row := fnExactIsFinalRow, standIns := [], harness := (true, "bfdcde03cfda084f9970c3d7e9a66d5b436b81f45cda47236a3145c89dafd346"), looks := false }, kinds := [], alts := [], laidByText := true, laidKinds := [.data], laidTests := true, laidLooks := .later }
def FnExactIsFinalCardSaid : Prop := Claim7.holds Tryd.pinned (.plain (OpenSpec.ofChange fnExactIsFinalSpec)) fnExactIsFinalCard

/-- THE TIED CARD OF 'laws.FnExactSeatChance'. -/
def fnExactSeatChanceCard : Claim7 := { stood := { row := fnExactSeatChanceRow, standIns := [], harness := (true, "bfdcde03cfda084f9970c3d7e9a66d5b436b81f45cda47236a3145c89dafd346"), looks := false }, kinds := [], alts := [], laidByText := true, laidKinds := [.data], laidTests := true, laidLooks := .later }
def FnExactSeatChanceCardSaid : Prop := Claim7.holds Tryd.pinned (.plain (OpenSpec.ofChange fnExactSeatChanceSpec)) fnExactSeatChanceCard

/-- THE SECOND FORM's CARD OF 'laws.FnExactChanceOfFinal'. -/
def fnExactChanceOfFinalUptoCard : Claim7 := { stood := { row := fnExactChanceOfFinalUptoRow, standIns := [], harness := (true, "bfdcde03cfda084f9970c3d7e9a66d5b436b81f45cda47236a3145c89dafd346"), looks := false }, kinds := [], alts := [], laidByText := true, laidKinds := [.data], laidTests := true, laidLooks := .later }
def FnExactChanceOfFinalUptoCardSaid : Prop := Claim7.holds Tryd.pinned (.plain (OpenSpec.upto fnExactChanceOfFinalSpec)) fnExactChanceOfFinalUptoCard

/-- THE SECOND FORM's CARD OF 'laws.FnExactFinalRows'. -/
def fnExactFinalRowsUptoCard : Claim7 := { stood := { row := fnExactFinalRowsUptoRow, standIns := [], harness := (true, "bfdcde03cfda084f9970c3d7e9a66d5b436b81f45cda47236a3145c89dafd346"), looks := false }, kinds := [], alts := [], laidByText := true, laidKinds := [.data], laidTests := true, laidLooks := .later }
def FnExactFinalRowsUptoCardSaid : Prop := Claim7.holds Tryd.pinned (.plain (OpenSpec.upto fnExactFinalRowsSpec)) fnExactFinalRowsUptoCard

/-- THE SECOND FORM's CARD OF 'laws.FnExactIsFinal'. -/
def fnExactIsFinalUptoCard : Claim7 := { stood := { row := fnExactIsFinalUptoRow, standIns := [], harness := (true, "bfdcde03cfda084f9970c3d7e9a66d5b436b81f45cda47236a3145c89dafd346"), looks := false }, kinds := [], alts := [], laidByText := true, laidKinds := [.data], laidTests := true, laidLooks := .later }
def FnExactIsFinalUptoCardSaid : Prop := Claim7.holds Tryd.pinned (.plain (OpenSpec.upto fnExactIsFinalSpec)) fnExactIsFinalUptoCard

/-- THE SECOND FORM's CARD OF 'laws.FnExactSeatChance'. -/
def fnExactSeatChanceUptoCard : Claim7 := { stood := { row := fnExactSeatChanceUptoRow, standIns := [], harness := (true, "bfdcde03cfda084f9970c3d7e9a66d5b436b81f45cda47236a3145c89dafd346"), looks := false }, kinds := [], alts := [], laidByText := true, laidKinds := [.data], laidTests := true, laidLooks := .later }
def FnExactSeatChanceUptoCardSaid : Prop := Claim7.holds Tryd.pinned (.plain (OpenSpec.upto fnExactSeatChanceSpec)) fnExactSeatChanceUptoCard
end Rows
end Go.Proofs.YtihifglmnjocfaaDoor
