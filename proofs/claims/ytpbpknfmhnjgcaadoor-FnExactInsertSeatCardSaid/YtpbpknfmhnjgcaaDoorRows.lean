/-
  NARROWER THAN 'FOR EVERY INPUT', by the rows' own cells (each row's printed sentence says how): FnExactNearestTaken: laid · FnExactOtherSeats: laid · FnExactPartSeats: laid · FnExactLeaveSeat: laid · FnExactTakeSeat: laid · FnExactSeatNeighbors: laid · FnExactInsertSeat: laid · FnExactNearestFree: laid · FnExactFarnessOf: laid · FnExactLonelySeats: laid.
  DERIVED. THE GIVEN ROWS OF THIS SEAT. 10 by the template 'for every input the law returns true; each argument reads behind the call as it read before'; 0 by the template 'total and deterministic' (their statements: YtpbpknfmhnjgcaaDoorTotals.lean).
  GIVEN WITH THE SEED: the statements are not yours to turn. If you find one false, say at which input.
  Laid BY PROGRAM, IN A SANDBOX (cutbox-rows.mjs): the forced cells as the released guide's own fill.sh prints them over the translation 27527c1adeae395f… (all of the seat's roots in one cut). By AI agents, Wed Nov 11 2026. No macro, syntax, notation, axiom, sorry.
-/
import Derived.Test.YtpbpknfmhnjgcaaDoorChecked
import GoSem.Claim
import GoSem.ClaimJoined
import GoSem.ClaimMapViews
import Derived.JoinedTies
import Derived.KernelRfl
namespace Go.Proofs.YtpbpknfmhnjgcaaDoor
/- THE CELL 'sum', in the pinned program and in every row, IS THE sha256 OF THE DUMP (.gsa) THAT YtpbpknfmhnjgcaaDoorProg.lean LOADS. Nothing in Lean hashes anything: it is a label: what it is worth is what the hold of that sum in a sandbox is worth. -/
noncomputable def Tryd.pinned : Pinned := { name := "ytpbpknfmhnjgcaadoor", sum := "27527c1adeae395f8f00d6f05ce11b2017eaaa214751e827d5e51e82945d2dd1", checked := Tryd.checked }
namespace Rows
def none {H : Type} : Left H := { results := [], args := [] }

/- WHAT THE LISTED PACKAGE-LEVEL VARIABLES READ AS WHEN THE CALL BEGINS. Each datum BY PROGRAM (the guide's laid-datum.mjs) off the statement by which the dump's own 'gosem.cut.vars' lays the variable. In a bare row this is a premise. The card (YtpbpknfmhnjgcaaDoorCards.lean) ties it to the program's text. -/
def laid_math_bits_deBruijn32tab {H : Type} : DataW H := .agg [.lit (.int .u8 0), .lit (.int .u8 1), .lit (.int .u8 28), .lit (.int .u8 2), .lit (.int .u8 29), .lit (.int .u8 14), .lit (.int .u8 24), .lit (.int .u8 3), .lit (.int .u8 30), .lit (.int .u8 22), .lit (.int .u8 20), .lit (.int .u8 15), .lit (.int .u8 25), .lit (.int .u8 17), .lit (.int .u8 4), .lit (.int .u8 8), .lit (.int .u8 31), .lit (.int .u8 27), .lit (.int .u8 13), .lit (.int .u8 23), .lit (.int .u8 21), .lit (.int .u8 19), .lit (.int .u8 16), .lit (.int .u8 7), .lit (.int .u8 26), .lit (.int .u8 12), .lit (.int .u8 18), .lit (.int .u8 6), .lit (.int .u8 11), .lit (.int .u8 5), .lit (.int .u8 10), .lit (.int .u8 9)]

/-- 'laws.FnExactNearestTaken': WHATEVER THE INPUT: true; the input reads as it did. -/
def fnExactNearestTakenSpec : ChangeSpec := { name := "fnExactNearestTaken", fn := fun _ => fun
  | [d1, d2] => { results := [.lit (.bool true)], args := [d1, d2] }
  | _ => none }
def fnExactNearestTakenRow : OpenClaim := { program := "ytpbpknfmhnjgcaadoor", sum := "27527c1adeae395f8f00d6f05ce11b2017eaaa214751e827d5e51e82945d2dd1", func := "loop.example/g01167/laws.FnExactNearestTaken", spec := "fnExactNearestTaken", named := ["math/bits.deBruijn32tab"], apart := false, laid := [("math/bits.deBruijn32tab", laid_math_bits_deBruijn32tab)] }
def FnExactNearestTakenSaid : Prop := fnExactNearestTakenRow.holds Tryd.pinned (OpenSpec.ofChange fnExactNearestTakenSpec)

/-- ITS FALSE NEIGHBOUR: 'it returns false'. Refute it at one input. -/
def fnExactNearestTakenWrong : ChangeSpec := { name := "fnExactNearestTaken", fn := fun _ => fun
  | [d1, d2] => { results := [.lit (.bool false)], args := [d1, d2] }
  | _ => none }
def FnExactNearestTakenWrongFalsely : Prop := fnExactNearestTakenRow.holds Tryd.pinned (OpenSpec.ofChange fnExactNearestTakenWrong)

/-- 'laws.FnExactOtherSeats': WHATEVER THE INPUT: true; the input reads as it did. -/
def fnExactOtherSeatsSpec : ChangeSpec := { name := "fnExactOtherSeats", fn := fun _ => fun
  | [d] => { results := [.lit (.bool true)], args := [d] }
  | _ => none }
def fnExactOtherSeatsRow : OpenClaim := { program := "ytpbpknfmhnjgcaadoor", sum := "27527c1adeae395f8f00d6f05ce11b2017eaaa214751e827d5e51e82945d2dd1", func := "loop.example/g01167/laws.FnExactOtherSeats", spec := "fnExactOtherSeats", named := ["math/bits.deBruijn32tab"], apart := false, laid := [("math/bits.deBruijn32tab", laid_math_bits_deBruijn32tab)] }
def FnExactOtherSeatsSaid : Prop := fnExactOtherSeatsRow.holds Tryd.pinned (OpenSpec.ofChange fnExactOtherSeatsSpec)

/-- ITS FALSE NEIGHBOUR: 'it returns false'. Refute it at one input. -/
def fnExactOtherSeatsWrong : ChangeSpec := { name := "fnExactOtherSeats", fn := fun _ => fun
  | [d] => { results := [.lit (.bool false)], args := [d] }
  | _ => none }
def FnExactOtherSeatsWrongFalsely : Prop := fnExactOtherSeatsRow.holds Tryd.pinned (OpenSpec.ofChange fnExactOtherSeatsWrong)

/-- 'laws.FnExactPartSeats': WHATEVER THE INPUT: true; the input reads as it did. -/
def fnExactPartSeatsSpec : ChangeSpec := { name := "fnExactPartSeats", fn := fun _ => fun
  | [d1, d2, d3] => { results := [.lit (.bool true)], args := [d1, d2, d3] }
  | _ => none }
def fnExactPartSeatsRow : OpenClaim := { program := "ytpbpknfmhnjgcaadoor", sum := "27527c1adeae395f8f00d6f05ce11b2017eaaa214751e827d5e51e82945d2dd1", func := "loop.example/g01167/laws.FnExactPartSeats", spec := "fnExactPartSeats", named := ["math/bits.deBruijn32tab"], apart := false, laid := [("math/bits.deBruijn32tab", laid_math_bits_deBruijn32tab)] }
def FnExactPartSeatsSaid : Prop := fnExactPartSeatsRow.holds Tryd.pinned (OpenSpec.ofChange fnExactPartSeatsSpec)

/-- ITS FALSE NEIGHBOUR: 'it returns false'. Refute it at one input. -/
def fnExactPartSeatsWrong : ChangeSpec := { name := "fnExactPartSeats", fn := fun _ => fun
  | [d1, d2, d3] => { results := [.lit (.bool false)], args := [d1, d2, d3] }
  | _ => none }
def FnExactPartSeatsWrongFalsely : Prop := fnExactPartSeatsRow.holds Tryd.pinned (OpenSpec.ofChange fnExactPartSeatsWrong)

/-- 'laws.FnExactLeaveSeat': WHATEVER THE INPUT: true; the input reads as it did. -/
def fnExactLeaveSeatSpec : ChangeSpec := { name := "fnExactLeaveSeat", fn := fun _ => fun
  | [d1, d2] => { results := [.lit (.bool true)], args := [d1, d2] }
  | _ => none }
def fnExactLeaveSeatRow : OpenClaim := { program := "ytpbpknfmhnjgcaadoor", sum := "27527c1adeae395f8f00d6f05ce11b2017eaaa214751e827d5e51e82945d2dd1", func := "loop.example/g01167/laws.FnExactLeaveSeat", spec := "fnExactLeaveSeat", named := ["math/bits.deBruijn32tab"], apart := false, laid := [("math/bits.deBruijn32tab", laid_math_bits_deBruijn32tab)] }
def FnExactLeaveSeatSaid : Prop := fnExactLeaveSeatRow.holds Tryd.pinned (OpenSpec.ofChange fnExactLeaveSeatSpec)

/-- ITS FALSE NEIGHBOUR: 'it returns false'. Refute it at one input. -/
def fnExactLeaveSeatWrong : ChangeSpec := { name := "fnExactLeaveSeat", fn := fun _ => fun
  | [d1, d2] => { results := [.lit (.bool false)], args := [d1, d2] }
  | _ => none }
def FnExactLeaveSeatWrongFalsely : Prop := fnExactLeaveSeatRow.holds Tryd.pinned (OpenSpec.ofChange fnExactLeaveSeatWrong)

/-- 'laws.FnExactTakeSeat': WHATEVER THE INPUT: true; the input reads as it did. -/
def fnExactTakeSeatSpec : ChangeSpec := { name := "fnExactTakeSeat", fn := fun _ => fun
  | [d1, d2] => { results := [.lit (.bool true)], args := [d1, d2] }
  | _ => none }
def fnExactTakeSeatRow : OpenClaim := { program := "ytpbpknfmhnjgcaadoor", sum := "27527c1adeae395f8f00d6f05ce11b2017eaaa214751e827d5e51e82945d2dd1", func := "loop.example/g01167/laws.FnExactTakeSeat", spec := "fnExactTakeSeat", named := ["math/bits.deBruijn32tab"], apart := false, laid := [("math/bits.deBruijn32tab", laid_math_bits_deBruijn32tab)] }
def FnExactTakeSeatSaid : Prop := fnExactTakeSeatRow.holds Tryd.pinned (OpenSpec.ofChange fnExactTakeSeatSpec)

/-- ITS FALSE NEIGHBOUR: 'it returns false'. Refute it at one input. -/
def fnExactTakeSeatWrong : ChangeSpec := { name := "fnExactTakeSeat", fn := fun _ => fun
  | [d1, d2] => { results := [.lit (.bool false)], args := [d1, d2] }
  | _ => none }
def FnExactTakeSeatWrongFalsely : Prop := fnExactTakeSeatRow.holds Tryd.pinned (OpenSpec.ofChange fnExactTakeSeatWrong)

/-- 'laws.FnExactSeatNeighbors': WHATEVER THE INPUT: true; the input reads as it did. -/
def fnExactSeatNeighborsSpec : ChangeSpec := { name := "fnExactSeatNeighbors", fn := fun _ => fun
  | [d1, d2] => { results := [.lit (.bool true)], args := [d1, d2] }
  | _ => none }
def fnExactSeatNeighborsRow : OpenClaim := { program := "ytpbpknfmhnjgcaadoor", sum := "27527c1adeae395f8f00d6f05ce11b2017eaaa214751e827d5e51e82945d2dd1", func := "loop.example/g01167/laws.FnExactSeatNeighbors", spec := "fnExactSeatNeighbors", named := ["math/bits.deBruijn32tab"], apart := false, laid := [("math/bits.deBruijn32tab", laid_math_bits_deBruijn32tab)] }
def FnExactSeatNeighborsSaid : Prop := fnExactSeatNeighborsRow.holds Tryd.pinned (OpenSpec.ofChange fnExactSeatNeighborsSpec)

/-- ITS FALSE NEIGHBOUR: 'it returns false'. Refute it at one input. -/
def fnExactSeatNeighborsWrong : ChangeSpec := { name := "fnExactSeatNeighbors", fn := fun _ => fun
  | [d1, d2] => { results := [.lit (.bool false)], args := [d1, d2] }
  | _ => none }
def FnExactSeatNeighborsWrongFalsely : Prop := fnExactSeatNeighborsRow.holds Tryd.pinned (OpenSpec.ofChange fnExactSeatNeighborsWrong)

/-- 'laws.FnExactInsertSeat': WHATEVER THE INPUT: true; the input reads as it did. -/
def fnExactInsertSeatSpec : ChangeSpec := { name := "fnExactInsertSeat", fn := fun _ => fun
  | [d1, d2, d3] => { results := [.lit (.bool true)], args := [d1, d2, d3] }
  | _ => none }
def fnExactInsertSeatRow : OpenClaim := { program := "ytpbpknfmhnjgcaadoor", sum := "27527c1adeae395f8f00d6f05ce11b2017eaaa214751e827d5e51e82945d2dd1", func := "loop.example/g01167/laws.FnExactInsertSeat", spec := "fnExactInsertSeat", named := ["math/bits.deBruijn32tab"], apart := false, laid := [("math/bits.deBruijn32tab", laid_math_bits_deBruijn32tab)] }
def FnExactInsertSeatSaid : Prop := fnExactInsertSeatRow.holds Tryd.pinned (OpenSpec.ofChange fnExactInsertSeatSpec)

/-- ITS FALSE NEIGHBOUR: 'it returns false'. Refute it at one input. -/
def fnExactInsertSeatWrong : ChangeSpec := { name := "fnExactInsertSeat", fn := fun _ => fun
  | [d1, d2, d3] => { results := [.lit (.bool false)], args := [d1, d2, d3] }
  | _ => none }
def FnExactInsertSeatWrongFalsely : Prop := fnExactInsertSeatRow.holds Tryd.pinned (OpenSpec.ofChange fnExactInsertSeatWrong)

/-- 'laws.FnExactNearestFree': WHATEVER THE INPUT: true; the input reads as it did. -/
def fnExactNearestFreeSpec : ChangeSpec := { name := "fnExactNearestFree", fn := fun _ => fun
  | [d1, d2] => { results := [.lit (.bool true)], args := [d1, d2] }
  | _ => none }
def fnExactNearestFreeRow : OpenClaim := { program := "ytpbpknfmhnjgcaadoor", sum := "27527c1adeae395f8f00d6f05ce11b2017eaaa214751e827d5e51e82945d2dd1", func := "loop.example/g01167/laws.FnExactNearestFree", spec := "fnExactNearestFree", named := ["math/bits.deBruijn32tab"], apart := false, laid := [("math/bits.deBruijn32tab", laid_math_bits_deBruijn32tab)] }
def FnExactNearestFreeSaid : Prop := fnExactNearestFreeRow.holds Tryd.pinned (OpenSpec.ofChange fnExactNearestFreeSpec)

/-- ITS FALSE NEIGHBOUR: 'it returns false'. Refute it at one input. -/
def fnExactNearestFreeWrong : ChangeSpec := { name := "fnExactNearestFree", fn := fun _ => fun
  | [d1, d2] => { results := [.lit (.bool false)], args := [d1, d2] }
  | _ => none }
def FnExactNearestFreeWrongFalsely : Prop := fnExactNearestFreeRow.holds Tryd.pinned (OpenSpec.ofChange fnExactNearestFreeWrong)

/-- 'laws.FnExactFarnessOf': WHATEVER THE INPUT: true; the input reads as it did. -/
def fnExactFarnessOfSpec : ChangeSpec := { name := "fnExactFarnessOf", fn := fun _ => fun
  | [d] => { results := [.lit (.bool true)], args := [d] }
  | _ => none }
def fnExactFarnessOfRow : OpenClaim := { program := "ytpbpknfmhnjgcaadoor", sum := "27527c1adeae395f8f00d6f05ce11b2017eaaa214751e827d5e51e82945d2dd1", func := "loop.example/g01167/laws.FnExactFarnessOf", spec := "fnExactFarnessOf", named := ["math/bits.deBruijn32tab"], apart := false, laid := [("math/bits.deBruijn32tab", laid_math_bits_deBruijn32tab)] }
def FnExactFarnessOfSaid : Prop := fnExactFarnessOfRow.holds Tryd.pinned (OpenSpec.ofChange fnExactFarnessOfSpec)

/-- ITS FALSE NEIGHBOUR: 'it returns false'. Refute it at one input. -/
def fnExactFarnessOfWrong : ChangeSpec := { name := "fnExactFarnessOf", fn := fun _ => fun
  | [d] => { results := [.lit (.bool false)], args := [d] }
  | _ => none }
def FnExactFarnessOfWrongFalsely : Prop := fnExactFarnessOfRow.holds Tryd.pinned (OpenSpec.ofChange fnExactFarnessOfWrong)

/-- 'laws.FnExactLonelySeats': WHATEVER THE INPUT: true; the input reads as it did. -/
def fnExactLonelySeatsSpec : ChangeSpec := { name := "fnExactLonelySeats", fn := fun _ => fun
  | [d] => { results := [.lit (.bool true)], args := [d] }
  | _ => none }
def fnExactLonelySeatsRow : OpenClaim := { program := "ytpbpknfmhnjgcaadoor", sum := "27527c1adeae395f8f00d6f05ce11b2017eaaa214751e827d5e51e82945d2dd1", func := "loop.example/g01167/laws.FnExactLonelySeats", spec := "fnExactLonelySeats", named := ["math/bits.deBruijn32tab"], apart := false, laid := [("math/bits.deBruijn32tab", laid_math_bits_deBruijn32tab)] }
def FnExactLonelySeatsSaid : Prop := fnExactLonelySeatsRow.holds Tryd.pinned (OpenSpec.ofChange fnExactLonelySeatsSpec)

/-- ITS FALSE NEIGHBOUR: 'it returns false'. Refute it at one input. -/
def fnExactLonelySeatsWrong : ChangeSpec := { name := "fnExactLonelySeats", fn := fun _ => fun
  | [d] => { results := [.lit (.bool false)], args := [d] }
  | _ => none }
def FnExactLonelySeatsWrongFalsely : Prop := fnExactLonelySeatsRow.holds Tryd.pinned (OpenSpec.ofChange fnExactLonelySeatsWrong)

/- THE SECOND FORM. 'bulk': how many values and letters a reading holds, each counted each time it is reached (what is shared counts as often as it is met; a slice's spare places count too). A statement '..UptoSaid' is the law's where the arguments, and the package variables that the reading takes, are together of bulk at most 1048576: NARROWER than '..Said'. Prove '..Said' where nothing that the law and all that it calls make is longer than what came in: it says more and counts as full. Else prove '..UptoSaid'. A law counts once. -/
mutual
def uptoBulk {H : Type} : DataW H → Nat
  | .lit (.string bytes) => bytes.length + 1
  | .lit _ => 1
  | .nil => 1
  | .ptr d => uptoBulk d + 1
  | .slice elems spare => uptoBulkAll elems + uptoBulkAll spare + 1
  | .agg parts => uptoBulkAll parts + 1
  | .iface _ d => uptoBulk d + 1
  | .map entries => uptoBulkEntries entries + 1
  | .held _ => 1
def uptoBulkAll {H : Type} : List (DataW H) → Nat
  | [] => 0
  | d :: r => uptoBulk d + uptoBulkAll r
def uptoBulkEntries {H : Type} : List (Lit × DataW H) → Nat
  | [] => 0
  | x :: r => uptoBulkEntry x + uptoBulkEntries r
def uptoBulkEntry {H : Type} : Lit × DataW H → Nat
  | (.string bytes, d) => bytes.length + uptoBulk d + 1
  | (_, d) => uptoBulk d + 1
 end
def uptoSmall : (H : Type) → List (DataW H) → Bool := fun _ ds => decide (uptoBulkAll ds ≤ 1048576)
def OpenSpec.upto (s : _root_.Go.ChangeSpec) : _root_.Go.OpenSpec := { _root_.Go.OpenSpec.ofChange s with cond := some uptoSmall }

/-- 'laws.FnExactNearestTaken', WHERE WHAT IT READS IS OF BULK AT MOST 1048576: true; the input reads as it did. -/
def fnExactNearestTakenUptoRow : OpenClaim := { program := "ytpbpknfmhnjgcaadoor", sum := "27527c1adeae395f8f00d6f05ce11b2017eaaa214751e827d5e51e82945d2dd1", func := "loop.example/g01167/laws.FnExactNearestTaken", spec := "fnExactNearestTaken", named := ["math/bits.deBruijn32tab"], apart := false, laid := [("math/bits.deBruijn32tab", laid_math_bits_deBruijn32tab)], narrowed := true }
def FnExactNearestTakenUptoSaid : Prop := fnExactNearestTakenUptoRow.holds Tryd.pinned (OpenSpec.upto fnExactNearestTakenSpec)

/-- 'laws.FnExactOtherSeats', WHERE WHAT IT READS IS OF BULK AT MOST 1048576: true; the input reads as it did. -/
def fnExactOtherSeatsUptoRow : OpenClaim := { program := "ytpbpknfmhnjgcaadoor", sum := "27527c1adeae395f8f00d6f05ce11b2017eaaa214751e827d5e51e82945d2dd1", func := "loop.example/g01167/laws.FnExactOtherSeats", spec := "fnExactOtherSeats", named := ["math/bits.deBruijn32tab"], apart := false, laid := [("math/bits.deBruijn32tab", laid_math_bits_deBruijn32tab)], narrowed := true }
def FnExactOtherSeatsUptoSaid : Prop := fnExactOtherSeatsUptoRow.holds Tryd.pinned (OpenSpec.upto fnExactOtherSeatsSpec)

/-- 'laws.FnExactPartSeats', WHERE WHAT IT READS IS OF BULK AT MOST 1048576: true; the input reads as it did. -/
def fnExactPartSeatsUptoRow : OpenClaim := { program := "ytpbpknfmhnjgcaadoor", sum := "27527c1adeae395f8f00d6f05ce11b2017eaaa214751e827d5e51e82945d2dd1", func := "loop.example/g01167/laws.FnExactPartSeats", spec := "fnExactPartSeats", named := ["math/bits.deBruijn32tab"], apart := false, laid := [("math/bits.deBruijn32tab", laid_math_bits_deBruijn32tab)], narrowed := true }
def FnExactPartSeatsUptoSaid : Prop := fnExactPartSeatsUptoRow.holds Tryd.pinned (OpenSpec.upto fnExactPartSeatsSpec)

/-- 'laws.FnExactLeaveSeat', WHERE WHAT IT READS IS OF BULK AT MOST 1048576: true; the input reads as it did. -/
def fnExactLeaveSeatUptoRow : OpenClaim := { program := "ytpbpknfmhnjgcaadoor", sum := "27527c1adeae395f8f00d6f05ce11b2017eaaa214751e827d5e51e82945d2dd1", func := "loop.example/g01167/laws.FnExactLeaveSeat", spec := "fnExactLeaveSeat", named := ["math/bits.deBruijn32tab"], apart := false, laid := [("math/bits.deBruijn32tab", laid_math_bits_deBruijn32tab)], narrowed := true }
def FnExactLeaveSeatUptoSaid : Prop := fnExactLeaveSeatUptoRow.holds Tryd.pinned (OpenSpec.upto fnExactLeaveSeatSpec)

/-- 'laws.FnExactTakeSeat', WHERE WHAT IT READS IS OF BULK AT MOST 1048576: true; the input reads as it did. -/
def fnExactTakeSeatUptoRow : OpenClaim := { program := "ytpbpknfmhnjgcaadoor", sum := "27527c1adeae395f8f00d6f05ce11b2017eaaa214751e827d5e51e82945d2dd1", func := "loop.example/g01167/laws.FnExactTakeSeat", spec := "fnExactTakeSeat", named := ["math/bits.deBruijn32tab"], apart := false, laid := [("math/bits.deBruijn32tab", laid_math_bits_deBruijn32tab)], narrowed := true }
def FnExactTakeSeatUptoSaid : Prop := fnExactTakeSeatUptoRow.holds Tryd.pinned (OpenSpec.upto fnExactTakeSeatSpec)

/-- 'laws.FnExactSeatNeighbors', WHERE WHAT IT READS IS OF BULK AT MOST 1048576: true; the input reads as it did. -/
def fnExactSeatNeighborsUptoRow : OpenClaim := { program := "ytpbpknfmhnjgcaadoor", sum := "27527c1adeae395f8f00d6f05ce11b2017eaaa214751e827d5e51e82945d2dd1", func := "loop.example/g01167/laws.FnExactSeatNeighbors", spec := "fnExactSeatNeighbors", named := ["math/bits.deBruijn32tab"], apart := false, laid := [("math/bits.deBruijn32tab", laid_math_bits_deBruijn32tab)], narrowed := true }
def FnExactSeatNeighborsUptoSaid : Prop := fnExactSeatNeighborsUptoRow.holds Tryd.pinned (OpenSpec.upto fnExactSeatNeighborsSpec)

/-- 'laws.FnExactInsertSeat', WHERE WHAT IT READS IS OF BULK AT MOST 1048576: true; the input reads as it did. -/
def fnExactInsertSeatUptoRow : OpenClaim := { program := "ytpbpknfmhnjgcaadoor", sum := "27527c1adeae395f8f00d6f05ce11b2017eaaa214751e827d5e51e82945d2dd1", func := "loop.example/g01167/laws.FnExactInsertSeat", spec := "fnExactInsertSeat", named := ["math/bits.deBruijn32tab"], apart := false, laid := [("math/bits.deBruijn32tab", laid_math_bits_deBruijn32tab)], narrowed := true }
def FnExactInsertSeatUptoSaid : Prop := fnExactInsertSeatUptoRow.holds Tryd.pinned (OpenSpec.upto fnExactInsertSeatSpec)

/-- 'laws.FnExactNearestFree', WHERE WHAT IT READS IS OF BULK AT MOST 1048576: true; the input reads as it did. -/
def fnExactNearestFreeUptoRow : OpenClaim := { program := "ytpbpknfmhnjgcaadoor", sum := "27527c1adeae395f8f00d6f05ce11b2017eaaa214751e827d5e51e82945d2dd1", func := "loop.example/g01167/laws.FnExactNearestFree", spec := "fnExactNearestFree", named := ["math/bits.deBruijn32tab"], apart := false, laid := [("math/bits.deBruijn32tab", laid_math_bits_deBruijn32tab)], narrowed := true }
def FnExactNearestFreeUptoSaid : Prop := fnExactNearestFreeUptoRow.holds Tryd.pinned (OpenSpec.upto fnExactNearestFreeSpec)

/-- 'laws.FnExactFarnessOf', WHERE WHAT IT READS IS OF BULK AT MOST 1048576: true; the input reads as it did. -/
def fnExactFarnessOfUptoRow : OpenClaim := { program := "ytpbpknfmhnjgcaadoor", sum := "27527c1adeae395f8f00d6f05ce11b2017eaaa214751e827d5e51e82945d2dd1", func := "loop.example/g01167/laws.FnExactFarnessOf", spec := "fnExactFarnessOf", named := ["math/bits.deBruijn32tab"], apart := false, laid := [("math/bits.deBruijn32tab", laid_math_bits_deBruijn32tab)], narrowed := true }
def FnExactFarnessOfUptoSaid : Prop := fnExactFarnessOfUptoRow.holds Tryd.pinned (OpenSpec.upto fnExactFarnessOfSpec)

/-- 'laws.FnExactLonelySeats', WHERE WHAT IT READS IS OF BULK AT MOST 1048576: true; the input reads as it did. -/
def fnExactLonelySeatsUptoRow : OpenClaim := { program := "ytpbpknfmhnjgcaadoor", sum := "27527c1adeae395f8f00d6f05ce11b2017eaaa214751e827d5e51e82945d2dd1", func := "loop.example/g01167/laws.FnExactLonelySeats", spec := "fnExactLonelySeats", named := ["math/bits.deBruijn32tab"], apart := false, laid := [("math/bits.deBruijn32tab", laid_math_bits_deBruijn32tab)], narrowed := true }
def FnExactLonelySeatsUptoSaid : Prop := fnExactLonelySeatsUptoRow.holds Tryd.pinned (OpenSpec.upto fnExactLonelySeatsSpec)

end Rows
end Go.Proofs.YtpbpknfmhnjgcaaDoor
