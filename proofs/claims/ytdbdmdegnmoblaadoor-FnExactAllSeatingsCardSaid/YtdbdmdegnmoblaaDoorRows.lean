/-
  NARROWER THAN 'FOR EVERY INPUT', by the rows' own cells (each row's printed sentence says how): FnExactSettleRun: laid · FnExactAllSeatings: laid · FnExactMirrorSeats: laid · FnExactJoinSeats: laid · FnExactFreeSeats: laid · FnExactTurnSeats: laid.
  DERIVED. THE GIVEN ROWS OF THIS SEAT. 6 by the template 'for every input the law returns true; each argument reads behind the call as it read before'; 0 by the template 'total and deterministic' (their statements: YtdbdmdegnmoblaaDoorTotals.lean).
  GIVEN WITH THE SEED: the statements are not yours to turn. If you find one false, say at which input.
  Laid BY PROGRAM, IN A SANDBOX (cutbox-rows.mjs): the forced cells as the released guide's own fill.sh prints them over the translation 63516f53b2d06059… (all of the seat's roots in one cut). By AI agents, Wed Nov 11 2026. No macro, syntax, notation, axiom, sorry.
-/
import Derived.Test.YtdbdmdegnmoblaaDoorChecked
import GoSem.Claim
import GoSem.ClaimJoined
import GoSem.ClaimMapViews
import Derived.JoinedTies
import Derived.KernelRfl
namespace Go.Proofs.YtdbdmdegnmoblaaDoor
/- THE CELL 'sum', in the pinned program and in every row, IS THE sha256 OF THE DUMP (.gsa) THAT YtdbdmdegnmoblaaDoorProg.lean LOADS. Nothing in Lean hashes anything: it is a label: what it is worth is what the hold of that sum in a sandbox is worth. -/
noncomputable def Tryd.pinned : Pinned := { name := "ytdbdmdegnmoblaadoor", sum := "63516f53b2d0605962b6d58b1c7528426cfbe0a2e54738ca371680877a377f95", checked := Tryd.checked }
namespace Rows
def none {H : Type} : Left H := { results := [], args := [] }

/- WHAT THE LISTED PACKAGE-LEVEL VARIABLES READ AS WHEN THE CALL BEGINS. Each datum BY PROGRAM (the guide's laid-datum.mjs) off the statement by which the dump's own 'gosem.cut.vars' lays the variable. In a bare row this is a premise. The card (YtdbdmdegnmoblaaDoorCards.lean) ties it to the program's text. -/
def laid_math_bits_deBruijn32tab {H : Type} : DataW H := .agg [.lit (.int .u8 0), .lit (.int .u8 1), .lit (.int .u8 28), .lit (.int .u8 2), .lit (.int .u8 29), .lit (.int .u8 14), .lit (.int .u8 24), .lit (.int .u8 3), .lit (.int .u8 30), .lit (.int .u8 22), .lit (.int .u8 20), .lit (.int .u8 15), .lit (.int .u8 25), .lit (.int .u8 17), .lit (.int .u8 4), .lit (.int .u8 8), .lit (.int .u8 31), .lit (.int .u8 27), .lit (.int .u8 13), .lit (.int .u8 23), .lit (.int .u8 21), .lit (.int .u8 19), .lit (.int .u8 16), .lit (.int .u8 7), .lit (.int .u8 26), .lit (.int .u8 12), .lit (.int .u8 18), .lit (.int .u8 6), .lit (.int .u8 11), .lit (.int .u8 5), .lit (.int .u8 10), .lit (.int .u8 9)]

/-- 'laws.FnExactSettleRun': WHATEVER THE INPUT: true; the input reads as it did. -/
def fnExactSettleRunSpec : ChangeSpec := { name := "fnExactSettleRun", fn := fun _ => fun
  | [d1, d2] => { results := [.lit (.bool true)], args := [d1, d2] }
  | _ => none }
def fnExactSettleRunRow : OpenClaim := { program := "ytdbdmdegnmoblaadoor", sum := "63516f53b2d0605962b6d58b1c7528426cfbe0a2e54738ca371680877a377f95", func := "loop.example/g01167/laws.FnExactSettleRun", spec := "fnExactSettleRun", recurses := true, named := ["math/bits.deBruijn32tab"], apart := false, laid := [("math/bits.deBruijn32tab", laid_math_bits_deBruijn32tab)] }
def FnExactSettleRunSaid : Prop := fnExactSettleRunRow.holds Tryd.pinned (OpenSpec.ofChange fnExactSettleRunSpec)

/-- ITS FALSE NEIGHBOUR: 'it returns false'. Refute it at one input. -/
def fnExactSettleRunWrong : ChangeSpec := { name := "fnExactSettleRun", fn := fun _ => fun
  | [d1, d2] => { results := [.lit (.bool false)], args := [d1, d2] }
  | _ => none }
def FnExactSettleRunWrongFalsely : Prop := fnExactSettleRunRow.holds Tryd.pinned (OpenSpec.ofChange fnExactSettleRunWrong)

/-- 'laws.FnExactAllSeatings': WHATEVER THE INPUT: true; the input reads as it did. -/
def fnExactAllSeatingsSpec : ChangeSpec := { name := "fnExactAllSeatings", fn := fun _ => fun
  | [d1, d2] => { results := [.lit (.bool true)], args := [d1, d2] }
  | _ => none }
def fnExactAllSeatingsRow : OpenClaim := { program := "ytdbdmdegnmoblaadoor", sum := "63516f53b2d0605962b6d58b1c7528426cfbe0a2e54738ca371680877a377f95", func := "loop.example/g01167/laws.FnExactAllSeatings", spec := "fnExactAllSeatings", unfollowed := true, recurses := true, named := ["math/bits.deBruijn32tab"], apart := false, laid := [("math/bits.deBruijn32tab", laid_math_bits_deBruijn32tab)] }
def FnExactAllSeatingsSaid : Prop := fnExactAllSeatingsRow.holds Tryd.pinned (OpenSpec.ofChange fnExactAllSeatingsSpec)

/-- ITS FALSE NEIGHBOUR: 'it returns false'. Refute it at one input. -/
def fnExactAllSeatingsWrong : ChangeSpec := { name := "fnExactAllSeatings", fn := fun _ => fun
  | [d1, d2] => { results := [.lit (.bool false)], args := [d1, d2] }
  | _ => none }
def FnExactAllSeatingsWrongFalsely : Prop := fnExactAllSeatingsRow.holds Tryd.pinned (OpenSpec.ofChange fnExactAllSeatingsWrong)

/-- 'laws.FnExactMirrorSeats': WHATEVER THE INPUT: true; the input reads as it did. -/
def fnExactMirrorSeatsSpec : ChangeSpec := { name := "fnExactMirrorSeats", fn := fun _ => fun
  | [d] => { results := [.lit (.bool true)], args := [d] }
  | _ => none }
def fnExactMirrorSeatsRow : OpenClaim := { program := "ytdbdmdegnmoblaadoor", sum := "63516f53b2d0605962b6d58b1c7528426cfbe0a2e54738ca371680877a377f95", func := "loop.example/g01167/laws.FnExactMirrorSeats", spec := "fnExactMirrorSeats", unfollowed := true, recurses := true, named := ["math/bits.deBruijn32tab"], apart := false, laid := [("math/bits.deBruijn32tab", laid_math_bits_deBruijn32tab)] }
def FnExactMirrorSeatsSaid : Prop := fnExactMirrorSeatsRow.holds Tryd.pinned (OpenSpec.ofChange fnExactMirrorSeatsSpec)

/-- ITS FALSE NEIGHBOUR: 'it returns false'. Refute it at one input. -/
def fnExactMirrorSeatsWrong : ChangeSpec := { name := "fnExactMirrorSeats", fn := fun _ => fun
  | [d] => { results := [.lit (.bool false)], args := [d] }
  | _ => none }
def FnExactMirrorSeatsWrongFalsely : Prop := fnExactMirrorSeatsRow.holds Tryd.pinned (OpenSpec.ofChange fnExactMirrorSeatsWrong)

/-- 'laws.FnExactJoinSeats': WHATEVER THE INPUT: true; the input reads as it did. -/
def fnExactJoinSeatsSpec : ChangeSpec := { name := "fnExactJoinSeats", fn := fun _ => fun
  | [d1, d2] => { results := [.lit (.bool true)], args := [d1, d2] }
  | _ => none }
def fnExactJoinSeatsRow : OpenClaim := { program := "ytdbdmdegnmoblaadoor", sum := "63516f53b2d0605962b6d58b1c7528426cfbe0a2e54738ca371680877a377f95", func := "loop.example/g01167/laws.FnExactJoinSeats", spec := "fnExactJoinSeats", named := ["math/bits.deBruijn32tab"], apart := false, laid := [("math/bits.deBruijn32tab", laid_math_bits_deBruijn32tab)] }
def FnExactJoinSeatsSaid : Prop := fnExactJoinSeatsRow.holds Tryd.pinned (OpenSpec.ofChange fnExactJoinSeatsSpec)

/-- ITS FALSE NEIGHBOUR: 'it returns false'. Refute it at one input. -/
def fnExactJoinSeatsWrong : ChangeSpec := { name := "fnExactJoinSeats", fn := fun _ => fun
  | [d1, d2] => { results := [.lit (.bool false)], args := [d1, d2] }
  | _ => none }
def FnExactJoinSeatsWrongFalsely : Prop := fnExactJoinSeatsRow.holds Tryd.pinned (OpenSpec.ofChange fnExactJoinSeatsWrong)

/-- 'laws.FnExactFreeSeats': WHATEVER THE INPUT: true; the input reads as it did. -/
def fnExactFreeSeatsSpec : ChangeSpec := { name := "fnExactFreeSeats", fn := fun _ => fun
  | [d] => { results := [.lit (.bool true)], args := [d] }
  | _ => none }
def fnExactFreeSeatsRow : OpenClaim := { program := "ytdbdmdegnmoblaadoor", sum := "63516f53b2d0605962b6d58b1c7528426cfbe0a2e54738ca371680877a377f95", func := "loop.example/g01167/laws.FnExactFreeSeats", spec := "fnExactFreeSeats", named := ["math/bits.deBruijn32tab"], apart := false, laid := [("math/bits.deBruijn32tab", laid_math_bits_deBruijn32tab)] }
def FnExactFreeSeatsSaid : Prop := fnExactFreeSeatsRow.holds Tryd.pinned (OpenSpec.ofChange fnExactFreeSeatsSpec)

/-- ITS FALSE NEIGHBOUR: 'it returns false'. Refute it at one input. -/
def fnExactFreeSeatsWrong : ChangeSpec := { name := "fnExactFreeSeats", fn := fun _ => fun
  | [d] => { results := [.lit (.bool false)], args := [d] }
  | _ => none }
def FnExactFreeSeatsWrongFalsely : Prop := fnExactFreeSeatsRow.holds Tryd.pinned (OpenSpec.ofChange fnExactFreeSeatsWrong)

/-- 'laws.FnExactTurnSeats': WHATEVER THE INPUT: true; the input reads as it did. -/
def fnExactTurnSeatsSpec : ChangeSpec := { name := "fnExactTurnSeats", fn := fun _ => fun
  | [d1, d2] => { results := [.lit (.bool true)], args := [d1, d2] }
  | _ => none }
def fnExactTurnSeatsRow : OpenClaim := { program := "ytdbdmdegnmoblaadoor", sum := "63516f53b2d0605962b6d58b1c7528426cfbe0a2e54738ca371680877a377f95", func := "loop.example/g01167/laws.FnExactTurnSeats", spec := "fnExactTurnSeats", unfollowed := true, recurses := true, named := ["math/bits.deBruijn32tab"], apart := false, laid := [("math/bits.deBruijn32tab", laid_math_bits_deBruijn32tab)] }
def FnExactTurnSeatsSaid : Prop := fnExactTurnSeatsRow.holds Tryd.pinned (OpenSpec.ofChange fnExactTurnSeatsSpec)

/-- ITS FALSE NEIGHBOUR: 'it returns false'. Refute it at one input. -/
def fnExactTurnSeatsWrong : ChangeSpec := { name := "fnExactTurnSeats", fn := fun _ => fun
  | [d1, d2] => { results := [.lit (.bool false)], args := [d1, d2] }
  | _ => none }
def FnExactTurnSeatsWrongFalsely : Prop := fnExactTurnSeatsRow.holds Tryd.pinned (OpenSpec.ofChange fnExactTurnSeatsWrong)

/- THE SECOND FORM. 'bulk': how many values and letters a reading holds, each counted each time it is reached (what is shared counts as often as it is met; a slice's spare places count too). A statement '..UptoSaid' is the law's where the arguments, and the package variables that the reading takes, are together of bulk at most 1048576: NARROWER than '..Said'. Prove '..Said' where nothing that the law and all that it calls make is longer than what came in: it says more and counts as full. Else prove '..UptoSaid'. A law counts once. -/
mutual
def uptoBulk {H : Type} : DataW H → Nat
  | .lit (.string bytes) => bytes.length + 1
  | .lit _ => 1
  | .nil => 1
  | .ptr d => uptoBulk d + 1
  | .slice elems spare => uptoBulkAll elems + uptoBulkAll spare + 1
  | .agg parts => uptoBulkAll parts + 1
  | .iface _ d => uptoBulk d + 1
  | .map entries => uptoBulkEntries entries + 1
  | .held _ => 1
def uptoBulkAll {H : Type} : List (DataW H) → Nat
  | [] => 0
  | d :: r => uptoBulk d + uptoBulkAll r
def uptoBulkEntries {H : Type} : List (Lit × DataW H) → Nat
  | [] => 0
  | x :: r => uptoBulkEntry x + uptoBulkEntries r
def uptoBulkEntry {H : Type} : Lit × DataW H → Nat
  | (.string bytes, d) => bytes.length + uptoBulk d + 1
  | (_, d) => uptoBulk d + 1
 end
def uptoSmall : (H : Type) → List (DataW H) → Bool := fun _ ds => decide (uptoBulkAll ds ≤ 1048576)
def OpenSpec.upto (s : _root_.Go.ChangeSpec) : _root_.Go.OpenSpec := { _root_.Go.OpenSpec.ofChange s with cond := some uptoSmall }

/-- 'laws.FnExactSettleRun', WHERE WHAT IT READS IS OF BULK AT MOST 1048576: true; the input reads as it did. -/
def fnExactSettleRunUptoRow : OpenClaim := { program := "ytdbdmdegnmoblaadoor", sum := "63516f53b2d0605962b6d58b1c7528426cfbe0a2e54738ca371680877a377f95", func := "loop.example/g01167/laws.FnExactSettleRun", spec := "fnExactSettleRun", recurses := true, named := ["math/bits.deBruijn32tab"], apart := false, laid := [("math/bits.deBruijn32tab", laid_math_bits_deBruijn32tab)], narrowed := true }
def FnExactSettleRunUptoSaid : Prop := fnExactSettleRunUptoRow.holds Tryd.pinned (OpenSpec.upto fnExactSettleRunSpec)

/-- 'laws.FnExactAllSeatings', WHERE WHAT IT READS IS OF BULK AT MOST 1048576: true; the input reads as it did. -/
def fnExactAllSeatingsUptoRow : OpenClaim := { program := "ytdbdmdegnmoblaadoor", sum := "63516f53b2d0605962b6d58b1c7528426cfbe0a2e54738ca371680877a377f95", func := "loop.example/g01167/laws.FnExactAllSeatings", spec := "fnExactAllSeatings", unfollowed := true, recurses := true, named := ["math/bits.deBruijn32tab"], apart := false, laid := [("math/bits.deBruijn32tab", laid_math_bits_deBruijn32tab)], narrowed := true }
def FnExactAllSeatingsUptoSaid : Prop := fnExactAllSeatingsUptoRow.holds Tryd.pinned (OpenSpec.upto fnExactAllSeatingsSpec)

/-- 'laws.FnExactMirrorSeats', WHERE WHAT IT READS IS OF BULK AT MOST 1048576: true; the input reads as it did. -/
def fnExactMirrorSeatsUptoRow : OpenClaim := { program := "ytdbdmdegnmoblaadoor", sum := "63516f53b2d0605962b6d58b1c7528426cfbe0a2e54738ca371680877a377f95", func := "loop.example/g01167/laws.FnExactMirrorSeats", spec := "fnExactMirrorSeats", unfollowed := true, recurses := true, named := ["math/bits.deBruijn32tab"], apart := false, laid := [("math/bits.deBruijn32tab", laid_math_bits_deBruijn32tab)], narrowed := true }
def FnExactMirrorSeatsUptoSaid : Prop := fnExactMirrorSeatsUptoRow.holds Tryd.pinned (OpenSpec.upto fnExactMirrorSeatsSpec)

/-- 'laws.FnExactJoinSeats', WHERE WHAT IT READS IS OF BULK AT MOST 1048576: true; the input reads as it did. -/
def fnExactJoinSeatsUptoRow : OpenClaim := { program := "ytdbdmdegnmoblaadoor", sum := "63516f53b2d0605962b6d58b1c7528426cfbe0a2e54738ca371680877a377f95", func := "loop.example/g01167/laws.FnExactJoinSeats", spec := "fnExactJoinSeats", named := ["math/bits.deBruijn32tab"], apart := false, laid := [("math/bits.deBruijn32tab", laid_math_bits_deBruijn32tab)], narrowed := true }
def FnExactJoinSeatsUptoSaid : Prop := fnExactJoinSeatsUptoRow.holds Tryd.pinned (OpenSpec.upto fnExactJoinSeatsSpec)

/-- 'laws.FnExactFreeSeats', WHERE WHAT IT READS IS OF BULK AT MOST 1048576: true; the input reads as it did. -/
def fnExactFreeSeatsUptoRow : OpenClaim := { program := "ytdbdmdegnmoblaadoor", sum := "63516f53b2d0605962b6d58b1c7528426cfbe0a2e54738ca371680877a377f95", func := "loop.example/g01167/laws.FnExactFreeSeats", spec := "fnExactFreeSeats", named := ["math/bits.deBruijn32tab"], apart := false, laid := [("math/bits.deBruijn32tab", laid_math_bits_deBruijn32tab)], narrowed := true }
def FnExactFreeSeatsUptoSaid : Prop := fnExactFreeSeatsUptoRow.holds Tryd.pinned (OpenSpec.upto fnExactFreeSeatsSpec)

/-- 'laws.FnExactTurnSeats', WHERE WHAT IT READS IS OF BULK AT MOST 1048576: true; the input reads as it did. -/
def fnExactTurnSeatsUptoRow : OpenClaim := { program := "ytdbdmdegnmoblaadoor", sum := "63516f53b2d0605962b6d58b1c7528426cfbe0a2e54738ca371680877a377f95", func := "loop.example/g01167/laws.FnExactTurnSeats", spec := "fnExactTurnSeats", unfollowed := true, recurses := true, named := ["math/bits.deBruijn32tab"], apart := false, laid := [("math/bits.deBruijn32tab", laid_math_bits_deBruijn32tab)], narrowed := true }
def FnExactTurnSeatsUptoSaid : Prop := fnExactTurnSeatsUptoRow.holds Tryd.pinned (OpenSpec.upto fnExactTurnSeatsSpec)

end Rows
end Go.Proofs.YtdbdmdegnmoblaaDoor
