/-
  NARROWER THAN 'FOR EVERY INPUT', by the rows' own cells (each row's printed sentence says how): FnExactSettleCounts: laid · FnExactNextPolite: laid · FnExactPoliteSeats: laid · FnExactParkBack: laid · FnExactParkCars: laid · FnExactPoliteOrder: laid.
  DERIVED. THE GIVEN ROWS OF THIS SEAT. 6 by the template 'for every input the law returns true; each argument reads behind the call as it read before'; 0 by the template 'total and deterministic' (their statements: YtoodiahlofeikaaDoorTotals.lean).
  GIVEN WITH THE SEED: the statements are not yours to turn. If you find one false, say at which input.
  Laid BY PROGRAM, IN A SANDBOX (cutbox-rows.mjs): the forced cells as the released guide's own fill.sh prints them over the translation 39c5074caebcfec0… (all of the seat's roots in one cut). By AI agents, Wed Nov 11 2026. No macro, syntax, notation, axiom, sorry.
-/
import Derived.Test.YtoodiahlofeikaaDoorChecked
import GoSem.Claim
import GoSem.ClaimJoined
import GoSem.ClaimMapViews
import Derived.JoinedTies
import Derived.KernelRfl
namespace Go.Proofs.YtoodiahlofeikaaDoor
/- THE CELL 'sum', in the pinned program and in every row, IS THE sha256 OF THE DUMP (.gsa) THAT YtoodiahlofeikaaDoorProg.lean LOADS. Nothing in Lean hashes anything: it is a label: what it is worth is what the hold of that sum in a sandbox is worth. -/
noncomputable def Tryd.pinned : Pinned := { name := "ytoodiahlofeikaadoor", sum := "39c5074caebcfec07640d512ca3e2b1919c7d9bd499604d78402a72f957ee0bc", checked := Tryd.checked }
namespace Rows
def none {H : Type} : Left H := { results := [], args := [] }

/- WHAT THE LISTED PACKAGE-LEVEL VARIABLES READ AS WHEN THE CALL BEGINS. Each datum BY PROGRAM (the guide's laid-datum.mjs) off the statement by which the dump's own 'gosem.cut.vars' lays the variable. In a bare row this is a premise. The card (YtoodiahlofeikaaDoorCards.lean) ties it to the program's text. -/
def laid_math_bits_deBruijn32tab {H : Type} : DataW H := .agg [.lit (.int .u8 0), .lit (.int .u8 1), .lit (.int .u8 28), .lit (.int .u8 2), .lit (.int .u8 29), .lit (.int .u8 14), .lit (.int .u8 24), .lit (.int .u8 3), .lit (.int .u8 30), .lit (.int .u8 22), .lit (.int .u8 20), .lit (.int .u8 15), .lit (.int .u8 25), .lit (.int .u8 17), .lit (.int .u8 4), .lit (.int .u8 8), .lit (.int .u8 31), .lit (.int .u8 27), .lit (.int .u8 13), .lit (.int .u8 23), .lit (.int .u8 21), .lit (.int .u8 19), .lit (.int .u8 16), .lit (.int .u8 7), .lit (.int .u8 26), .lit (.int .u8 12), .lit (.int .u8 18), .lit (.int .u8 6), .lit (.int .u8 11), .lit (.int .u8 5), .lit (.int .u8 10), .lit (.int .u8 9)]

/-- 'laws.FnExactSettleCounts': WHATEVER THE INPUT: true; the input reads as it did. -/
def fnExactSettleCountsSpec : ChangeSpec := { name := "fnExactSettleCounts", fn := fun _ => fun
  | [d1, d2] => { results := [.lit (.bool true)], args := [d1, d2] }
  | _ => none }
def fnExactSettleCountsRow : OpenClaim := { program := "ytoodiahlofeikaadoor", sum := "39c5074caebcfec07640d512ca3e2b1919c7d9bd499604d78402a72f957ee0bc", func := "loop.example/g01167/laws.FnExactSettleCounts", spec := "fnExactSettleCounts", named := ["math/bits.deBruijn32tab"], apart := false, laid := [("math/bits.deBruijn32tab", laid_math_bits_deBruijn32tab)] }
def FnExactSettleCountsSaid : Prop := fnExactSettleCountsRow.holds Tryd.pinned (OpenSpec.ofChange fnExactSettleCountsSpec)

/-- ITS FALSE NEIGHBOUR: 'it returns false'. Refute it at one input. -/
def fnExactSettleCountsWrong : ChangeSpec := { name := "fnExactSettleCounts", fn := fun _ => fun
  | [d1, d2] => { results := [.lit (.bool false)], args := [d1, d2] }
  | _ => none }
def FnExactSettleCountsWrongFalsely : Prop := fnExactSettleCountsRow.holds Tryd.pinned (OpenSpec.ofChange fnExactSettleCountsWrong)

/-- 'laws.FnExactNextPolite': WHATEVER THE INPUT: true; the input reads as it did. -/
def fnExactNextPoliteSpec : ChangeSpec := { name := "fnExactNextPolite", fn := fun _ => fun
  | [d] => { results := [.lit (.bool true)], args := [d] }
  | _ => none }
def fnExactNextPoliteRow : OpenClaim := { program := "ytoodiahlofeikaadoor", sum := "39c5074caebcfec07640d512ca3e2b1919c7d9bd499604d78402a72f957ee0bc", func := "loop.example/g01167/laws.FnExactNextPolite", spec := "fnExactNextPolite", named := ["math/bits.deBruijn32tab"], apart := false, laid := [("math/bits.deBruijn32tab", laid_math_bits_deBruijn32tab)] }
def FnExactNextPoliteSaid : Prop := fnExactNextPoliteRow.holds Tryd.pinned (OpenSpec.ofChange fnExactNextPoliteSpec)

/-- ITS FALSE NEIGHBOUR: 'it returns false'. Refute it at one input. -/
def fnExactNextPoliteWrong : ChangeSpec := { name := "fnExactNextPolite", fn := fun _ => fun
  | [d] => { results := [.lit (.bool false)], args := [d] }
  | _ => none }
def FnExactNextPoliteWrongFalsely : Prop := fnExactNextPoliteRow.holds Tryd.pinned (OpenSpec.ofChange fnExactNextPoliteWrong)

/-- 'laws.FnExactPoliteSeats': WHATEVER THE INPUT: true; the input reads as it did. -/
def fnExactPoliteSeatsSpec : ChangeSpec := { name := "fnExactPoliteSeats", fn := fun _ => fun
  | [d] => { results := [.lit (.bool true)], args := [d] }
  | _ => none }
def fnExactPoliteSeatsRow : OpenClaim := { program := "ytoodiahlofeikaadoor", sum := "39c5074caebcfec07640d512ca3e2b1919c7d9bd499604d78402a72f957ee0bc", func := "loop.example/g01167/laws.FnExactPoliteSeats", spec := "fnExactPoliteSeats", named := ["math/bits.deBruijn32tab"], apart := false, laid := [("math/bits.deBruijn32tab", laid_math_bits_deBruijn32tab)] }
def FnExactPoliteSeatsSaid : Prop := fnExactPoliteSeatsRow.holds Tryd.pinned (OpenSpec.ofChange fnExactPoliteSeatsSpec)

/-- ITS FALSE NEIGHBOUR: 'it returns false'. Refute it at one input. -/
def fnExactPoliteSeatsWrong : ChangeSpec := { name := "fnExactPoliteSeats", fn := fun _ => fun
  | [d] => { results := [.lit (.bool false)], args := [d] }
  | _ => none }
def FnExactPoliteSeatsWrongFalsely : Prop := fnExactPoliteSeatsRow.holds Tryd.pinned (OpenSpec.ofChange fnExactPoliteSeatsWrong)

/-- 'laws.FnExactParkBack': WHATEVER THE INPUT: true; the input reads as it did. -/
def fnExactParkBackSpec : ChangeSpec := { name := "fnExactParkBack", fn := fun _ => fun
  | [d1, d2, d3] => { results := [.lit (.bool true)], args := [d1, d2, d3] }
  | _ => none }
def fnExactParkBackRow : OpenClaim := { program := "ytoodiahlofeikaadoor", sum := "39c5074caebcfec07640d512ca3e2b1919c7d9bd499604d78402a72f957ee0bc", func := "loop.example/g01167/laws.FnExactParkBack", spec := "fnExactParkBack", named := ["math/bits.deBruijn32tab"], apart := false, laid := [("math/bits.deBruijn32tab", laid_math_bits_deBruijn32tab)] }
def FnExactParkBackSaid : Prop := fnExactParkBackRow.holds Tryd.pinned (OpenSpec.ofChange fnExactParkBackSpec)

/-- ITS FALSE NEIGHBOUR: 'it returns false'. Refute it at one input. -/
def fnExactParkBackWrong : ChangeSpec := { name := "fnExactParkBack", fn := fun _ => fun
  | [d1, d2, d3] => { results := [.lit (.bool false)], args := [d1, d2, d3] }
  | _ => none }
def FnExactParkBackWrongFalsely : Prop := fnExactParkBackRow.holds Tryd.pinned (OpenSpec.ofChange fnExactParkBackWrong)

/-- 'laws.FnExactParkCars': WHATEVER THE INPUT: true; the input reads as it did. -/
def fnExactParkCarsSpec : ChangeSpec := { name := "fnExactParkCars", fn := fun _ => fun
  | [d1, d2] => { results := [.lit (.bool true)], args := [d1, d2] }
  | _ => none }
def fnExactParkCarsRow : OpenClaim := { program := "ytoodiahlofeikaadoor", sum := "39c5074caebcfec07640d512ca3e2b1919c7d9bd499604d78402a72f957ee0bc", func := "loop.example/g01167/laws.FnExactParkCars", spec := "fnExactParkCars", named := ["math/bits.deBruijn32tab"], apart := false, laid := [("math/bits.deBruijn32tab", laid_math_bits_deBruijn32tab)] }
def FnExactParkCarsSaid : Prop := fnExactParkCarsRow.holds Tryd.pinned (OpenSpec.ofChange fnExactParkCarsSpec)

/-- ITS FALSE NEIGHBOUR: 'it returns false'. Refute it at one input. -/
def fnExactParkCarsWrong : ChangeSpec := { name := "fnExactParkCars", fn := fun _ => fun
  | [d1, d2] => { results := [.lit (.bool false)], args := [d1, d2] }
  | _ => none }
def FnExactParkCarsWrongFalsely : Prop := fnExactParkCarsRow.holds Tryd.pinned (OpenSpec.ofChange fnExactParkCarsWrong)

/-- 'laws.FnExactPoliteOrder': WHATEVER THE INPUT: true; the input reads as it did. -/
def fnExactPoliteOrderSpec : ChangeSpec := { name := "fnExactPoliteOrder", fn := fun _ => fun
  | [d] => { results := [.lit (.bool true)], args := [d] }
  | _ => none }
def fnExactPoliteOrderRow : OpenClaim := { program := "ytoodiahlofeikaadoor", sum := "39c5074caebcfec07640d512ca3e2b1919c7d9bd499604d78402a72f957ee0bc", func := "loop.example/g01167/laws.FnExactPoliteOrder", spec := "fnExactPoliteOrder", named := ["math/bits.deBruijn32tab"], apart := false, laid := [("math/bits.deBruijn32tab", laid_math_bits_deBruijn32tab)] }
def FnExactPoliteOrderSaid : Prop := fnExactPoliteOrderRow.holds Tryd.pinned (OpenSpec.ofChange fnExactPoliteOrderSpec)

/-- ITS FALSE NEIGHBOUR: 'it returns false'. Refute it at one input. -/
def fnExactPoliteOrderWrong : ChangeSpec := { name := "fnExactPoliteOrder", fn := fun _ => fun
  | [d] => { results := [.lit (.bool false)], args := [d] }
  | _ => none }
def FnExactPoliteOrderWrongFalsely : Prop := fnExactPoliteOrderRow.holds Tryd.pinned (OpenSpec.ofChange fnExactPoliteOrderWrong)

/- THE SECOND FORM. 'bulk': how many values and letters a reading holds, each counted each time it is reached (what is shared counts as often as it is met; a slice's spare places count too). A statement '..UptoSaid' is the law's where the arguments, and the package variables that the reading takes, are together of bulk at most 1048576: NARROWER than '..Said'. Prove '..Said' where nothing that the law and all that it calls make is longer than what came in: it says more and counts as full. Else prove '..UptoSaid'. A law counts once. -/
mutual
def uptoBulk {H : Type} : DataW H → Nat
  | .lit (.string bytes) => bytes.length + 1
  | .lit _ => 1
  | .nil => 1
  | .ptr d => uptoBulk d + 1
  | .slice elems spare => uptoBulkAll elems + uptoBulkAll spare + 1
  | .agg parts => uptoBulkAll parts + 1
  | .iface _ d => uptoBulk d + 1
  | .map entries => uptoBulkEntries entries + 1
  | .held _ => 1
def uptoBulkAll {H : Type} : List (DataW H) → Nat
  | [] => 0
  | d :: r => uptoBulk d + uptoBulkAll r
def uptoBulkEntries {H : Type} : List (Lit × DataW H) → Nat
  | [] => 0
  | x :: r => uptoBulkEntry x + uptoBulkEntries r
def uptoBulkEntry {H : Type} : Lit × DataW H → Nat
  | (.string bytes, d) => bytes.length + uptoBulk d + 1
  | (_, d) => uptoBulk d + 1
 end
def uptoSmall : (H : Type) → List (DataW H) → Bool := fun _ ds => decide (uptoBulkAll ds ≤ 1048576)
def OpenSpec.upto (s : _root_.Go.ChangeSpec) : _root_.Go.OpenSpec := { _root_.Go.OpenSpec.ofChange s with cond := some uptoSmall }

/-- 'laws.FnExactSettleCounts', WHERE WHAT IT READS IS OF BULK AT MOST 1048576: true; the input reads as it did. -/
def fnExactSettleCountsUptoRow : OpenClaim := { program := "ytoodiahlofeikaadoor", sum := "39c5074caebcfec07640d512ca3e2b1919c7d9bd499604d78402a72f957ee0bc", func := "loop.example/g01167/laws.FnExactSettleCounts", spec := "fnExactSettleCounts", named := ["math/bits.deBruijn32tab"], apart := false, laid := [("math/bits.deBruijn32tab", laid_math_bits_deBruijn32tab)], narrowed := true }
def FnExactSettleCountsUptoSaid : Prop := fnExactSettleCountsUptoRow.holds Tryd.pinned (OpenSpec.upto fnExactSettleCountsSpec)

/-- 'laws.FnExactNextPolite', WHERE WHAT IT READS IS OF BULK AT MOST 1048576: true; the input reads as it did. -/
def fnExactNextPoliteUptoRow : OpenClaim := { program := "ytoodiahlofeikaadoor", sum := "39c5074caebcfec07640d512ca3e2b1919c7d9bd499604d78402a72f957ee0bc", func := "loop.example/g01167/laws.FnExactNextPolite", spec := "fnExactNextPolite", named := ["math/bits.deBruijn32tab"], apart := false, laid := [("math/bits.deBruijn32tab", laid_math_bits_deBruijn32tab)], narrowed := true }
def FnExactNextPoliteUptoSaid : Prop := fnExactNextPoliteUptoRow.holds Tryd.pinned (OpenSpec.upto fnExactNextPoliteSpec)

/-- 'laws.FnExactPoliteSeats', WHERE WHAT IT READS IS OF BULK AT MOST 1048576: true; the input reads as it did. -/
def fnExactPoliteSeatsUptoRow : OpenClaim := { program := "ytoodiahlofeikaadoor", sum := "39c5074caebcfec07640d512ca3e2b1919c7d9bd499604d78402a72f957ee0bc", func := "loop.example/g01167/laws.FnExactPoliteSeats", spec := "fnExactPoliteSeats", named := ["math/bits.deBruijn32tab"], apart := false, laid := [("math/bits.deBruijn32tab", laid_math_bits_deBruijn32tab)], narrowed := true }
def FnExactPoliteSeatsUptoSaid : Prop := fnExactPoliteSeatsUptoRow.holds Tryd.pinned (OpenSpec.upto fnExactPoliteSeatsSpec)

/-- 'laws.FnExactParkBack', WHERE WHAT IT READS IS OF BULK AT MOST 1048576: true; the input reads as it did. -/
def fnExactParkBackUptoRow : OpenClaim := { program := "ytoodiahlofeikaadoor", sum := "39c5074caebcfec07640d512ca3e2b1919c7d9bd499604d78402a72f957ee0bc", func := "loop.example/g01167/laws.FnExactParkBack", spec := "fnExactParkBack", named := ["math/bits.deBruijn32tab"], apart := false, laid := [("math/bits.deBruijn32tab", laid_math_bits_deBruijn32tab)], narrowed := true }
def FnExactParkBackUptoSaid : Prop := fnExactParkBackUptoRow.holds Tryd.pinned (OpenSpec.upto fnExactParkBackSpec)

/-- 'laws.FnExactParkCars', WHERE WHAT IT READS IS OF BULK AT MOST 1048576: true; the input reads as it did. -/
def fnExactParkCarsUptoRow : OpenClaim := { program := "ytoodiahlofeikaadoor", sum := "39c5074caebcfec07640d512ca3e2b1919c7d9bd499604d78402a72f957ee0bc", func := "loop.example/g01167/laws.FnExactParkCars", spec := "fnExactParkCars", named := ["math/bits.deBruijn32tab"], apart := false, laid := [("math/bits.deBruijn32tab", laid_math_bits_deBruijn32tab)], narrowed := true }
def FnExactParkCarsUptoSaid : Prop := fnExactParkCarsUptoRow.holds Tryd.pinned (OpenSpec.upto fnExactParkCarsSpec)

/-- 'laws.FnExactPoliteOrder', WHERE WHAT IT READS IS OF BULK AT MOST 1048576: true; the input reads as it did. -/
def fnExactPoliteOrderUptoRow : OpenClaim := { program := "ytoodiahlofeikaadoor", sum := "39c5074caebcfec07640d512ca3e2b1919c7d9bd499604d78402a72f957ee0bc", func := "loop.example/g01167/laws.FnExactPoliteOrder", spec := "fnExactPoliteOrder", named := ["math/bits.deBruijn32tab"], apart := false, laid := [("math/bits.deBruijn32tab", laid_math_bits_deBruijn32tab)], narrowed := true }
def FnExactPoliteOrderUptoSaid : Prop := fnExactPoliteOrderUptoRow.holds Tryd.pinned (OpenSpec.upto fnExactPoliteOrderSpec)

end Rows
end Go.Proofs.YtoodiahlofeikaaDoor
