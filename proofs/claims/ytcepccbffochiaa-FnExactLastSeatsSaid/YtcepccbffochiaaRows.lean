/-
  No cell of these rows narrows 'for every input' (looked for: loops, veiled, ifaces, maps, wideKeys, modest, calm, conditions, laid).
  DERIVED. THE GIVEN ROWS OF THIS SEAT. 12 by the template 'for every input the law returns true; each argument reads behind the call as it read before'; 0 by the template 'total and deterministic' (their statements: YtcepccbffochiaaTotals.lean).
  GIVEN WITH THE SEED: the statements are not yours to turn. If you find one false, say at which input.
  Laid BY PROGRAM, IN A SANDBOX (cutbox-rows.mjs): the forced cells as the released guide's own fill.sh prints them over the translation 74790015257b117d… (all of the seat's roots in one cut). By AI agents, Wed Nov 11 2026. No macro, syntax, notation, axiom, sorry.
-/
import Derived.Test.YtcepccbffochiaaChecked
import GoSem.Claim
import GoSem.ClaimJoined
import GoSem.ClaimMapViews
import Derived.JoinedTies
import Derived.KernelRfl
namespace Go.Proofs.Ytcepccbffochiaa
/- THE CELL 'sum', in the pinned program and in every row, IS THE sha256 OF THE DUMP (.gsa) THAT YtcepccbffochiaaProg.lean LOADS. Nothing in Lean hashes anything: it is a label: what it is worth is what the hold of that sum in a sandbox is worth. -/
noncomputable def Try.pinned : Pinned := { name := "ytcepccbffochiaa", sum := "74790015257b117d2a2753481d67615b1b2f503f27f1816ff6cb1d2ff0b48d18", checked := Try.checked }
namespace Rows
def none {H : Type} : Left H := { results := [], args := [] }

/-- 'laws.FnExactConstants': WHATEVER THE INPUT: true; the input reads as it did. -/
def fnExactConstantsSpec : ChangeSpec := { name := "fnExactConstants", fn := fun _ => fun
  | [] => { results := [.lit (.bool true)], args := [] }
  | _ => none }
def fnExactConstantsRow : OpenClaim := { program := "ytcepccbffochiaa", sum := "74790015257b117d2a2753481d67615b1b2f503f27f1816ff6cb1d2ff0b48d18", func := "loop.example/g01167/laws.FnExactConstants", spec := "fnExactConstants", apart := false }
def FnExactConstantsSaid : Prop := fnExactConstantsRow.holds Try.pinned (OpenSpec.ofChange fnExactConstantsSpec)

/-- ITS FALSE NEIGHBOUR: 'it returns false'. Refute it at one input. -/
def fnExactConstantsWrong : ChangeSpec := { name := "fnExactConstants", fn := fun _ => fun
  | [] => { results := [.lit (.bool false)], args := [] }
  | _ => none }
def FnExactConstantsWrongFalsely : Prop := fnExactConstantsRow.holds Try.pinned (OpenSpec.ofChange fnExactConstantsWrong)

/-- 'laws.FnExactLessString': WHATEVER THE INPUT: true; the input reads as it did. -/
def fnExactLessStringSpec : ChangeSpec := { name := "fnExactLessString", fn := fun _ => fun
  | [d1, d2] => { results := [.lit (.bool true)], args := [d1, d2] }
  | _ => none }
def fnExactLessStringRow : OpenClaim := { program := "ytcepccbffochiaa", sum := "74790015257b117d2a2753481d67615b1b2f503f27f1816ff6cb1d2ff0b48d18", func := "loop.example/g01167/laws.FnExactLessString", spec := "fnExactLessString", apart := false }
def FnExactLessStringSaid : Prop := fnExactLessStringRow.holds Try.pinned (OpenSpec.ofChange fnExactLessStringSpec)

/-- ITS FALSE NEIGHBOUR: 'it returns false'. Refute it at one input. -/
def fnExactLessStringWrong : ChangeSpec := { name := "fnExactLessString", fn := fun _ => fun
  | [d1, d2] => { results := [.lit (.bool false)], args := [d1, d2] }
  | _ => none }
def FnExactLessStringWrongFalsely : Prop := fnExactLessStringRow.holds Try.pinned (OpenSpec.ofChange fnExactLessStringWrong)

/-- 'laws.FnExactChecksum': WHATEVER THE INPUT: true; the input reads as it did. -/
def fnExactChecksumSpec : ChangeSpec := { name := "fnExactChecksum", fn := fun _ => fun
  | [d] => { results := [.lit (.bool true)], args := [d] }
  | _ => none }
def fnExactChecksumRow : OpenClaim := { program := "ytcepccbffochiaa", sum := "74790015257b117d2a2753481d67615b1b2f503f27f1816ff6cb1d2ff0b48d18", func := "loop.example/g01167/laws.FnExactChecksum", spec := "fnExactChecksum", apart := false }
def FnExactChecksumSaid : Prop := fnExactChecksumRow.holds Try.pinned (OpenSpec.ofChange fnExactChecksumSpec)

/-- ITS FALSE NEIGHBOUR: 'it returns false'. Refute it at one input. -/
def fnExactChecksumWrong : ChangeSpec := { name := "fnExactChecksum", fn := fun _ => fun
  | [d] => { results := [.lit (.bool false)], args := [d] }
  | _ => none }
def FnExactChecksumWrongFalsely : Prop := fnExactChecksumRow.holds Try.pinned (OpenSpec.ofChange fnExactChecksumWrong)

/-- 'laws.FnExactCountParking': WHATEVER THE INPUT: true; the input reads as it did. -/
def fnExactCountParkingSpec : ChangeSpec := { name := "fnExactCountParking", fn := fun _ => fun
  | [d] => { results := [.lit (.bool true)], args := [d] }
  | _ => none }
def fnExactCountParkingRow : OpenClaim := { program := "ytcepccbffochiaa", sum := "74790015257b117d2a2753481d67615b1b2f503f27f1816ff6cb1d2ff0b48d18", func := "loop.example/g01167/laws.FnExactCountParking", spec := "fnExactCountParking", apart := false }
def FnExactCountParkingSaid : Prop := fnExactCountParkingRow.holds Try.pinned (OpenSpec.ofChange fnExactCountParkingSpec)

/-- ITS FALSE NEIGHBOUR: 'it returns false'. Refute it at one input. -/
def fnExactCountParkingWrong : ChangeSpec := { name := "fnExactCountParking", fn := fun _ => fun
  | [d] => { results := [.lit (.bool false)], args := [d] }
  | _ => none }
def FnExactCountParkingWrongFalsely : Prop := fnExactCountParkingRow.holds Try.pinned (OpenSpec.ofChange fnExactCountParkingWrong)

/-- 'laws.FnExactCountSeatings': WHATEVER THE INPUT: true; the input reads as it did. -/
def fnExactCountSeatingsSpec : ChangeSpec := { name := "fnExactCountSeatings", fn := fun _ => fun
  | [d1, d2] => { results := [.lit (.bool true)], args := [d1, d2] }
  | _ => none }
def fnExactCountSeatingsRow : OpenClaim := { program := "ytcepccbffochiaa", sum := "74790015257b117d2a2753481d67615b1b2f503f27f1816ff6cb1d2ff0b48d18", func := "loop.example/g01167/laws.FnExactCountSeatings", spec := "fnExactCountSeatings", apart := false }
def FnExactCountSeatingsSaid : Prop := fnExactCountSeatingsRow.holds Try.pinned (OpenSpec.ofChange fnExactCountSeatingsSpec)

/-- ITS FALSE NEIGHBOUR: 'it returns false'. Refute it at one input. -/
def fnExactCountSeatingsWrong : ChangeSpec := { name := "fnExactCountSeatings", fn := fun _ => fun
  | [d1, d2] => { results := [.lit (.bool false)], args := [d1, d2] }
  | _ => none }
def FnExactCountSeatingsWrongFalsely : Prop := fnExactCountSeatingsRow.holds Try.pinned (OpenSpec.ofChange fnExactCountSeatingsWrong)

/-- 'laws.FnExactBackToFront': WHATEVER THE INPUT: true; the input reads as it did. -/
def fnExactBackToFrontSpec : ChangeSpec := { name := "fnExactBackToFront", fn := fun _ => fun
  | [d] => { results := [.lit (.bool true)], args := [d] }
  | _ => none }
def fnExactBackToFrontRow : OpenClaim := { program := "ytcepccbffochiaa", sum := "74790015257b117d2a2753481d67615b1b2f503f27f1816ff6cb1d2ff0b48d18", func := "loop.example/g01167/laws.FnExactBackToFront", spec := "fnExactBackToFront", apart := false }
def FnExactBackToFrontSaid : Prop := fnExactBackToFrontRow.holds Try.pinned (OpenSpec.ofChange fnExactBackToFrontSpec)

/-- ITS FALSE NEIGHBOUR: 'it returns false'. Refute it at one input. -/
def fnExactBackToFrontWrong : ChangeSpec := { name := "fnExactBackToFront", fn := fun _ => fun
  | [d] => { results := [.lit (.bool false)], args := [d] }
  | _ => none }
def FnExactBackToFrontWrongFalsely : Prop := fnExactBackToFrontRow.holds Try.pinned (OpenSpec.ofChange fnExactBackToFrontWrong)

/-- 'laws.FnExactFrontToBack': WHATEVER THE INPUT: true; the input reads as it did. -/
def fnExactFrontToBackSpec : ChangeSpec := { name := "fnExactFrontToBack", fn := fun _ => fun
  | [d] => { results := [.lit (.bool true)], args := [d] }
  | _ => none }
def fnExactFrontToBackRow : OpenClaim := { program := "ytcepccbffochiaa", sum := "74790015257b117d2a2753481d67615b1b2f503f27f1816ff6cb1d2ff0b48d18", func := "loop.example/g01167/laws.FnExactFrontToBack", spec := "fnExactFrontToBack", apart := false }
def FnExactFrontToBackSaid : Prop := fnExactFrontToBackRow.holds Try.pinned (OpenSpec.ofChange fnExactFrontToBackSpec)

/-- ITS FALSE NEIGHBOUR: 'it returns false'. Refute it at one input. -/
def fnExactFrontToBackWrong : ChangeSpec := { name := "fnExactFrontToBack", fn := fun _ => fun
  | [d] => { results := [.lit (.bool false)], args := [d] }
  | _ => none }
def FnExactFrontToBackWrongFalsely : Prop := fnExactFrontToBackRow.holds Try.pinned (OpenSpec.ofChange fnExactFrontToBackWrong)

/-- 'laws.FnExactGroupOrder': WHATEVER THE INPUT: true; the input reads as it did. -/
def fnExactGroupOrderSpec : ChangeSpec := { name := "fnExactGroupOrder", fn := fun _ => fun
  | [d1, d2] => { results := [.lit (.bool true)], args := [d1, d2] }
  | _ => none }
def fnExactGroupOrderRow : OpenClaim := { program := "ytcepccbffochiaa", sum := "74790015257b117d2a2753481d67615b1b2f503f27f1816ff6cb1d2ff0b48d18", func := "loop.example/g01167/laws.FnExactGroupOrder", spec := "fnExactGroupOrder", apart := false }
def FnExactGroupOrderSaid : Prop := fnExactGroupOrderRow.holds Try.pinned (OpenSpec.ofChange fnExactGroupOrderSpec)

/-- ITS FALSE NEIGHBOUR: 'it returns false'. Refute it at one input. -/
def fnExactGroupOrderWrong : ChangeSpec := { name := "fnExactGroupOrder", fn := fun _ => fun
  | [d1, d2] => { results := [.lit (.bool false)], args := [d1, d2] }
  | _ => none }
def FnExactGroupOrderWrongFalsely : Prop := fnExactGroupOrderRow.holds Try.pinned (OpenSpec.ofChange fnExactGroupOrderWrong)

/-- 'laws.FnExactLuckyCounts': WHATEVER THE INPUT: true; the input reads as it did. -/
def fnExactLuckyCountsSpec : ChangeSpec := { name := "fnExactLuckyCounts", fn := fun _ => fun
  | [d] => { results := [.lit (.bool true)], args := [d] }
  | _ => none }
def fnExactLuckyCountsRow : OpenClaim := { program := "ytcepccbffochiaa", sum := "74790015257b117d2a2753481d67615b1b2f503f27f1816ff6cb1d2ff0b48d18", func := "loop.example/g01167/laws.FnExactLuckyCounts", spec := "fnExactLuckyCounts", apart := false }
def FnExactLuckyCountsSaid : Prop := fnExactLuckyCountsRow.holds Try.pinned (OpenSpec.ofChange fnExactLuckyCountsSpec)

/-- ITS FALSE NEIGHBOUR: 'it returns false'. Refute it at one input. -/
def fnExactLuckyCountsWrong : ChangeSpec := { name := "fnExactLuckyCounts", fn := fun _ => fun
  | [d] => { results := [.lit (.bool false)], args := [d] }
  | _ => none }
def FnExactLuckyCountsWrongFalsely : Prop := fnExactLuckyCountsRow.holds Try.pinned (OpenSpec.ofChange fnExactLuckyCountsWrong)

/-- 'laws.FnExactOwnChance': WHATEVER THE INPUT: true; the input reads as it did. -/
def fnExactOwnChanceSpec : ChangeSpec := { name := "fnExactOwnChance", fn := fun _ => fun
  | [d1, d2, d3] => { results := [.lit (.bool true)], args := [d1, d2, d3] }
  | _ => none }
def fnExactOwnChanceRow : OpenClaim := { program := "ytcepccbffochiaa", sum := "74790015257b117d2a2753481d67615b1b2f503f27f1816ff6cb1d2ff0b48d18", func := "loop.example/g01167/laws.FnExactOwnChance", spec := "fnExactOwnChance", apart := false }
def FnExactOwnChanceSaid : Prop := fnExactOwnChanceRow.holds Try.pinned (OpenSpec.ofChange fnExactOwnChanceSpec)

/-- ITS FALSE NEIGHBOUR: 'it returns false'. Refute it at one input. -/
def fnExactOwnChanceWrong : ChangeSpec := { name := "fnExactOwnChance", fn := fun _ => fun
  | [d1, d2, d3] => { results := [.lit (.bool false)], args := [d1, d2, d3] }
  | _ => none }
def FnExactOwnChanceWrongFalsely : Prop := fnExactOwnChanceRow.holds Try.pinned (OpenSpec.ofChange fnExactOwnChanceWrong)

/-- 'laws.FnExactWrongMean': WHATEVER THE INPUT: true; the input reads as it did. -/
def fnExactWrongMeanSpec : ChangeSpec := { name := "fnExactWrongMean", fn := fun _ => fun
  | [d1, d2] => { results := [.lit (.bool true)], args := [d1, d2] }
  | _ => none }
def fnExactWrongMeanRow : OpenClaim := { program := "ytcepccbffochiaa", sum := "74790015257b117d2a2753481d67615b1b2f503f27f1816ff6cb1d2ff0b48d18", func := "loop.example/g01167/laws.FnExactWrongMean", spec := "fnExactWrongMean", apart := false }
def FnExactWrongMeanSaid : Prop := fnExactWrongMeanRow.holds Try.pinned (OpenSpec.ofChange fnExactWrongMeanSpec)

/-- ITS FALSE NEIGHBOUR: 'it returns false'. Refute it at one input. -/
def fnExactWrongMeanWrong : ChangeSpec := { name := "fnExactWrongMean", fn := fun _ => fun
  | [d1, d2] => { results := [.lit (.bool false)], args := [d1, d2] }
  | _ => none }
def FnExactWrongMeanWrongFalsely : Prop := fnExactWrongMeanRow.holds Try.pinned (OpenSpec.ofChange fnExactWrongMeanWrong)

/-- 'laws.FnExactLastSeats': WHATEVER THE INPUT: true; the input reads as it did. -/
def fnExactLastSeatsSpec : ChangeSpec := { name := "fnExactLastSeats", fn := fun _ => fun
  | [d1, d2] => { results := [.lit (.bool true)], args := [d1, d2] }
  | _ => none }
def fnExactLastSeatsRow : OpenClaim := { program := "ytcepccbffochiaa", sum := "74790015257b117d2a2753481d67615b1b2f503f27f1816ff6cb1d2ff0b48d18", func := "loop.example/g01167/laws.FnExactLastSeats", spec := "fnExactLastSeats", apart := false }
def FnExactLastSeatsSaid : Prop := fnExactLastSeatsRow.holds Try.pinned (OpenSpec.ofChange fnExactLastSeatsSpec)

/-- ITS FALSE NEIGHBOUR: 'it returns false'. Refute it at one input. -/
def fnExactLastSeatsWrong : ChangeSpec := { name := "fnExactLastSeats", fn := fun _ => fun
  | [d1, d2] => { results := [.lit (.bool false)], args := [d1, d2] }
  | _ => none }
def FnExactLastSeatsWrongFalsely : Prop := fnExactLastSeatsRow.holds Try.pinned (OpenSpec.ofChange fnExactLastSeatsWrong)

/- THE SECOND FORM. 'bulk': how many values and letters a reading holds, each counted each time it is reached (what is shared counts as often as it is met; a slice's spare places count too). A statement '..UptoSaid' is the law's where the arguments, and the package variables that the reading takes, are together of bulk at most 1048576: NARROWER than '..Said'. Prove '..Said' where nothing that the law and all that it calls make is longer than what came in: it says more and counts as full. Else prove '..UptoSaid'. A law counts once. -/
mutual
def uptoBulk {H : Type} : DataW H → Nat
  | .lit (.string bytes) => bytes.length + 1
  | .lit _ => 1
  | .nil => 1
  | .ptr d => uptoBulk d + 1
  | .slice elems spare => uptoBulkAll elems + uptoBulkAll spare + 1
  | .agg parts => uptoBulkAll parts + 1
  | .iface _ d => uptoBulk d + 1
  | .map entries => uptoBulkEntries entries + 1
  | .held _ => 1
def uptoBulkAll {H : Type} : List (DataW H) → Nat
  | [] => 0
  | d :: r => uptoBulk d + uptoBulkAll r
def uptoBulkEntries {H : Type} : List (Lit × DataW H) → Nat
  | [] => 0
  | x :: r => uptoBulkEntry x + uptoBulkEntries r
def uptoBulkEntry {H : Type} : Lit × DataW H → Nat
  | (.string bytes, d) => bytes.length + uptoBulk d + 1
  | (_, d) => uptoBulk d + 1
 end
def uptoSmall : (H : Type) → List (DataW H) → Bool := fun _ ds => decide (uptoBulkAll ds ≤ 1048576)
def OpenSpec.upto (s : _root_.Go.ChangeSpec) : _root_.Go.OpenSpec := { _root_.Go.OpenSpec.ofChange s with cond := some uptoSmall }

/-- 'laws.FnExactConstants', WHERE WHAT IT READS IS OF BULK AT MOST 1048576: true; the input reads as it did. -/
def fnExactConstantsUptoRow : OpenClaim := { program := "ytcepccbffochiaa", sum := "74790015257b117d2a2753481d67615b1b2f503f27f1816ff6cb1d2ff0b48d18", func := "loop.example/g01167/laws.FnExactConstants", spec := "fnExactConstants", apart := false, narrowed := true }
def FnExactConstantsUptoSaid : Prop := fnExactConstantsUptoRow.holds Try.pinned (OpenSpec.upto fnExactConstantsSpec)

/-- 'laws.FnExactLessString', WHERE WHAT IT READS IS OF BULK AT MOST 1048576: true; the input reads as it did. -/
def fnExactLessStringUptoRow : OpenClaim := { program := "ytcepccbffochiaa", sum := "74790015257b117d2a2753481d67615b1b2f503f27f1816ff6cb1d2ff0b48d18", func := "loop.example/g01167/laws.FnExactLessString", spec := "fnExactLessString", apart := false, narrowed := true }
def FnExactLessStringUptoSaid : Prop := fnExactLessStringUptoRow.holds Try.pinned (OpenSpec.upto fnExactLessStringSpec)

/-- 'laws.FnExactChecksum', WHERE WHAT IT READS IS OF BULK AT MOST 1048576: true; the input reads as it did. -/
def fnExactChecksumUptoRow : OpenClaim := { program := "ytcepccbffochiaa", sum := "74790015257b117d2a2753481d67615b1b2f503f27f1816ff6cb1d2ff0b48d18", func := "loop.example/g01167/laws.FnExactChecksum", spec := "fnExactChecksum", apart := false, narrowed := true }
def FnExactChecksumUptoSaid : Prop := fnExactChecksumUptoRow.holds Try.pinned (OpenSpec.upto fnExactChecksumSpec)

/-- 'laws.FnExactCountParking', WHERE WHAT IT READS IS OF BULK AT MOST 1048576: true; the input reads as it did. -/
def fnExactCountParkingUptoRow : OpenClaim := { program := "ytcepccbffochiaa", sum := "74790015257b117d2a2753481d67615b1b2f503f27f1816ff6cb1d2ff0b48d18", func := "loop.example/g01167/laws.FnExactCountParking", spec := "fnExactCountParking", apart := false, narrowed := true }
def FnExactCountParkingUptoSaid : Prop := fnExactCountParkingUptoRow.holds Try.pinned (OpenSpec.upto fnExactCountParkingSpec)

/-- 'laws.FnExactCountSeatings', WHERE WHAT IT READS IS OF BULK AT MOST 1048576: true; the input reads as it did. -/
def fnExactCountSeatingsUptoRow : OpenClaim := { program := "ytcepccbffochiaa", sum := "74790015257b117d2a2753481d67615b1b2f503f27f1816ff6cb1d2ff0b48d18", func := "loop.example/g01167/laws.FnExactCountSeatings", spec := "fnExactCountSeatings", apart := false, narrowed := true }
def FnExactCountSeatingsUptoSaid : Prop := fnExactCountSeatingsUptoRow.holds Try.pinned (OpenSpec.upto fnExactCountSeatingsSpec)

/-- 'laws.FnExactBackToFront', WHERE WHAT IT READS IS OF BULK AT MOST 1048576: true; the input reads as it did. -/
def fnExactBackToFrontUptoRow : OpenClaim := { program := "ytcepccbffochiaa", sum := "74790015257b117d2a2753481d67615b1b2f503f27f1816ff6cb1d2ff0b48d18", func := "loop.example/g01167/laws.FnExactBackToFront", spec := "fnExactBackToFront", apart := false, narrowed := true }
def FnExactBackToFrontUptoSaid : Prop := fnExactBackToFrontUptoRow.holds Try.pinned (OpenSpec.upto fnExactBackToFrontSpec)

/-- 'laws.FnExactFrontToBack', WHERE WHAT IT READS IS OF BULK AT MOST 1048576: true; the input reads as it did. -/
def fnExactFrontToBackUptoRow : OpenClaim := { program := "ytcepccbffochiaa", sum := "74790015257b117d2a2753481d67615b1b2f503f27f1816ff6cb1d2ff0b48d18", func := "loop.example/g01167/laws.FnExactFrontToBack", spec := "fnExactFrontToBack", apart := false, narrowed := true }
def FnExactFrontToBackUptoSaid : Prop := fnExactFrontToBackUptoRow.holds Try.pinned (OpenSpec.upto fnExactFrontToBackSpec)

/-- 'laws.FnExactGroupOrder', WHERE WHAT IT READS IS OF BULK AT MOST 1048576: true; the input reads as it did. -/
def fnExactGroupOrderUptoRow : OpenClaim := { program := "ytcepccbffochiaa", sum := "74790015257b117d2a2753481d67615b1b2f503f27f1816ff6cb1d2ff0b48d18", func := "loop.example/g01167/laws.FnExactGroupOrder", spec := "fnExactGroupOrder", apart := false, narrowed := true }
def FnExactGroupOrderUptoSaid : Prop := fnExactGroupOrderUptoRow.holds Try.pinned (OpenSpec.upto fnExactGroupOrderSpec)

/-- 'laws.FnExactLuckyCounts', WHERE WHAT IT READS IS OF BULK AT MOST 1048576: true; the input reads as it did. -/
def fnExactLuckyCountsUptoRow : OpenClaim := { program := "ytcepccbffochiaa", sum := "74790015257b117d2a2753481d67615b1b2f503f27f1816ff6cb1d2ff0b48d18", func := "loop.example/g01167/laws.FnExactLuckyCounts", spec := "fnExactLuckyCounts", apart := false, narrowed := true }
def FnExactLuckyCountsUptoSaid : Prop := fnExactLuckyCountsUptoRow.holds Try.pinned (OpenSpec.upto fnExactLuckyCountsSpec)

/-- 'laws.FnExactOwnChance', WHERE WHAT IT READS IS OF BULK AT MOST 1048576: true; the input reads as it did. -/
def fnExactOwnChanceUptoRow : OpenClaim := { program := "ytcepccbffochiaa", sum := "74790015257b117d2a2753481d67615b1b2f503f27f1816ff6cb1d2ff0b48d18", func := "loop.example/g01167/laws.FnExactOwnChance", spec := "fnExactOwnChance", apart := false, narrowed := true }
def FnExactOwnChanceUptoSaid : Prop := fnExactOwnChanceUptoRow.holds Try.pinned (OpenSpec.upto fnExactOwnChanceSpec)

/-- 'laws.FnExactWrongMean', WHERE WHAT IT READS IS OF BULK AT MOST 1048576: true; the input reads as it did. -/
def fnExactWrongMeanUptoRow : OpenClaim := { program := "ytcepccbffochiaa", sum := "74790015257b117d2a2753481d67615b1b2f503f27f1816ff6cb1d2ff0b48d18", func := "loop.example/g01167/laws.FnExactWrongMean", spec := "fnExactWrongMean", apart := false, narrowed := true }
def FnExactWrongMeanUptoSaid : Prop := fnExactWrongMeanUptoRow.holds Try.pinned (OpenSpec.upto fnExactWrongMeanSpec)

/-- 'laws.FnExactLastSeats', WHERE WHAT IT READS IS OF BULK AT MOST 1048576: true; the input reads as it did. -/
def fnExactLastSeatsUptoRow : OpenClaim := { program := "ytcepccbffochiaa", sum := "74790015257b117d2a2753481d67615b1b2f503f27f1816ff6cb1d2ff0b48d18", func := "loop.example/g01167/laws.FnExactLastSeats", spec := "fnExactLastSeats", apart := false, narrowed := true }
def FnExactLastSeatsUptoSaid : Prop := fnExactLastSeatsUptoRow.holds Try.pinned (OpenSpec.upto fnExactLastSeatsSpec)

end Rows
end Go.Proofs.Ytcepccbffochiaa
