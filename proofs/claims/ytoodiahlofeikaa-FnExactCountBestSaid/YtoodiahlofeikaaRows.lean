/-
  No cell of these rows narrows 'for every input' (looked for: loops, veiled, ifaces, maps, wideKeys, modest, calm, conditions, laid).
  DERIVED. THE GIVEN ROWS OF THIS SEAT. 6 by the template 'for every input the law returns true; each argument reads behind the call as it read before'; 0 by the template 'total and deterministic' (their statements: YtoodiahlofeikaaTotals.lean).
  GIVEN WITH THE SEED: the statements are not yours to turn. If you find one false, say at which input.
  Laid BY PROGRAM, IN A SANDBOX (cutbox-rows.mjs): the forced cells as the released guide's own fill.sh prints them over the translation f51ee4a6f67d604b… (all of the seat's roots in one cut). By AI agents, Wed Nov 11 2026. No macro, syntax, notation, axiom, sorry.
-/
import Derived.Test.YtoodiahlofeikaaChecked
import GoSem.Claim
import GoSem.ClaimJoined
import GoSem.ClaimMapViews
import Derived.JoinedTies
import Derived.KernelRfl
namespace Go.Proofs.Ytoodiahlofeikaa
/- THE CELL 'sum', in the pinned program and in every row, IS THE sha256 OF THE DUMP (.gsa) THAT YtoodiahlofeikaaProg.lean LOADS. Nothing in Lean hashes anything: it is a label: what it is worth is what the hold of that sum in a sandbox is worth. -/
noncomputable def Try.pinned : Pinned := { name := "ytoodiahlofeikaa", sum := "f51ee4a6f67d604b1d6b442fcc74073eb35c8bcb31fe446786cf7d41e1afac2f", checked := Try.checked }
namespace Rows
def none {H : Type} : Left H := { results := [], args := [] }

/-- 'laws.FnExactCountBest': WHATEVER THE INPUT: true; the input reads as it did. -/
def fnExactCountBestSpec : ChangeSpec := { name := "fnExactCountBest", fn := fun _ => fun
  | [d1, d2] => { results := [.lit (.bool true)], args := [d1, d2] }
  | _ => none }
def fnExactCountBestRow : OpenClaim := { program := "ytoodiahlofeikaa", sum := "f51ee4a6f67d604b1d6b442fcc74073eb35c8bcb31fe446786cf7d41e1afac2f", func := "loop.example/g01167/laws.FnExactCountBest", spec := "fnExactCountBest", unfollowed := true, recurses := true, apart := false }
def FnExactCountBestSaid : Prop := fnExactCountBestRow.holds Try.pinned (OpenSpec.ofChange fnExactCountBestSpec)

/-- ITS FALSE NEIGHBOUR: 'it returns false'. Refute it at one input. -/
def fnExactCountBestWrong : ChangeSpec := { name := "fnExactCountBest", fn := fun _ => fun
  | [d1, d2] => { results := [.lit (.bool false)], args := [d1, d2] }
  | _ => none }
def FnExactCountBestWrongFalsely : Prop := fnExactCountBestRow.holds Try.pinned (OpenSpec.ofChange fnExactCountBestWrong)

/-- 'laws.FnExactAllPark': WHATEVER THE INPUT: true; the input reads as it did. -/
def fnExactAllParkSpec : ChangeSpec := { name := "fnExactAllPark", fn := fun _ => fun
  | [d1, d2] => { results := [.lit (.bool true)], args := [d1, d2] }
  | _ => none }
def fnExactAllParkRow : OpenClaim := { program := "ytoodiahlofeikaa", sum := "f51ee4a6f67d604b1d6b442fcc74073eb35c8bcb31fe446786cf7d41e1afac2f", func := "loop.example/g01167/laws.FnExactAllPark", spec := "fnExactAllPark", apart := false }
def FnExactAllParkSaid : Prop := fnExactAllParkRow.holds Try.pinned (OpenSpec.ofChange fnExactAllParkSpec)

/-- ITS FALSE NEIGHBOUR: 'it returns false'. Refute it at one input. -/
def fnExactAllParkWrong : ChangeSpec := { name := "fnExactAllPark", fn := fun _ => fun
  | [d1, d2] => { results := [.lit (.bool false)], args := [d1, d2] }
  | _ => none }
def FnExactAllParkWrongFalsely : Prop := fnExactAllParkRow.holds Try.pinned (OpenSpec.ofChange fnExactAllParkWrong)

/-- 'laws.FnExactLuckyCars': WHATEVER THE INPUT: true; the input reads as it did. -/
def fnExactLuckyCarsSpec : ChangeSpec := { name := "fnExactLuckyCars", fn := fun _ => fun
  | [d1, d2] => { results := [.lit (.bool true)], args := [d1, d2] }
  | _ => none }
def fnExactLuckyCarsRow : OpenClaim := { program := "ytoodiahlofeikaa", sum := "f51ee4a6f67d604b1d6b442fcc74073eb35c8bcb31fe446786cf7d41e1afac2f", func := "loop.example/g01167/laws.FnExactLuckyCars", spec := "fnExactLuckyCars", apart := false }
def FnExactLuckyCarsSaid : Prop := fnExactLuckyCarsRow.holds Try.pinned (OpenSpec.ofChange fnExactLuckyCarsSpec)

/-- ITS FALSE NEIGHBOUR: 'it returns false'. Refute it at one input. -/
def fnExactLuckyCarsWrong : ChangeSpec := { name := "fnExactLuckyCars", fn := fun _ => fun
  | [d1, d2] => { results := [.lit (.bool false)], args := [d1, d2] }
  | _ => none }
def FnExactLuckyCarsWrongFalsely : Prop := fnExactLuckyCarsRow.holds Try.pinned (OpenSpec.ofChange fnExactLuckyCarsWrong)

/-- 'laws.FnExactParkSteps': WHATEVER THE INPUT: true; the input reads as it did. -/
def fnExactParkStepsSpec : ChangeSpec := { name := "fnExactParkSteps", fn := fun _ => fun
  | [d1, d2] => { results := [.lit (.bool true)], args := [d1, d2] }
  | _ => none }
def fnExactParkStepsRow : OpenClaim := { program := "ytoodiahlofeikaa", sum := "f51ee4a6f67d604b1d6b442fcc74073eb35c8bcb31fe446786cf7d41e1afac2f", func := "loop.example/g01167/laws.FnExactParkSteps", spec := "fnExactParkSteps", apart := false }
def FnExactParkStepsSaid : Prop := fnExactParkStepsRow.holds Try.pinned (OpenSpec.ofChange fnExactParkStepsSpec)

/-- ITS FALSE NEIGHBOUR: 'it returns false'. Refute it at one input. -/
def fnExactParkStepsWrong : ChangeSpec := { name := "fnExactParkSteps", fn := fun _ => fun
  | [d1, d2] => { results := [.lit (.bool false)], args := [d1, d2] }
  | _ => none }
def FnExactParkStepsWrongFalsely : Prop := fnExactParkStepsRow.holds Try.pinned (OpenSpec.ofChange fnExactParkStepsWrong)

/-- 'laws.FnExactCarsAtSeats': WHATEVER THE INPUT: true; the input reads as it did. -/
def fnExactCarsAtSeatsSpec : ChangeSpec := { name := "fnExactCarsAtSeats", fn := fun _ => fun
  | [d1, d2] => { results := [.lit (.bool true)], args := [d1, d2] }
  | _ => none }
def fnExactCarsAtSeatsRow : OpenClaim := { program := "ytoodiahlofeikaa", sum := "f51ee4a6f67d604b1d6b442fcc74073eb35c8bcb31fe446786cf7d41e1afac2f", func := "loop.example/g01167/laws.FnExactCarsAtSeats", spec := "fnExactCarsAtSeats", apart := false }
def FnExactCarsAtSeatsSaid : Prop := fnExactCarsAtSeatsRow.holds Try.pinned (OpenSpec.ofChange fnExactCarsAtSeatsSpec)

/-- ITS FALSE NEIGHBOUR: 'it returns false'. Refute it at one input. -/
def fnExactCarsAtSeatsWrong : ChangeSpec := { name := "fnExactCarsAtSeats", fn := fun _ => fun
  | [d1, d2] => { results := [.lit (.bool false)], args := [d1, d2] }
  | _ => none }
def FnExactCarsAtSeatsWrongFalsely : Prop := fnExactCarsAtSeatsRow.holds Try.pinned (OpenSpec.ofChange fnExactCarsAtSeatsWrong)

/-- 'laws.FnExactFewestFilled': WHATEVER THE INPUT: true; the input reads as it did. -/
def fnExactFewestFilledSpec : ChangeSpec := { name := "fnExactFewestFilled", fn := fun _ => fun
  | [d] => { results := [.lit (.bool true)], args := [d] }
  | _ => none }
def fnExactFewestFilledRow : OpenClaim := { program := "ytoodiahlofeikaa", sum := "f51ee4a6f67d604b1d6b442fcc74073eb35c8bcb31fe446786cf7d41e1afac2f", func := "loop.example/g01167/laws.FnExactFewestFilled", spec := "fnExactFewestFilled", apart := false }
def FnExactFewestFilledSaid : Prop := fnExactFewestFilledRow.holds Try.pinned (OpenSpec.ofChange fnExactFewestFilledSpec)

/-- ITS FALSE NEIGHBOUR: 'it returns false'. Refute it at one input. -/
def fnExactFewestFilledWrong : ChangeSpec := { name := "fnExactFewestFilled", fn := fun _ => fun
  | [d] => { results := [.lit (.bool false)], args := [d] }
  | _ => none }
def FnExactFewestFilledWrongFalsely : Prop := fnExactFewestFilledRow.holds Try.pinned (OpenSpec.ofChange fnExactFewestFilledWrong)

/- THE SECOND FORM. 'bulk': how many values and letters a reading holds, each counted each time it is reached (what is shared counts as often as it is met; a slice's spare places count too). A statement '..UptoSaid' is the law's where the arguments, and the package variables that the reading takes, are together of bulk at most 1048576: NARROWER than '..Said'. Prove '..Said' where nothing that the law and all that it calls make is longer than what came in: it says more and counts as full. Else prove '..UptoSaid'. A law counts once. -/
mutual
def uptoBulk {H : Type} : DataW H → Nat
  | .lit (.string bytes) => bytes.length + 1
  | .lit _ => 1
  | .nil => 1
  | .ptr d => uptoBulk d + 1
  | .slice elems spare => uptoBulkAll elems + uptoBulkAll spare + 1
  | .agg parts => uptoBulkAll parts + 1
  | .iface _ d => uptoBulk d + 1
  | .map entries => uptoBulkEntries entries + 1
  | .held _ => 1
def uptoBulkAll {H : Type} : List (DataW H) → Nat
  | [] => 0
  | d :: r => uptoBulk d + uptoBulkAll r
def uptoBulkEntries {H : Type} : List (Lit × DataW H) → Nat
  | [] => 0
  | x :: r => uptoBulkEntry x + uptoBulkEntries r
def uptoBulkEntry {H : Type} : Lit × DataW H → Nat
  | (.string bytes, d) => bytes.length + uptoBulk d + 1
  | (_, d) => uptoBulk d + 1
 end
def uptoSmall : (H : Type) → List (DataW H) → Bool := fun _ ds => decide (uptoBulkAll ds ≤ 1048576)
def OpenSpec.upto (s : _root_.Go.ChangeSpec) : _root_.Go.OpenSpec := { _root_.Go.OpenSpec.ofChange s with cond := some uptoSmall }

/-- 'laws.FnExactCountBest', WHERE WHAT IT READS IS OF BULK AT MOST 1048576: true; the input reads as it did. -/
def fnExactCountBestUptoRow : OpenClaim := { program := "ytoodiahlofeikaa", sum := "f51ee4a6f67d604b1d6b442fcc74073eb35c8bcb31fe446786cf7d41e1afac2f", func := "loop.example/g01167/laws.FnExactCountBest", spec := "fnExactCountBest", unfollowed := true, recurses := true, apart := false, narrowed := true }
def FnExactCountBestUptoSaid : Prop := fnExactCountBestUptoRow.holds Try.pinned (OpenSpec.upto fnExactCountBestSpec)

/-- 'laws.FnExactAllPark', WHERE WHAT IT READS IS OF BULK AT MOST 1048576: true; the input reads as it did. -/
def fnExactAllParkUptoRow : OpenClaim := { program := "ytoodiahlofeikaa", sum := "f51ee4a6f67d604b1d6b442fcc74073eb35c8bcb31fe446786cf7d41e1afac2f", func := "loop.example/g01167/laws.FnExactAllPark", spec := "fnExactAllPark", apart := false, narrowed := true }
def FnExactAllParkUptoSaid : Prop := fnExactAllParkUptoRow.holds Try.pinned (OpenSpec.upto fnExactAllParkSpec)

/-- 'laws.FnExactLuckyCars', WHERE WHAT IT READS IS OF BULK AT MOST 1048576: true; the input reads as it did. -/
def fnExactLuckyCarsUptoRow : OpenClaim := { program := "ytoodiahlofeikaa", sum := "f51ee4a6f67d604b1d6b442fcc74073eb35c8bcb31fe446786cf7d41e1afac2f", func := "loop.example/g01167/laws.FnExactLuckyCars", spec := "fnExactLuckyCars", apart := false, narrowed := true }
def FnExactLuckyCarsUptoSaid : Prop := fnExactLuckyCarsUptoRow.holds Try.pinned (OpenSpec.upto fnExactLuckyCarsSpec)

/-- 'laws.FnExactParkSteps', WHERE WHAT IT READS IS OF BULK AT MOST 1048576: true; the input reads as it did. -/
def fnExactParkStepsUptoRow : OpenClaim := { program := "ytoodiahlofeikaa", sum := "f51ee4a6f67d604b1d6b442fcc74073eb35c8bcb31fe446786cf7d41e1afac2f", func := "loop.example/g01167/laws.FnExactParkSteps", spec := "fnExactParkSteps", apart := false, narrowed := true }
def FnExactParkStepsUptoSaid : Prop := fnExactParkStepsUptoRow.holds Try.pinned (OpenSpec.upto fnExactParkStepsSpec)

/-- 'laws.FnExactCarsAtSeats', WHERE WHAT IT READS IS OF BULK AT MOST 1048576: true; the input reads as it did. -/
def fnExactCarsAtSeatsUptoRow : OpenClaim := { program := "ytoodiahlofeikaa", sum := "f51ee4a6f67d604b1d6b442fcc74073eb35c8bcb31fe446786cf7d41e1afac2f", func := "loop.example/g01167/laws.FnExactCarsAtSeats", spec := "fnExactCarsAtSeats", apart := false, narrowed := true }
def FnExactCarsAtSeatsUptoSaid : Prop := fnExactCarsAtSeatsUptoRow.holds Try.pinned (OpenSpec.upto fnExactCarsAtSeatsSpec)

/-- 'laws.FnExactFewestFilled', WHERE WHAT IT READS IS OF BULK AT MOST 1048576: true; the input reads as it did. -/
def fnExactFewestFilledUptoRow : OpenClaim := { program := "ytoodiahlofeikaa", sum := "f51ee4a6f67d604b1d6b442fcc74073eb35c8bcb31fe446786cf7d41e1afac2f", func := "loop.example/g01167/laws.FnExactFewestFilled", spec := "fnExactFewestFilled", apart := false, narrowed := true }
def FnExactFewestFilledUptoSaid : Prop := fnExactFewestFilledUptoRow.holds Try.pinned (OpenSpec.upto fnExactFewestFilledSpec)

end Rows
end Go.Proofs.Ytoodiahlofeikaa
