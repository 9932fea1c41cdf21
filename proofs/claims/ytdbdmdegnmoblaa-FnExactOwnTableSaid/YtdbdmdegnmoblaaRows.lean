/-
  No cell of these rows narrows 'for every input' (looked for: loops, veiled, ifaces, maps, wideKeys, modest, calm, conditions, laid).
  DERIVED. THE GIVEN ROWS OF THIS SEAT. 6 by the template 'for every input the law returns true; each argument reads behind the call as it read before'; 0 by the template 'total and deterministic' (their statements: YtdbdmdegnmoblaaTotals.lean).
  GIVEN WITH THE SEED: the statements are not yours to turn. If you find one false, say at which input.
  Laid BY PROGRAM, IN A SANDBOX (cutbox-rows.mjs): the forced cells as the released guide's own fill.sh prints them over the translation 3bea91010e9ab716… (all of the seat's roots in one cut). By AI agents, Wed Nov 11 2026. No macro, syntax, notation, axiom, sorry.
-/
import Derived.Test.YtdbdmdegnmoblaaChecked
import GoSem.Claim
import GoSem.ClaimJoined
import GoSem.ClaimMapViews
import Derived.JoinedTies
import Derived.KernelRfl
namespace Go.Proofs.Ytdbdmdegnmoblaa
/- THE CELL 'sum', in the pinned program and in every row, IS THE sha256 OF THE DUMP (.gsa) THAT YtdbdmdegnmoblaaProg.lean LOADS. Nothing in Lean hashes anything: it is a label: what it is worth is what the hold of that sum in a sandbox is worth. -/
noncomputable def Try.pinned : Pinned := { name := "ytdbdmdegnmoblaa", sum := "3bea91010e9ab7168a198aafb451d29294faadcfd50ca8117e46f13b02d16b09", checked := Try.checked }
namespace Rows
def none {H : Type} : Left H := { results := [], args := [] }

/-- 'laws.FnExactIsRow': WHATEVER THE INPUT: true; the input reads as it did. -/
def fnExactIsRowSpec : ChangeSpec := { name := "fnExactIsRow", fn := fun _ => fun
  | [d] => { results := [.lit (.bool true)], args := [d] }
  | _ => none }
def fnExactIsRowRow : OpenClaim := { program := "ytdbdmdegnmoblaa", sum := "3bea91010e9ab7168a198aafb451d29294faadcfd50ca8117e46f13b02d16b09", func := "loop.example/g01167/laws.FnExactIsRow", spec := "fnExactIsRow", apart := false }
def FnExactIsRowSaid : Prop := fnExactIsRowRow.holds Try.pinned (OpenSpec.ofChange fnExactIsRowSpec)

/-- ITS FALSE NEIGHBOUR: 'it returns false'. Refute it at one input. -/
def fnExactIsRowWrong : ChangeSpec := { name := "fnExactIsRow", fn := fun _ => fun
  | [d] => { results := [.lit (.bool false)], args := [d] }
  | _ => none }
def FnExactIsRowWrongFalsely : Prop := fnExactIsRowRow.holds Try.pinned (OpenSpec.ofChange fnExactIsRowWrong)

/-- 'laws.FnExactShiftToPark': WHATEVER THE INPUT: true; the input reads as it did. -/
def fnExactShiftToParkSpec : ChangeSpec := { name := "fnExactShiftToPark", fn := fun _ => fun
  | [d1, d2] => { results := [.lit (.bool true)], args := [d1, d2] }
  | _ => none }
def fnExactShiftToParkRow : OpenClaim := { program := "ytdbdmdegnmoblaa", sum := "3bea91010e9ab7168a198aafb451d29294faadcfd50ca8117e46f13b02d16b09", func := "loop.example/g01167/laws.FnExactShiftToPark", spec := "fnExactShiftToPark", apart := false }
def FnExactShiftToParkSaid : Prop := fnExactShiftToParkRow.holds Try.pinned (OpenSpec.ofChange fnExactShiftToParkSpec)

/-- ITS FALSE NEIGHBOUR: 'it returns false'. Refute it at one input. -/
def fnExactShiftToParkWrong : ChangeSpec := { name := "fnExactShiftToPark", fn := fun _ => fun
  | [d1, d2] => { results := [.lit (.bool false)], args := [d1, d2] }
  | _ => none }
def FnExactShiftToParkWrongFalsely : Prop := fnExactShiftToParkRow.holds Try.pinned (OpenSpec.ofChange fnExactShiftToParkWrong)

/-- 'laws.FnExactSeatGap': WHATEVER THE INPUT: true; the input reads as it did. -/
def fnExactSeatGapSpec : ChangeSpec := { name := "fnExactSeatGap", fn := fun _ => fun
  | [d1, d2, d3] => { results := [.lit (.bool true)], args := [d1, d2, d3] }
  | _ => none }
def fnExactSeatGapRow : OpenClaim := { program := "ytdbdmdegnmoblaa", sum := "3bea91010e9ab7168a198aafb451d29294faadcfd50ca8117e46f13b02d16b09", func := "loop.example/g01167/laws.FnExactSeatGap", spec := "fnExactSeatGap", apart := false }
def FnExactSeatGapSaid : Prop := fnExactSeatGapRow.holds Try.pinned (OpenSpec.ofChange fnExactSeatGapSpec)

/-- ITS FALSE NEIGHBOUR: 'it returns false'. Refute it at one input. -/
def fnExactSeatGapWrong : ChangeSpec := { name := "fnExactSeatGap", fn := fun _ => fun
  | [d1, d2, d3] => { results := [.lit (.bool false)], args := [d1, d2, d3] }
  | _ => none }
def FnExactSeatGapWrongFalsely : Prop := fnExactSeatGapRow.holds Try.pinned (OpenSpec.ofChange fnExactSeatGapWrong)

/-- 'laws.FnExactRowText': WHATEVER THE INPUT: true; the input reads as it did. -/
def fnExactRowTextSpec : ChangeSpec := { name := "fnExactRowText", fn := fun _ => fun
  | [d] => { results := [.lit (.bool true)], args := [d] }
  | _ => none }
def fnExactRowTextRow : OpenClaim := { program := "ytdbdmdegnmoblaa", sum := "3bea91010e9ab7168a198aafb451d29294faadcfd50ca8117e46f13b02d16b09", func := "loop.example/g01167/laws.FnExactRowText", spec := "fnExactRowText", apart := false }
def FnExactRowTextSaid : Prop := fnExactRowTextRow.holds Try.pinned (OpenSpec.ofChange fnExactRowTextSpec)

/-- ITS FALSE NEIGHBOUR: 'it returns false'. Refute it at one input. -/
def fnExactRowTextWrong : ChangeSpec := { name := "fnExactRowText", fn := fun _ => fun
  | [d] => { results := [.lit (.bool false)], args := [d] }
  | _ => none }
def FnExactRowTextWrongFalsely : Prop := fnExactRowTextRow.holds Try.pinned (OpenSpec.ofChange fnExactRowTextWrong)

/-- 'laws.FnExactLeastGap': WHATEVER THE INPUT: true; the input reads as it did. -/
def fnExactLeastGapSpec : ChangeSpec := { name := "fnExactLeastGap", fn := fun _ => fun
  | [d] => { results := [.lit (.bool true)], args := [d] }
  | _ => none }
def fnExactLeastGapRow : OpenClaim := { program := "ytdbdmdegnmoblaa", sum := "3bea91010e9ab7168a198aafb451d29294faadcfd50ca8117e46f13b02d16b09", func := "loop.example/g01167/laws.FnExactLeastGap", spec := "fnExactLeastGap", apart := false }
def FnExactLeastGapSaid : Prop := fnExactLeastGapRow.holds Try.pinned (OpenSpec.ofChange fnExactLeastGapSpec)

/-- ITS FALSE NEIGHBOUR: 'it returns false'. Refute it at one input. -/
def fnExactLeastGapWrong : ChangeSpec := { name := "fnExactLeastGap", fn := fun _ => fun
  | [d] => { results := [.lit (.bool false)], args := [d] }
  | _ => none }
def FnExactLeastGapWrongFalsely : Prop := fnExactLeastGapRow.holds Try.pinned (OpenSpec.ofChange fnExactLeastGapWrong)

/-- 'laws.FnExactOwnTable': WHATEVER THE INPUT: true; the input reads as it did. -/
def fnExactOwnTableSpec : ChangeSpec := { name := "fnExactOwnTable", fn := fun _ => fun
  | [d1, d2] => { results := [.lit (.bool true)], args := [d1, d2] }
  | _ => none }
def fnExactOwnTableRow : OpenClaim := { program := "ytdbdmdegnmoblaa", sum := "3bea91010e9ab7168a198aafb451d29294faadcfd50ca8117e46f13b02d16b09", func := "loop.example/g01167/laws.FnExactOwnTable", spec := "fnExactOwnTable", recurses := true, apart := false }
def FnExactOwnTableSaid : Prop := fnExactOwnTableRow.holds Try.pinned (OpenSpec.ofChange fnExactOwnTableSpec)

/-- ITS FALSE NEIGHBOUR: 'it returns false'. Refute it at one input. -/
def fnExactOwnTableWrong : ChangeSpec := { name := "fnExactOwnTable", fn := fun _ => fun
  | [d1, d2] => { results := [.lit (.bool false)], args := [d1, d2] }
  | _ => none }
def FnExactOwnTableWrongFalsely : Prop := fnExactOwnTableRow.holds Try.pinned (OpenSpec.ofChange fnExactOwnTableWrong)

/- THE SECOND FORM. 'bulk': how many values and letters a reading holds, each counted each time it is reached (what is shared counts as often as it is met; a slice's spare places count too). A statement '..UptoSaid' is the law's where the arguments, and the package variables that the reading takes, are together of bulk at most 1048576: NARROWER than '..Said'. Prove '..Said' where nothing that the law and all that it calls make is longer than what came in: it says more and counts as full. Else prove '..UptoSaid'. A law counts once. -/
mutual
def uptoBulk {H : Type} : DataW H → Nat
  | .lit (.string bytes) => bytes.length + 1
  | .lit _ => 1
  | .nil => 1
  | .ptr d => uptoBulk d + 1
  | .slice elems spare => uptoBulkAll elems + uptoBulkAll spare + 1
  | .agg parts => uptoBulkAll parts + 1
  | .iface _ d => uptoBulk d + 1
  | .map entries => uptoBulkEntries entries + 1
  | .held _ => 1
def uptoBulkAll {H : Type} : List (DataW H) → Nat
  | [] => 0
  | d :: r => uptoBulk d + uptoBulkAll r
def uptoBulkEntries {H : Type} : List (Lit × DataW H) → Nat
  | [] => 0
  | x :: r => uptoBulkEntry x + uptoBulkEntries r
def uptoBulkEntry {H : Type} : Lit × DataW H → Nat
  | (.string bytes, d) => bytes.length + uptoBulk d + 1
  | (_, d) => uptoBulk d + 1
 end
def uptoSmall : (H : Type) → List (DataW H) → Bool := fun _ ds => decide (uptoBulkAll ds ≤ 1048576)
def OpenSpec.upto (s : _root_.Go.ChangeSpec) : _root_.Go.OpenSpec := { _root_.Go.OpenSpec.ofChange s with cond := some uptoSmall }

/-- 'laws.FnExactIsRow', WHERE WHAT IT READS IS OF BULK AT MOST 1048576: true; the input reads as it did. -/
def fnExactIsRowUptoRow : OpenClaim := { program := "ytdbdmdegnmoblaa", sum := "3bea91010e9ab7168a198aafb451d29294faadcfd50ca8117e46f13b02d16b09", func := "loop.example/g01167/laws.FnExactIsRow", spec := "fnExactIsRow", apart := false, narrowed := true }
def FnExactIsRowUptoSaid : Prop := fnExactIsRowUptoRow.holds Try.pinned (OpenSpec.upto fnExactIsRowSpec)

/-- 'laws.FnExactShiftToPark', WHERE WHAT IT READS IS OF BULK AT MOST 1048576: true; the input reads as it did. -/
def fnExactShiftToParkUptoRow : OpenClaim := { program := "ytdbdmdegnmoblaa", sum := "3bea91010e9ab7168a198aafb451d29294faadcfd50ca8117e46f13b02d16b09", func := "loop.example/g01167/laws.FnExactShiftToPark", spec := "fnExactShiftToPark", apart := false, narrowed := true }
def FnExactShiftToParkUptoSaid : Prop := fnExactShiftToParkUptoRow.holds Try.pinned (OpenSpec.upto fnExactShiftToParkSpec)

/-- 'laws.FnExactSeatGap', WHERE WHAT IT READS IS OF BULK AT MOST 1048576: true; the input reads as it did. -/
def fnExactSeatGapUptoRow : OpenClaim := { program := "ytdbdmdegnmoblaa", sum := "3bea91010e9ab7168a198aafb451d29294faadcfd50ca8117e46f13b02d16b09", func := "loop.example/g01167/laws.FnExactSeatGap", spec := "fnExactSeatGap", apart := false, narrowed := true }
def FnExactSeatGapUptoSaid : Prop := fnExactSeatGapUptoRow.holds Try.pinned (OpenSpec.upto fnExactSeatGapSpec)

/-- 'laws.FnExactRowText', WHERE WHAT IT READS IS OF BULK AT MOST 1048576: true; the input reads as it did. -/
def fnExactRowTextUptoRow : OpenClaim := { program := "ytdbdmdegnmoblaa", sum := "3bea91010e9ab7168a198aafb451d29294faadcfd50ca8117e46f13b02d16b09", func := "loop.example/g01167/laws.FnExactRowText", spec := "fnExactRowText", apart := false, narrowed := true }
def FnExactRowTextUptoSaid : Prop := fnExactRowTextUptoRow.holds Try.pinned (OpenSpec.upto fnExactRowTextSpec)

/-- 'laws.FnExactLeastGap', WHERE WHAT IT READS IS OF BULK AT MOST 1048576: true; the input reads as it did. -/
def fnExactLeastGapUptoRow : OpenClaim := { program := "ytdbdmdegnmoblaa", sum := "3bea91010e9ab7168a198aafb451d29294faadcfd50ca8117e46f13b02d16b09", func := "loop.example/g01167/laws.FnExactLeastGap", spec := "fnExactLeastGap", apart := false, narrowed := true }
def FnExactLeastGapUptoSaid : Prop := fnExactLeastGapUptoRow.holds Try.pinned (OpenSpec.upto fnExactLeastGapSpec)

/-- 'laws.FnExactOwnTable', WHERE WHAT IT READS IS OF BULK AT MOST 1048576: true; the input reads as it did. -/
def fnExactOwnTableUptoRow : OpenClaim := { program := "ytdbdmdegnmoblaa", sum := "3bea91010e9ab7168a198aafb451d29294faadcfd50ca8117e46f13b02d16b09", func := "loop.example/g01167/laws.FnExactOwnTable", spec := "fnExactOwnTable", recurses := true, apart := false, narrowed := true }
def FnExactOwnTableUptoSaid : Prop := fnExactOwnTableUptoRow.holds Try.pinned (OpenSpec.upto fnExactOwnTableSpec)

end Rows
end Go.Proofs.Ytdbdmdegnmoblaa
