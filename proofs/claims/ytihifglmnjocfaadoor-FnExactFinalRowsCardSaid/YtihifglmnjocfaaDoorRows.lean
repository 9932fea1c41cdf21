/-
  NARROWER THAN 'FOR EVERY INPUT', by the rows' own cells (each row's printed sentence says how): FnExactChanceOfFinal: laid · FnExactFinalRows: laid · FnExactIsFinal: laid · FnExactSeatChance: laid.
  DERIVED. THE GIVEN ROWS OF THIS SEAT. 4 by the template 'for every input the law returns true; each argument reads behind the call as it read before'; 0 by the template 'total and deterministic' (their statements: YtihifglmnjocfaaDoorTotals.lean).
  GIVEN WITH THE SEED: the statements are not yours to turn. If you find one false, say at which input.
  Laid BY PROGRAM, IN A SANDBOX (cutbox-rows.mjs): the forced cells as the released guide's own fill.sh prints them over the translation 3efe4bc2ab3e265b… (all of the seat's roots in one cut). By AI agents, Wed Nov 11 2026. No macro, syntax, notation, axiom, sorry.
-/
import Derived.Test.YtihifglmnjocfaaDoorChecked
import GoSem.Claim
import GoSem.ClaimJoined
import GoSem.ClaimMapViews
import Derived.JoinedTies
import Derived.KernelRfl
namespace Go.Proofs.YtihifglmnjocfaaDoor
/- THE CELL 'sum', in the pinned program and in every row, IS THE sha256 OF THE DUMP (.gsa) THAT YtihifglmnjocfaaDoorProg.lean LOADS. Nothing in Lean hashes anything: it is a label: what it is worth is what the hold of that sum in a sandbox is worth. -/
noncomputable def Tryd.pinned : Pinned := { name := "ytihifglmnjocfaadoor", sum := "3efe4bc2ab3e265ba2fe4813ae6648c2d12d585ba3a8137607810c71cc51a79c", checked := Tryd.checked }
namespace Rows
def none {H : Type} : Left H := { results := [], args := [] }

/- WHAT THE LISTED PACKAGE-LEVEL VARIABLES READ AS WHEN THE CALL BEGINS. Each datum BY PROGRAM (the guide's laid-datum.mjs) off the statement by which the dump's own 'gosem.cut.vars' lays the variable. In a bare row this is a premise. The card (YtihifglmnjocfaaDoorCards.lean) ties it to the program's text. -/
def laid_math_bits_deBruijn32tab {H : Type} : DataW H := .agg [.lit (.int .u8 0), .lit (.int .u8 1), .lit (.int .u8 28), .lit (.int .u8 2), .lit (.int .u8 29), .lit (.int .u8 14), .lit (.int .u8 24), .lit (.int .u8 3), .lit (.int .u8 30), .lit (.int .u8 22), .lit (.int .u8 20), .lit (.int .u8 15), .lit (.int .u8 25), .lit (.int .u8 17), .lit (.int .u8 4), .lit (.int .u8 8), .lit (.int .u8 31), .lit (.int .u8 27), .lit (.int .u8 13), .lit (.int .u8 23), .lit (.int .u8 21), .lit (.int .u8 19), .lit (.int .u8 16), .lit (.int .u8 7), .lit (.int .u8 26), .lit (.int .u8 12), .lit (.int .u8 18), .lit (.int .u8 6), .lit (.int .u8 11), .lit (.int .u8 5), .lit (.int .u8 10), .lit (.int .u8 9)]

/-- 'laws.FnExactChanceOfFinal': WHATEVER THE INPUT: true; the input reads as it did. -/
def fnExactChanceOfFinalSpec : ChangeSpec := { name := "fnExactChanceOfFinal", fn := fun _ => fun
  | [d1, d2] => { results := [.lit (.bool true)], args := [d1, d2] }
  | _ => none }
def fnExactChanceOfFinalRow : OpenClaim := { program := "ytihifglmnjocfaadoor", sum := "3efe4bc2ab3e265ba2fe4813ae6648c2d12d585ba3a8137607810c71cc51a79c", func := "loop.example/g01167/laws.FnExactChanceOfFinal", spec := "fnExactChanceOfFinal", unfollowed := true, recurses := true, named := ["math/bits.deBruijn32tab"], apart := false, laid := [("math/bits.deBruijn32tab", laid_math_bits_deBruijn32tab)] }
def FnExactChanceOfFinalSaid : Prop := fnExactChanceOfFinalRow.holds Tryd.pinned (OpenSpec.ofChange fnExactChanceOfFinalSpec)

/-- ITS FALSE NEIGHBOUR: 'it returns false'. Refute it at one input. -/
def fnExactChanceOfFinalWrong : ChangeSpec := { name := "fnExactChanceOfFinal", fn := fun _ => fun
  | [d1, d2] => { results := [.lit (.bool false)], args := [d1, d2] }
  | _ => none }
def FnExactChanceOfFinalWrongFalsely : Prop := fnExactChanceOfFinalRow.holds Tryd.pinned (OpenSpec.ofChange fnExactChanceOfFinalWrong)

/-- 'laws.FnExactFinalRows': WHATEVER THE INPUT: true; the input reads as it did. -/
def fnExactFinalRowsSpec : ChangeSpec := { name := "fnExactFinalRows", fn := fun _ => fun
  | [d] => { results := [.lit (.bool true)], args := [d] }
  | _ => none }
def fnExactFinalRowsRow : OpenClaim := { program := "ytihifglmnjocfaadoor", sum := "3efe4bc2ab3e265ba2fe4813ae6648c2d12d585ba3a8137607810c71cc51a79c", func := "loop.example/g01167/laws.FnExactFinalRows", spec := "fnExactFinalRows", unfollowed := true, recurses := true, named := ["math/bits.deBruijn32tab"], apart := false, laid := [("math/bits.deBruijn32tab", laid_math_bits_deBruijn32tab)] }
def FnExactFinalRowsSaid : Prop := fnExactFinalRowsRow.holds Tryd.pinned (OpenSpec.ofChange fnExactFinalRowsSpec)

/-- ITS FALSE NEIGHBOUR: 'it returns false'. Refute it at one input. -/
def fnExactFinalRowsWrong : ChangeSpec := { name := "fnExactFinalRows", fn := fun _ => fun
  | [d] => { results := [.lit (.bool false)], args := [d] }
  | _ => none }
def FnExactFinalRowsWrongFalsely : Prop := fnExactFinalRowsRow.holds Tryd.pinned (OpenSpec.ofChange fnExactFinalRowsWrong)

/-- 'laws.FnExactIsFinal': WHATEVER THE INPUT: true; the input reads as it did. -/
def fnExactIsFinalSpec : ChangeSpec := { name := "fnExactIsFinal", fn := fun _ => fun
  | [d1, d2] => { results := [.lit (.bool true)], args := [d1, d2] }
  | _ => none }
def fnExactIsFinalRow : OpenClaim := { program := "ytihifglmnjocfaadoor", sum := "3efe4bc2ab3e265ba2fe4813ae6648c2d12d585ba3a8137607810c71cc51a79c", func := "loop.example/g01167/laws.FnExactIsFinal", spec := "fnExactIsFinal", unfollowed := true, recurses := true, named := ["math/bits.deBruijn32tab"], apart := false, laid := [("math/bits.deBruijn32tab", laid_math_bits_deBruijn32tab)] }
def FnExactIsFinalSaid : Prop := fnExactIsFinalRow.holds Tryd.pinned (OpenSpec.ofChange fnExactIsFinalSpec)

/-- ITS FALSE NEIGHBOUR: 'it returns false'. Refute it at one input. -/
def fnExactIsFinalWrong : ChangeSpec := { name := "fnExactIsFinal", fn := fun _ => fun
  | [d1, d2] => { results := [.lit (.bool false)], args := [d1, d2] }
  | _ => none }
def FnExactIsFinalWrongFalsely : Prop := fnExactIsFinalRow.holds Tryd.pinned (OpenSpec.ofChange fnExactIsFinalWrong)

/-- 'laws.FnExactSeatChance': WHATEVER THE INPUT: true; the input reads as it did. -/
def fnExactSeatChanceSpec : ChangeSpec := { name := "fnExactSeatChance", fn := fun _ => fun
  | [d1, d2] => { results := [.lit (.bool true)], args := [d1, d2] }
  | _ => none }
def fnExactSeatChanceRow : OpenClaim := { program := "ytihifglmnjocfaadoor", sum := "3efe4bc2ab3e265ba2fe4813ae6648c2d12d585ba3a8137607810c71cc51a79c", func := "loop.example/g01167/laws.FnExactSeatChance", spec := "fnExactSeatChance", unfollowed := true, recurses := true, named := ["math/bits.deBruijn32tab"], apart := false, laid := [("math/bits.deBruijn32tab", laid_math_bits_deBruijn32tab)] }
def FnExactSeatChanceSaid : Prop := fnExactSeatChanceRow.holds Tryd.pinned (OpenSpec.ofChange fnExactSeatChanceSpec)

/-- ITS FALSE NEIGHBOUR: 'it returns false'. Refute it at one input. -/
def fnExactSeatChanceWrong : ChangeSpec := { name := "fnExactSeatChance", fn := fun _ => fun
  | [d1, d2] => { results := [.lit (.bool false)], args := [d1, d2] }
  | _ => none }
def FnExactSeatChanceWrongFalsely : Prop := fnExactSeatChanceRow.holds Tryd.pinned (OpenSpec.ofChange fnExactSeatChanceWrong)

/- THE SECOND FORM. 'bulk': how many values and letters a reading holds, each counted each time it is reached (what is shared counts as often as it is met; a slice's spare places count too). A statement '..UptoSaid' is the law's where the arguments, and the package variables that the reading takes, are together of bulk at most 1048576: NARROWER than '..Said'. Prove '..Said' where nothing that the law and all that it calls make is longer than what came in: it says more and counts as full. Else prove '..UptoSaid'. A law counts once. -/
mutual
def uptoBulk {H : Type} : DataW H → Nat
  | .lit (.string bytes) => bytes.length + 1
  | .lit _ => 1
  | .nil => 1
  | .ptr d => uptoBulk d + 1
  | .slice elems spare => uptoBulkAll elems + uptoBulkAll spare + 1
  | .agg parts => uptoBulkAll parts + 1
  | .iface _ d => uptoBulk d + 1
  | .map entries => uptoBulkEntries entries + 1
  | .held _ => 1
def uptoBulkAll {H : Type} : List (DataW H) → Nat
  | [] => 0
  | d :: r => uptoBulk d + uptoBulkAll r
def uptoBulkEntries {H : Type} : List (Lit × DataW H) → Nat
  | [] => 0
  | x :: r => uptoBulkEntry x + uptoBulkEntries r
def uptoBulkEntry {H : Type} : Lit × DataW H → Nat
  | (.string bytes, d) => bytes.length + uptoBulk d + 1
  | (_, d) => uptoBulk d + 1
 end
def uptoSmall : (H : Type) → List (DataW H) → Bool := fun _ ds => decide (uptoBulkAll ds ≤ 1048576)
def OpenSpec.upto (s : _root_.Go.ChangeSpec) : _root_.Go.OpenSpec := { _root_.Go.OpenSpec.ofChange s with cond := some uptoSmall }

/-- 'laws.FnExactChanceOfFinal', WHERE WHAT IT READS IS OF BULK AT MOST 1048576: true; the input reads as it did. -/
def fnExactChanceOfFinalUptoRow : OpenClaim := { program := "ytihifglmnjocfaadoor", sum := "3efe4bc2ab3e265ba2fe4813ae6648c2d12d585ba3a8137607810c71cc51a79c", func := "loop.example/g01167/laws.FnExactChanceOfFinal", spec := "fnExactChanceOfFinal", unfollowed := true, recurses := true, named := ["math/bits.deBruijn32tab"], apart := false, laid := [("math/bits.deBruijn32tab", laid_math_bits_deBruijn32tab)], narrowed := true }
def FnExactChanceOfFinalUptoSaid : Prop := fnExactChanceOfFinalUptoRow.holds Tryd.pinned (OpenSpec.upto fnExactChanceOfFinalSpec)

/-- 'laws.FnExactFinalRows', WHERE WHAT IT READS IS OF BULK AT MOST 1048576: true; the input reads as it did. -/
def fnExactFinalRowsUptoRow : OpenClaim := { program := "ytihifglmnjocfaadoor", sum := "3efe4bc2ab3e265ba2fe4813ae6648c2d12d585ba3a8137607810c71cc51a79c", func := "loop.example/g01167/laws.FnExactFinalRows", spec := "fnExactFinalRows", unfollowed := true, recurses := true, named := ["math/bits.deBruijn32tab"], apart := false, laid := [("math/bits.deBruijn32tab", laid_math_bits_deBruijn32tab)], narrowed := true }
def FnExactFinalRowsUptoSaid : Prop := fnExactFinalRowsUptoRow.holds Tryd.pinned (OpenSpec.upto fnExactFinalRowsSpec)

/-- 'laws.FnExactIsFinal', WHERE WHAT IT READS IS OF BULK AT MOST 1048576: true; the input reads as it did. -/
def fnExactIsFinalUptoRow : OpenClaim := { program := "ytihifglmnjocfaadoor", sum := "3efe4bc2ab3e265ba2fe4813ae6648c2d12d585ba3a8137607810c71cc51a79c", func := "loop.example/g01167/laws.FnExactIsFinal", spec := "fnExactIsFinal", unfollowed := true, recurses := true, named := ["math/bits.deBruijn32tab"], apart := false, laid := [("math/bits.deBruijn32tab", laid_math_bits_deBruijn32tab)], narrowed := true }
def FnExactIsFinalUptoSaid : Prop := fnExactIsFinalUptoRow.holds Tryd.pinned (OpenSpec.upto fnExactIsFinalSpec)

/-- 'laws.FnExactSeatChance', WHERE WHAT IT READS IS OF BULK AT MOST 1048576: true; the input reads as it did. -/
def fnExactSeatChanceUptoRow : OpenClaim := { program := "ytihifglmnjocfaadoor", sum := "3efe4bc2ab3e265ba2fe4813ae6648c2d12d585ba3a8137607810c71cc51a79c", func := "loop.example/g01167/laws.FnExactSeatChance", spec := "fnExactSeatChance", unfollowed := true, recurses := true, named := ["math/bits.deBruijn32tab"], apart := false, laid := [("math/bits.deBruijn32tab", laid_math_bits_deBruijn32tab)], narrowed := true }
def FnExactSeatChanceUptoSaid : Prop := fnExactSeatChanceUptoRow.holds Tryd.pinned (OpenSpec.upto fnExactSeatChanceSpec)

end Rows
end Go.Proofs.YtihifglmnjocfaaDoor
