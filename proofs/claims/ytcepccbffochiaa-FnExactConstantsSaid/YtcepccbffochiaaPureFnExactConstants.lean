/- The law laws.FnExactConstants, told as plain Lean functions of numbers, lists and strings, answers true for every input, if enough rounds are given: the program's Constants answers what the reference's answers. Conditions: none but the kinds' own (each number one of its kind, each length one that the model reads). -/
import Derived.Test.YtcepccbffochiaaPFnExactConstantsx1
namespace Go.Proofs.Ytcepccbffochiaa.Pure
open Go.RowKit Go.Proofs.Ytcepccbffochiaa.PFnExactConstants Go.Proofs.YtcepccbffochiaaW.PrintWords Go.Proofs.YtcepccbffochiaaW.PrintLast

theorem FnExactConstants : laws_FnExactConstants.Pure := rfl

end Go.Proofs.Ytcepccbffochiaa.Pure
