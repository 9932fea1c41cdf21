/- The law laws.FnExactLessString, told as plain Lean functions of numbers, lists and strings, answers true for every input, if enough rounds are given: the program's LessString answers what the reference's answers. Conditions: none but the kinds' own (each number one of its kind, each length one that the model reads). -/
import Derived.Test.YtcepccbffochiaaPFnExactLessStringx1
namespace Go.Proofs.Ytcepccbffochiaa.Pure
open Go.RowKit Go.Proofs.Ytcepccbffochiaa.PFnExactLessString Go.Proofs.YtcepccbffochiaaW.PrintWords Go.Proofs.YtcepccbffochiaaW.PrintLast

theorem FnExactLessString : laws_FnExactLessString.Pure := by
  intro a0 a1 _ _
  unfold laws_FnExactLessString.f spec_LessString.f impl_LessString.f
  split
  · rfl
  · split
    · rfl
    · simp

end Go.Proofs.Ytcepccbffochiaa.Pure
