/- The law laws.FnExactCountParking, told as plain Lean functions of numbers, lists and strings, answers true for every input, if enough rounds are given: the program's CountParking answers what the reference's answers. Conditions: none but the kinds' own (each number one of its kind, each length one that the model reads). -/
import Derived.Test.YtcepccbffochiaaPFnExactCountParkingx1
namespace Go.Proofs.Ytcepccbffochiaa.Pure
open Go.RowKit Go.Proofs.Ytcepccbffochiaa.PFnExactCountParking Go.Proofs.YtcepccbffochiaaW.PrintWords Go.Proofs.YtcepccbffochiaaW.PrintLast

theorem box1 : ∀ n : Nat, n < 13 → laws_FnExactCountParking.f 40 (n : Int) = some true := by decide +kernel

theorem off_spec (a0 : Int) (h : ¬ (1 ≤ a0 ∧ a0 ≤ 12)) : spec_l1In.f a0 1 12 = some false := by
  unfold spec_l1In.f
  split
  · rw [decide_eq_false (by omega)]
  · rfl

theorem off_impl (a0 : Int) (h : ¬ (1 ≤ a0 ∧ a0 ≤ 12)) : impl_within.f a0 1 12 = some false := by
  unfold impl_within.f
  split
  · rw [decide_eq_false (by omega)]
  · rfl

theorem FnExactCountParking : laws_FnExactCountParking.Pure := by
  intro a0 _
  by_cases h : 1 ≤ a0 ∧ a0 ≤ 12
  · obtain ⟨n, rfl⟩ : ∃ n : Nat, a0 = n := ⟨a0.toNat, by omega⟩
    exact ⟨40, box1 n (by omega)⟩
  · refine ⟨1, ?_⟩
    unfold laws_FnExactCountParking.f spec_CountParking.f impl_CountParking.f impl_isCars.f
    rw [off_spec a0 h, off_impl a0 h]
    rfl

end Go.Proofs.Ytcepccbffochiaa.Pure
