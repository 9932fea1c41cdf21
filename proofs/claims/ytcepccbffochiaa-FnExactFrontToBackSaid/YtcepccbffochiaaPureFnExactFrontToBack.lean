/- The law laws.FnExactFrontToBack, told as plain Lean functions of numbers, lists and strings, answers true for every input, if enough rounds are given: the program's FrontToBack answers what the reference's answers. Conditions: none but the kinds' own (each number one of its kind, each length one that the model reads). -/
import Derived.Test.YtcepccbffochiaaPFnExactFrontToBackx2
namespace Go.Proofs.Ytcepccbffochiaa.Pure
open Go.RowKit Go.Proofs.Ytcepccbffochiaa.PFnExactFrontToBack Go.Proofs.YtcepccbffochiaaW.PrintWords Go.Proofs.YtcepccbffochiaaW.PrintLast

theorem box1 : ∀ n : Nat, n < 11 → laws_FnExactFrontToBack.f 60 (n : Int) = some true := by decide +kernel

theorem in_spec (a lo hi : Int) : spec_l1In.f a lo hi = some (decide (lo ≤ a ∧ a ≤ hi)) := by
  unfold spec_l1In.f
  split
  · congr 1; simp; omega
  · congr 1; simp; omega

theorem in_impl (a lo hi : Int) : impl_within.f a lo hi = some (decide (lo ≤ a ∧ a ≤ hi)) := by
  unfold impl_within.f
  split
  · congr 1; simp; omega
  · congr 1; simp; omega

theorem FnExactFrontToBack : laws_FnExactFrontToBack.Pure := by
  intro a0 _
  by_cases h : 1 ≤ a0 ∧ a0 ≤ 10
  · obtain ⟨n, rfl⟩ : ∃ n : Nat, a0 = n := ⟨a0.toNat, by omega⟩
    exact ⟨60, box1 n (by omega)⟩
  · refine ⟨10, ?_⟩
    have e1 : spec_FrontToBack.f 10 a0 = some ([], false) := by
      unfold spec_FrontToBack.f
      simp only [in_spec, Option.bind_some, decide_eq_false h]
      rfl
    have e2 : ∀ k, impl_FrontToBack.f (k + 1) a0 = some ([], false) := fun k => by
      unfold impl_FrontToBack.f impl_GroupOrder.f impl_isPlaneRows.f
      simp only [in_impl, Option.bind_some, decide_eq_false h]
      rfl
    unfold laws_FnExactFrontToBack.f
    rw [e1, e2 9]
    simp only [Option.bind_some]
    have f1 : laws_eqIntS.f 10 [] [] = some true := by decide +kernel
    have f2 : laws_markIntS.f 9 [] 1 = some (1, []) := by decide +kernel
    have f3 : laws_heldIntS.f 9 [] 1 = some 1 := by decide +kernel
    have f4 : laws_eqIntS.f 9 [] [] = some true := by decide +kernel
    have f5 : laws_heldIntS.f 8 [] 1 = some 1 := by decide +kernel
    simp [f1, laws_FnExactFrontToBack.j0, laws_FnExactFrontToBack.j1, f2, f3, e2 8, f4, f5]

end Go.Proofs.Ytcepccbffochiaa.Pure
