/- The law laws.FnExactLuckyCounts, told as plain Lean functions of numbers, lists and strings, answers true for every input, if enough rounds are given: the program's LuckyCounts answers what the reference's answers. Conditions: none but the kinds' own (each number one of its kind, each length one that the model reads). -/
import Derived.Test.YtcepccbffochiaaPFnExactLuckyCountsx2
namespace Go.Proofs.Ytcepccbffochiaa.Pure
open Go.RowKit Go.Proofs.Ytcepccbffochiaa.PFnExactLuckyCounts Go.Proofs.YtcepccbffochiaaW.PrintWords Go.Proofs.YtcepccbffochiaaW.PrintLast

theorem box1 : ∀ n : Nat, n < 13 → laws_FnExactLuckyCounts.f 250 (n : Int) = some true := by decide +kernel

theorem in_spec (a lo hi : Int) : spec_l1In.f a lo hi = some (decide (lo ≤ a ∧ a ≤ hi)) := by
  unfold spec_l1In.f
  split
  · congr 1; simp; omega
  · congr 1; simp; omega

theorem in_impl (a lo hi : Int) : impl_within.f a lo hi = some (decide (lo ≤ a ∧ a ≤ hi)) := by
  unfold impl_within.f
  split
  · congr 1; simp; omega
  · congr 1; simp; omega

theorem spec_off (a0 : Int) (k : Nat) (h : ¬ (1 ≤ a0 ∧ a0 ≤ 12)) : spec_LuckyCounts.f k a0 = some ([], false) := by
  unfold spec_LuckyCounts.f
  simp only [in_spec, Option.bind_some, decide_eq_false h]
  rfl

theorem impl_off (a0 : Int) (k : Nat) (h : ¬ (1 ≤ a0 ∧ a0 ≤ 12)) : impl_LuckyCounts.f k a0 = some ([], false) := by
  unfold impl_LuckyCounts.f impl_isCars.f
  simp only [in_impl, Option.bind_some, decide_eq_false h]
  rfl

theorem FnExactLuckyCounts : laws_FnExactLuckyCounts.Pure := by
  intro a0 _
  by_cases h : 1 ≤ a0 ∧ a0 ≤ 12
  · obtain ⟨n, rfl⟩ : ∃ n : Nat, a0 = n := ⟨a0.toNat, by omega⟩
    exact ⟨250, box1 n (by omega)⟩
  · refine ⟨10, ?_⟩
    unfold laws_FnExactLuckyCounts.f
    rw [spec_off a0 10 h, impl_off a0 10 h]
    simp only [Option.bind_some]
    have f1 : laws_eqIntS.f 10 [] [] = some true := by decide +kernel
    have f2 : laws_markIntS.f 9 [] 1 = some (1, []) := by decide +kernel
    have f3 : laws_heldIntS.f 9 [] 1 = some 1 := by decide +kernel
    have f4 : laws_eqIntS.f 9 [] [] = some true := by decide +kernel
    have f5 : laws_heldIntS.f 8 [] 1 = some 1 := by decide +kernel
    simp [f1, laws_FnExactLuckyCounts.j0, laws_FnExactLuckyCounts.j1, f2, f3, impl_off a0 9 h, f4, f5]

end Go.Proofs.Ytcepccbffochiaa.Pure
