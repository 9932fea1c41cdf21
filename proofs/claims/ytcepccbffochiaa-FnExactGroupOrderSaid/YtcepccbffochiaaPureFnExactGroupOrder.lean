/- The law laws.FnExactGroupOrder, told as plain Lean functions of numbers, lists and strings, answers true for every input, if enough rounds are given: the program's GroupOrder answers what the reference's answers. Conditions: none but the kinds' own (each number one of its kind, each length one that the model reads). -/
import Derived.Test.YtcepccbffochiaaPFnExactGroupOrderx2
namespace Go.Proofs.Ytcepccbffochiaa.Pure
open Go.RowKit Go.Proofs.Ytcepccbffochiaa.PFnExactGroupOrder Go.Proofs.YtcepccbffochiaaW.PrintWords Go.Proofs.YtcepccbffochiaaW.PrintLast

theorem box2 : ∀ n : Nat, n < 11 → ∀ g : Nat, g < 11 → laws_FnExactGroupOrder.f 60 (n : Int) (g : Int) = some true := by decide +kernel

theorem in_spec (a lo hi : Int) : spec_l1In.f a lo hi = some (decide (lo ≤ a ∧ a ≤ hi)) := by
  unfold spec_l1In.f
  split
  · congr 1; simp; omega
  · congr 1; simp; omega

theorem in_impl (a lo hi : Int) : impl_within.f a lo hi = some (decide (lo ≤ a ∧ a ≤ hi)) := by
  unfold impl_within.f
  split
  · congr 1; simp; omega
  · congr 1; simp; omega

theorem spec_off (a0 a1 : Int) (k : Nat) (h : ¬ ((1 ≤ a0 ∧ a0 ≤ 10) ∧ (1 ≤ a1 ∧ a1 ≤ a0))) : spec_GroupOrder.f (k + 1) a0 a1 = some ([], false) := by
  unfold spec_GroupOrder.f
  simp only [in_spec, Option.bind_some]
  by_cases h1 : 1 ≤ a0 ∧ a0 ≤ 10
  · rw [if_pos (by simpa using h1), decide_eq_false (by omega)]
    rfl
  · rw [if_neg (by simpa using h1)]
    rfl

theorem impl_off (a0 a1 : Int) (k : Nat) (h : ¬ ((1 ≤ a0 ∧ a0 ≤ 10) ∧ (1 ≤ a1 ∧ a1 ≤ a0))) : impl_GroupOrder.f (k + 1) a0 a1 = some ([], false) := by
  unfold impl_GroupOrder.f impl_isPlaneRows.f
  simp only [in_impl, Option.bind_some]
  by_cases h1 : 1 ≤ a0 ∧ a0 ≤ 10
  · rw [if_pos (by simpa using h1), decide_eq_false (by omega)]
    rfl
  · rw [if_neg (by simpa using h1)]
    rfl

theorem FnExactGroupOrder : laws_FnExactGroupOrder.Pure := by
  intro a0 a1 _ _
  by_cases h : (1 ≤ a0 ∧ a0 ≤ 10) ∧ (1 ≤ a1 ∧ a1 ≤ a0)
  · obtain ⟨n, rfl⟩ : ∃ n : Nat, a0 = n := ⟨a0.toNat, by omega⟩
    obtain ⟨k, rfl⟩ : ∃ n : Nat, a1 = n := ⟨a1.toNat, by omega⟩
    exact ⟨60, box2 n (by omega) k (by omega)⟩
  · refine ⟨10, ?_⟩
    unfold laws_FnExactGroupOrder.f
    rw [spec_off a0 a1 9 h, impl_off a0 a1 9 h]
    simp only [Option.bind_some]
    have f1 : laws_eqIntS.f 10 [] [] = some true := by decide +kernel
    have f2 : laws_markIntS.f 9 [] 1 = some (1, []) := by decide +kernel
    have f3 : laws_heldIntS.f 9 [] 1 = some 1 := by decide +kernel
    have f4 : laws_eqIntS.f 9 [] [] = some true := by decide +kernel
    have f5 : laws_heldIntS.f 8 [] 1 = some 1 := by decide +kernel
    simp [f1, laws_FnExactGroupOrder.j0, laws_FnExactGroupOrder.j1, f2, f3, impl_off a0 a1 8 h, f4, f5]

end Go.Proofs.Ytcepccbffochiaa.Pure
