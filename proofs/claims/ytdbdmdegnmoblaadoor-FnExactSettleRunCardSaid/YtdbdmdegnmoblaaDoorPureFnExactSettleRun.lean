/- The law laws.FnExactSettleRun, told as plain Lean functions of numbers, lists and strings, answers true for every input, if enough rounds are given: the program's SettleRun answers what the reference's answers. Conditions: none but the kinds' own (each number one of its kind, each length one that the model reads). -/
import Derived.Test.YtdbdmdegnmoblaaDoorPFnExactSettleRunx2
namespace Go.Proofs.YtdbdmdegnmoblaaDoor.Pure
open Go.RowKit Go.Proofs.YtdbdmdegnmoblaaDoor.PFnExactSettleRun Go.Proofs.YtdbdmdegnmoblaaDoorW.PrintWords Go.Proofs.YtdbdmdegnmoblaaDoorW.PrintLast

theorem box2 : ∀ n : Nat, n < 25 → ∀ k : Nat, k < 3 → laws_FnExactSettleRun.f 400 (n : Int) (k : Int) = some true := by decide +kernel

theorem in_spec (a lo hi : Int) : spec_l1In.f a lo hi = some (decide (lo ≤ a ∧ a ≤ hi)) := by
  unfold spec_l1In.f
  split
  · congr 1; simp; omega
  · congr 1; simp; omega

theorem in_impl (a lo hi : Int) : impl_within.f a lo hi = some (decide (lo ≤ a ∧ a ≤ hi)) := by
  unfold impl_within.f
  split
  · congr 1; simp; omega
  · congr 1; simp; omega

theorem FnExactSettleRun : laws_FnExactSettleRun.Pure := by
  intro a0 a1 _ _
  by_cases h : 0 ≤ a0 ∧ a0 ≤ 24
  · by_cases h2 : 0 ≤ a1 ∧ a1 ≤ 2
    · obtain ⟨n, rfl⟩ : ∃ n : Nat, a0 = n := ⟨a0.toNat, by omega⟩
      obtain ⟨k, rfl⟩ : ∃ n : Nat, a1 = n := ⟨a1.toNat, by omega⟩
      exact ⟨400, box2 n (by omega) k (by omega)⟩
    · exact ⟨2, by simp [laws_FnExactSettleRun.f, spec_SettleRun.f, impl_SettleRun.f, impl_SettleRun.j0, in_spec, in_impl, h, h2]⟩
  · exact ⟨2, by simp [laws_FnExactSettleRun.f, spec_SettleRun.f, impl_SettleRun.f, impl_SettleRun.j0, in_spec, in_impl, h]⟩

end Go.Proofs.YtdbdmdegnmoblaaDoor.Pure
