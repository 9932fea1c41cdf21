/- The law laws.FnExactOwnChance, told as plain Lean functions of numbers, lists and strings, answers true for every input, if enough rounds are given: the program's OwnChance answers what the reference's answers. Conditions: none but the kinds' own (each number one of its kind, each length one that the model reads). -/
import Derived.Test.YtcepccbffochiaaPFnExactOwnChancex2
namespace Go.Proofs.Ytcepccbffochiaa.Pure
open Go.RowKit Go.Proofs.Ytcepccbffochiaa.PFnExactOwnChance Go.Proofs.YtcepccbffochiaaW.PrintWords Go.Proofs.YtcepccbffochiaaW.PrintLast

theorem box3 : ∀ n : Nat, n < 13 → ∀ k : Nat, k < 13 → ∀ i : Nat, i < 13 → laws_FnExactOwnChance.f 40 (n : Int) (k : Int) (i : Int) = some true := by decide +kernel

theorem in_spec (a lo hi : Int) : spec_l1In.f a lo hi = some (decide (lo ≤ a ∧ a ≤ hi)) := by
  unfold spec_l1In.f
  split
  · congr 1; simp; omega
  · congr 1; simp; omega

theorem in_impl (a lo hi : Int) : impl_within.f a lo hi = some (decide (lo ≤ a ∧ a ≤ hi)) := by
  unfold impl_within.f
  split
  · congr 1; simp; omega
  · congr 1; simp; omega

theorem good_off (a0 a1 : Int) (h : ¬ ((1 ≤ a0 ∧ a0 ≤ 12) ∧ (0 ≤ a1 ∧ a1 ≤ a0))) : spec_l5Good.f a0 a1 = some false ∧ impl_isPlane.f a0 a1 = some false := by
  constructor
  · unfold spec_l5Good.f
    simp only [in_spec, Option.bind_some]
    by_cases h1 : 1 ≤ a0 ∧ a0 ≤ 12
    · rw [if_pos (by simpa using h1), decide_eq_false (by omega)]
    · rw [if_neg (by simpa using h1)]
  · unfold impl_isPlane.f
    simp only [in_impl, Option.bind_some]
    by_cases h1 : 1 ≤ a0 ∧ a0 ≤ 12
    · rw [if_pos (by simpa using h1), decide_eq_false (by omega)]
    · rw [if_neg (by simpa using h1)]

theorem FnExactOwnChance : laws_FnExactOwnChance.Pure := by
  intro a0 a1 a2 w0 _ _
  by_cases h : (1 ≤ a0 ∧ a0 ≤ 12) ∧ (0 ≤ a1 ∧ a1 ≤ a0)
  · by_cases h2 : 0 ≤ a2 ∧ a2 ≤ a0 - 1
    · obtain ⟨n, rfl⟩ : ∃ n : Nat, a0 = n := ⟨a0.toNat, by omega⟩
      obtain ⟨k, rfl⟩ : ∃ n : Nat, a1 = n := ⟨a1.toNat, by omega⟩
      obtain ⟨i, rfl⟩ : ∃ n : Nat, a2 = n := ⟨a2.toNat, by omega⟩
      exact ⟨40, box3 n (by omega) k (by omega) i (by omega)⟩
    · refine ⟨10, ?_⟩
      have ew : wrap64 (a0 - 1) = a0 - 1 := by unfold wrap64; omega
      have e1 : spec_l5Good.f a0 a1 = some true := by
        unfold spec_l5Good.f
        simp only [in_spec, Option.bind_some, decide_eq_true h.1, decide_eq_true h.2, if_true]
      have e2 : impl_isPlane.f a0 a1 = some true := by
        unfold impl_isPlane.f
        simp only [in_impl, Option.bind_some, decide_eq_true h.1, decide_eq_true h.2, if_true]
      unfold laws_FnExactOwnChance.f spec_OwnChance.f impl_OwnChance.f
      rw [e1, e2]
      have e3 : laws_eqIntA2.f 10 0 0 0 0 = some true := by decide +kernel
      simp [in_spec, in_impl, ew, h2, e3]
  · refine ⟨10, ?_⟩
    unfold laws_FnExactOwnChance.f spec_OwnChance.f impl_OwnChance.f
    rw [(good_off a0 a1 h).1, (good_off a0 a1 h).2]
    have e3 : laws_eqIntA2.f 10 0 0 0 0 = some true := by decide +kernel
    simp [e3]

end Go.Proofs.Ytcepccbffochiaa.Pure
