/- The law laws.FnExactLastSeats, told as plain Lean functions of numbers, lists and strings, answers true for every input, if enough rounds are given: the program's LastSeats answers what the reference's answers. Conditions: none but the kinds' own (each number one of its kind, each length one that the model reads). -/
import Derived.Test.YtcepccbffochiaaPFnExactLastSeatsx3
namespace Go.Proofs.Ytcepccbffochiaa.Pure
open Go.RowKit Go.Proofs.Ytcepccbffochiaa.PFnExactLastSeats Go.Proofs.YtcepccbffochiaaW.PrintWords Go.Proofs.YtcepccbffochiaaW.PrintLast

theorem box2 : ∀ n : Nat, n < 13 → ∀ k : Nat, k < 13 → laws_FnExactLastSeats.f 80 (n : Int) (k : Int) = some true := by decide +kernel

theorem in_spec (a lo hi : Int) : spec_l1In.f a lo hi = some (decide (lo ≤ a ∧ a ≤ hi)) := by
  unfold spec_l1In.f
  split
  · congr 1; simp; omega
  · congr 1; simp; omega

theorem in_impl (a lo hi : Int) : impl_within.f a lo hi = some (decide (lo ≤ a ∧ a ≤ hi)) := by
  unfold impl_within.f
  split
  · congr 1; simp; omega
  · congr 1; simp; omega

theorem good_off (a0 a1 : Int) (h : ¬ ((1 ≤ a0 ∧ a0 ≤ 12) ∧ (0 ≤ a1 ∧ a1 ≤ a0))) : spec_l5Good.f a0 a1 = some false ∧ impl_isPlane.f a0 a1 = some false := by
  constructor
  · unfold spec_l5Good.f
    simp only [in_spec, Option.bind_some]
    by_cases h1 : 1 ≤ a0 ∧ a0 ≤ 12
    · rw [if_pos (by simpa using h1), decide_eq_false (by omega)]
    · rw [if_neg (by simpa using h1)]
  · unfold impl_isPlane.f
    simp only [in_impl, Option.bind_some]
    by_cases h1 : 1 ≤ a0 ∧ a0 ≤ 12
    · rw [if_pos (by simpa using h1), decide_eq_false (by omega)]
    · rw [if_neg (by simpa using h1)]

theorem FnExactLastSeats : laws_FnExactLastSeats.Pure := by
  intro a0 a1 _ _
  by_cases h : (1 ≤ a0 ∧ a0 ≤ 12) ∧ (0 ≤ a1 ∧ a1 ≤ a0)
  · obtain ⟨n, rfl⟩ : ∃ n : Nat, a0 = n := ⟨a0.toNat, by omega⟩
    obtain ⟨k, rfl⟩ : ∃ n : Nat, a1 = n := ⟨a1.toNat, by omega⟩
    exact ⟨80, box2 n (by omega) k (by omega)⟩
  · refine ⟨10, ?_⟩
    have e1 : ∀ k, spec_LastSeats.f k a0 a1 = some ([], false) := fun k => by
      unfold spec_LastSeats.f
      rw [(good_off a0 a1 h).1]
      rfl
    have e2 : ∀ k, impl_LastSeats.f k a0 a1 = some ([], false) := fun k => by
      unfold impl_LastSeats.f
      rw [(good_off a0 a1 h).2]
      rfl
    unfold laws_FnExactLastSeats.f
    rw [e1, e2]
    simp only [Option.bind_some]
    have f1 : laws_eqIntA2S.f 10 [] [] = some true := by decide +kernel
    have f2 : laws_markIntA2S.f 9 [] 1 = some (1, []) := by simp [laws_markIntA2S.f, laws_markIntA2S.l0]
    have f3 : laws_heldIntA2S.f 9 [] 1 = some 1 := by decide +kernel
    have f4 : laws_eqIntA2S.f 9 [] [] = some true := by decide +kernel
    have f5 : laws_heldIntA2S.f 8 [] 1 = some 1 := by decide +kernel
    simp [f1, laws_FnExactLastSeats.j0, laws_FnExactLastSeats.j1, f2, f3, e2, f4, f5]

end Go.Proofs.Ytcepccbffochiaa.Pure
