/- The law laws.FnExactChecksum, told as plain Lean functions of numbers, lists and strings, answers true for every input, if enough rounds are given: the program's Checksum answers what the reference's answers. Conditions: none but the kinds' own (each number one of its kind, each length one that the model reads). -/
import Derived.Test.YtcepccbffochiaaPFnExactChecksumx1
namespace Go.Proofs.Ytcepccbffochiaa.Pure
open Go.RowKit Go.Proofs.Ytcepccbffochiaa.PFnExactChecksum Go.Proofs.YtcepccbffochiaaW.PrintWords Go.Proofs.YtcepccbffochiaaW.PrintLast

theorem wrap_next {i : Int} {n : Nat} (h0 : 0 ≤ i) (h : i < (n : Int)) (hn : n ≤ 4000) : wrap64 (i + 1) = i + 1 := by
  unfold wrap64
  omega

theorem loops (s : ByteArray) (hn : s.size ≤ 4000) (d : Nat) : ∀ (k : Nat) (h i : Int), 0 ≤ i → i ≤ s.size → (s.size : Int) - i = d → d < k →
    ∃ r, spec_l1Sum.l0 k s h i = some r ∧ impl_checksum.l0 k s h (s.size : Int) i = some r := by
  induction d with
  | zero =>
    intro k h i h0 h1 hd hk
    obtain ⟨k, rfl⟩ : ∃ m, k = m + 1 := ⟨k - 1, by omega⟩
    refine ⟨h, ?_, ?_⟩
    · simp only [spec_l1Sum.l0]; rw [if_neg (by omega)]
    · simp only [impl_checksum.l0]; rw [if_neg (by omega)]
  | succ d ih =>
    intro k h i h0 h1 hd hk
    obtain ⟨k, rfl⟩ : ∃ m, k = m + 1 := ⟨k - 1, by omega⟩
    have hlt : i < (s.size : Int) := by omega
    obtain ⟨r, e1, e2⟩ := ih k (Int.tmod (wrap64 ((wrap64 ((wrap64 (41 * h)) + (wrap64 (bt s i)))) + 1)) 999979) (i + 1) (by omega) (by omega) (by omega) (by omega)
    refine ⟨r, ?_, ?_⟩
    · simp only [spec_l1Sum.l0]; rw [if_pos hlt, if_pos h0, wrap_next h0 hlt hn]; exact e1
    · simp only [impl_checksum.l0]; rw [if_pos hlt, if_pos h0, if_pos hlt, wrap_next h0 hlt hn]; exact e2

theorem FnExactChecksum : laws_FnExactChecksum.Pure := by
  intro s _
  by_cases hs : s.size ≤ 4000
  · obtain ⟨r, e1, e2⟩ := loops s hs s.size (s.size + 1) 7 0 (by omega) (by omega) (by omega) (by omega)
    refine ⟨s.size + 1, ?_⟩
    unfold laws_FnExactChecksum.f spec_Checksum.f impl_Checksum.f spec_l1Sum.f impl_checksum.f
    rw [if_neg (by omega), if_neg (by omega), if_neg (by omega), e1, e2]
    simp
  · refine ⟨0, ?_⟩
    unfold laws_FnExactChecksum.f spec_Checksum.f impl_Checksum.f
    split
    · rfl
    · rw [if_pos (by omega), if_pos (by omega)]
      rfl

end Go.Proofs.Ytcepccbffochiaa.Pure
