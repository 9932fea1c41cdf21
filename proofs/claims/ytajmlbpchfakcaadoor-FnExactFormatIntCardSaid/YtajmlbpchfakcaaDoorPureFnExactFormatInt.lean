/- The law laws.FnExactFormatInt, told as plain Lean functions of numbers, lists and strings, answers true for every input, if enough rounds are given: the program's FormatInt answers what the reference's answers. Conditions: none but the kinds' own (each number one of its kind, each length one that the model reads). -/
import Derived.Test.YtajmlbpchfakcaaDoorPFnExactFormatIntx1
import Derived.Test.YtajmlbpchfakcaaDoorBase
import Derived.Lib.ItoaNum
namespace Go.Proofs.YtajmlbpchfakcaaDoor.Pure
open Go.RowKit Go.Proofs.YtajmlbpchfakcaaDoor.PFnExactFormatInt Go.Proofs.YtajmlbpchfakcaaDoorW.PrintWords Go.Proofs.YtajmlbpchfakcaaDoorW.PrintLast Go.Proofs.YtajmlbpchfakcaaDoorW.PrintMore Go.Proofs.YtajmlbpchfakcaaDoor.Base

theorem bt_list (x : ByteArray) (j : Nat) : bt x (j : Int) = ((x.data.toList.getD j 0).toNat : Int) := by
  unfold bt
  simp only [Int.toNat_natCast]
  by_cases h : j < x.size
  · have h' : j < x.data.toList.length := by simpa using h
    rw [dif_pos h, List.getD, List.getElem?_eq_getElem h']
    rfl
  · have h' : x.data.toList.length ≤ j := by
      have : x.data.toList.length = x.size := by simp
      omega
    rw [dif_neg h, List.getD, List.getElem?_eq_none h']
    rfl
theorem size_list (x : ByteArray) : x.data.toList.length = x.size := by simp
theorem bytes_same {a b : ByteArray} (h : a.data.toList = b.data.toList) : a = b := by
  cases a with
  | mk a => cases b with
    | mk b => simpa using h
theorem in_spec (a lo hi : Int) : spec_l1In.f a lo hi = some (decide (lo ≤ a ∧ a ≤ hi)) := by
  unfold spec_l1In.f
  split
  · congr 1; simp; omega
  · congr 1; simp; omega
theorem dig_one : ∀ d : Fin 10, (⟨#[48, 49, 50, 51, 52, 53, 54, 55, 56, 57]⟩ : ByteArray).extract d.val (d.val + 1) = (⟨#[UInt8.ofNat (48 + d.val)]⟩ : ByteArray) := by decide
theorem dig_at {d : Nat} (h : d < 10) : (⟨#[48, 49, 50, 51, 52, 53, 54, 55, 56, 57]⟩ : ByteArray).extract (d : Int).toNat ((d : Int) + 1).toNat = (⟨#[UInt8.ofNat (48 + d)]⟩ : ByteArray) := by
  rw [Int.toNat_natCast, show ((d : Int) + 1).toNat = d + 1 by omega]
  exact dig_one ⟨d, h⟩
theorem l1Num_nat : ∀ u : Nat, u ≤ 9999999 → Ev (fun k => spec_l1Num.f k (u : Int)) (⟨(Lib.decDigits u).toArray⟩ : ByteArray) ∧ (Lib.decDigits u).length ≤ u + 1 := by
  intro u
  induction u using Nat.strongRecOn with
  | ind u ih =>
    intro hu
    by_cases c : u < 10
    · rw [Lib.decDigits_one c]
      refine ⟨?_, by simp⟩
      apply evshift
      simp only [spec_l1Num.f]
      rw [w64 (x := (u : Int) + 1) (by omega) (by omega), dig_at c]
      exact evn (by omega) (evp (by omega) (evp (by omega) (evp (by omega) (evp (by omega) (evs _)))))
    · obtain ⟨h1, h2⟩ := ih (u / 10) (by omega) (by omega)
      have e : Lib.decDigits u = Lib.decDigits (u / 10) ++ [UInt8.ofNat (48 + u % 10)] := by
        rw [Lib.decDigits, dif_neg c]
      have hd : Int.tdiv (u : Int) 10 = ((u / 10 : Nat) : Int) := (Int.ofNat_tdiv u 10).symm
      have hm : Int.tmod (u : Int) 10 = ((u % 10 : Nat) : Int) := (Int.ofNat_tmod u 10).symm
      refine ⟨?_, by rw [e, List.length_append, List.length_singleton]; omega⟩
      have hs : (⟨(Lib.decDigits (u / 10)).toArray⟩ : ByteArray).size = (Lib.decDigits (u / 10)).length := by
        rw [← size_list]
      apply evshift
      simp only [spec_l1Num.f]
      rw [hd, hm, w64 (x := ((u / 10 : Nat) : Int)) (by omega) (by omega), w64 (x := ((u % 10 : Nat) : Int) + 1) (by omega) (by omega), dig_at (by omega)]
      refine evn (by omega) (evn (by omega) (evb h1 (evp (by omega) (evp (by omega) (evp (by omega) (evp ?_ ?_))))))
      · rw [hs]
        show _ + 1 ≤ _
        omega
      · refine eve (evs _) (bytes_same ?_)
        rw [ByteArray.data_append, Array.toList_append, e]
theorem ev_l1Num (n : Int) (h : -9999999 ≤ n) (h' : n ≤ 9999999) : Ev (fun k => spec_l1Num.f k n) (⟨(Lib.itoa n).toArray⟩ : ByteArray) := by
  by_cases c : n < 0
  · obtain ⟨h1, h2⟩ := l1Num_nat n.natAbs (by omega)
    have hs : (⟨(Lib.decDigits n.natAbs).toArray⟩ : ByteArray).size = (Lib.decDigits n.natAbs).length := by
      rw [← size_list]
    apply evshift
    simp only [spec_l1Num.f]
    rw [w64 (x := -n) (by omega) (by omega), show -n = (n.natAbs : Int) by omega]
    refine evp c (evb h1 (evp (by omega) (eve (evs _) (bytes_same ?_))))
    rw [ByteArray.data_append, Array.toList_append]
    unfold Lib.itoa
    rw [if_pos c]
    rfl
  · obtain ⟨m, rfl⟩ : ∃ m : Nat, n = m := ⟨n.toNat, by omega⟩
    have e : Lib.itoa (m : Int) = Lib.decDigits m := by
      unfold Lib.itoa
      rw [if_neg c, Int.toNat_natCast]
    rw [e]
    exact (l1Num_nat m (by omega)).1
theorem in_impl (a lo hi : Int) : impl_within.f a lo hi = some (decide (lo ≤ a ∧ a ≤ hi)) := by
  unfold impl_within.f
  split
  · congr 1; simp; omega
  · congr 1; simp; omega
theorem bothFormatInt (n : Int) : ∃ r ok, Ev (fun k => spec_FormatInt.f k n) (r, ok) ∧ impl_FormatInt.f n = some (r, ok) := by
  unfold spec_FormatInt.f impl_FormatInt.f
  by_cases c : -999999 ≤ n ∧ n ≤ 999999
  · refine ⟨(⟨(Lib.itoa n).toArray⟩ : ByteArray), true, evc (in_spec _ _ _) (evp (by simpa using c) (evb (ev_l1Num n (by omega) (by omega)) (evs _))), ?_⟩
    rw [in_impl, decide_eq_true c]
    unfold strconv_Itoa.f
    rw [if_pos (show -9223372036854775808 ≤ n ∧ n ≤ 9223372036854775807 by omega)]
    rfl
  · refine ⟨_, false, evc (in_spec _ _ _) (evn (by simpa using c) (evs _)), ?_⟩
    rw [in_impl, decide_eq_false c]
    rfl
theorem FnExactFormatInt : laws_FnExactFormatInt.Pure := by
  intro n _
  refine Ev.rounds (g := fun k => laws_FnExactFormatInt.f k n) ?_
  unfold laws_FnExactFormatInt.f
  obtain ⟨r, ok, hS, hI⟩ := bothFormatInt n
  exact evb hS (evc hI (evp rfl (evn (by simp) (evs _))))

end Go.Proofs.YtajmlbpchfakcaaDoor.Pure
