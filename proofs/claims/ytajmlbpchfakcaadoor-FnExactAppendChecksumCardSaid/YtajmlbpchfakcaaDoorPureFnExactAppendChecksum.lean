/- The law laws.FnExactAppendChecksum, told as plain Lean functions of numbers, lists and strings, answers true for every input, if enough rounds are given: the program's AppendChecksum answers what the reference's answers. Conditions: none but the kinds' own (each number one of its kind, each length one that the model reads). -/
import Derived.Test.YtajmlbpchfakcaaDoorPFnExactAppendChecksumx2
import Derived.Test.YtajmlbpchfakcaaDoorBase
import Derived.Lib.ItoaNum
import Derived.Lib.IndexMore
namespace Go.Proofs.YtajmlbpchfakcaaDoor.Pure
open Go.RowKit Go.Proofs.YtajmlbpchfakcaaDoor.PFnExactAppendChecksum Go.Proofs.YtajmlbpchfakcaaDoorW.PrintWords Go.Proofs.YtajmlbpchfakcaaDoorW.PrintLast Go.Proofs.YtajmlbpchfakcaaDoorW.PrintMore Go.Proofs.YtajmlbpchfakcaaDoor.Base

theorem bt_list (x : ByteArray) (j : Nat) : bt x (j : Int) = ((x.data.toList.getD j 0).toNat : Int) := by
  unfold bt
  simp only [Int.toNat_natCast]
  by_cases h : j < x.size
  · have h' : j < x.data.toList.length := by simpa using h
    rw [dif_pos h, List.getD, List.getElem?_eq_getElem h']
    rfl
  · have h' : x.data.toList.length ≤ j := by
      have : x.data.toList.length = x.size := by simp
      omega
    rw [dif_neg h, List.getD, List.getElem?_eq_none h']
    rfl
theorem size_list (x : ByteArray) : x.data.toList.length = x.size := by simp
theorem bytes_same {a b : ByteArray} (h : a.data.toList = b.data.toList) : a = b := by
  cases a with
  | mk a => cases b with
    | mk b => simpa using h
/-- Is the byte in the text? -/
def hasB (u : UInt8) (x : ByteArray) : Bool := x.data.toList.any fun v => v == u
theorem any_nat (u : UInt8) (l : List UInt8) : (l.any fun v => decide ((v.toNat : Int) = (u.toNat : Int))) = l.any fun v => v == u := by
  induction l with
  | nil => rfl
  | cons v l ih =>
    rw [List.any_cons, List.any_cons, ih]
    congr 1
    rw [Bool.eq_iff_iff, decide_eq_true_eq, beq_iff_eq]
    constructor
    · intro h
      exact UInt8.toNat_inj.1 (by omega)
    · rintro rfl; rfl
theorem stands_loop (x : ByteArray) (u : UInt8) (hx : x.size ≤ 1048576) : ∀ d j, j + d = x.size → Ev (fun k => spec_l1Stands.l0 k x (u.toNat : Int) (j : Int)) ((x.data.toList.drop j).any fun v => decide ((v.toNat : Int) = (u.toNat : Int)))
  | 0, j, h => by
    rw [List.drop_eq_nil_of_le (by rw [size_list]; omega)]
    apply evshift
    simp only [spec_l1Stands.l0]
    exact evn (by omega) (evs _)
  | d + 1, j, h => by
    have ih := stands_loop x u hx d (j + 1) (by omega)
    have hj : j < x.data.toList.length := by rw [size_list]; omega
    rw [List.drop_eq_getElem_cons hj, List.any_cons]
    have e : bt x (j : Int) = ((x.data.toList[j]).toNat : Int) := by
      rw [bt_list, List.getD, List.getElem?_eq_getElem hj]
      rfl
    apply evshift
    simp only [spec_l1Stands.l0]
    rw [e, wnext j (by omega)]
    refine evp (by omega) (evp (by omega) ?_)
    by_cases c : ((x.data.toList[j]).toNat : Int) = (u.toNat : Int)
    · exact evp c (eve (evs _) (by rw [decide_eq_true c]; rfl))
    · exact evn c (eve ih (by rw [decide_eq_false c]; rfl))
theorem ev_stands (x : ByteArray) (u : UInt8) (hx : x.size ≤ 1048576) : Ev (fun k => spec_l1Stands.f k x (u.toNat : Int)) (hasB u x) := by
  unfold spec_l1Stands.f
  have h := stands_loop x u hx x.size 0 (by omega)
  rw [List.drop_zero, any_nat] at h
  exact h
theorem dig_one : ∀ d : Fin 10, (⟨#[48, 49, 50, 51, 52, 53, 54, 55, 56, 57]⟩ : ByteArray).extract d.val (d.val + 1) = (⟨#[UInt8.ofNat (48 + d.val)]⟩ : ByteArray) := by decide
theorem dig_at {d : Nat} (h : d < 10) : (⟨#[48, 49, 50, 51, 52, 53, 54, 55, 56, 57]⟩ : ByteArray).extract (d : Int).toNat ((d : Int) + 1).toNat = (⟨#[UInt8.ofNat (48 + d)]⟩ : ByteArray) := by
  rw [Int.toNat_natCast, show ((d : Int) + 1).toNat = d + 1 by omega]
  exact dig_one ⟨d, h⟩
theorem l1Num_nat : ∀ u : Nat, u ≤ 9999999 → Ev (fun k => spec_l1Num.f k (u : Int)) (⟨(Lib.decDigits u).toArray⟩ : ByteArray) ∧ (Lib.decDigits u).length ≤ u + 1 := by
  intro u
  induction u using Nat.strongRecOn with
  | ind u ih =>
    intro hu
    by_cases c : u < 10
    · rw [Lib.decDigits_one c]
      refine ⟨?_, by simp⟩
      apply evshift
      simp only [spec_l1Num.f]
      rw [w64 (x := (u : Int) + 1) (by omega) (by omega), dig_at c]
      exact evn (by omega) (evp (by omega) (evp (by omega) (evp (by omega) (evp (by omega) (evs _)))))
    · obtain ⟨h1, h2⟩ := ih (u / 10) (by omega) (by omega)
      have e : Lib.decDigits u = Lib.decDigits (u / 10) ++ [UInt8.ofNat (48 + u % 10)] := by
        rw [Lib.decDigits, dif_neg c]
      have hd : Int.tdiv (u : Int) 10 = ((u / 10 : Nat) : Int) := (Int.ofNat_tdiv u 10).symm
      have hm : Int.tmod (u : Int) 10 = ((u % 10 : Nat) : Int) := (Int.ofNat_tmod u 10).symm
      refine ⟨?_, by rw [e, List.length_append, List.length_singleton]; omega⟩
      have hs : (⟨(Lib.decDigits (u / 10)).toArray⟩ : ByteArray).size = (Lib.decDigits (u / 10)).length := by
        rw [← size_list]
      apply evshift
      simp only [spec_l1Num.f]
      rw [hd, hm, w64 (x := ((u / 10 : Nat) : Int)) (by omega) (by omega), w64 (x := ((u % 10 : Nat) : Int) + 1) (by omega) (by omega), dig_at (by omega)]
      refine evn (by omega) (evn (by omega) (evb h1 (evp (by omega) (evp (by omega) (evp (by omega) (evp ?_ ?_))))))
      · rw [hs]
        show _ + 1 ≤ _
        omega
      · refine eve (evs _) (bytes_same ?_)
        rw [ByteArray.data_append, Array.toList_append, e]
theorem ev_l1Num (n : Int) (h : -9999999 ≤ n) (h' : n ≤ 9999999) : Ev (fun k => spec_l1Num.f k n) (⟨(Lib.itoa n).toArray⟩ : ByteArray) := by
  by_cases c : n < 0
  · obtain ⟨h1, h2⟩ := l1Num_nat n.natAbs (by omega)
    have hs : (⟨(Lib.decDigits n.natAbs).toArray⟩ : ByteArray).size = (Lib.decDigits n.natAbs).length := by
      rw [← size_list]
    apply evshift
    simp only [spec_l1Num.f]
    rw [w64 (x := -n) (by omega) (by omega), show -n = (n.natAbs : Int) by omega]
    refine evp c (evb h1 (evp (by omega) (eve (evs _) (bytes_same ?_))))
    rw [ByteArray.data_append, Array.toList_append]
    unfold Lib.itoa
    rw [if_pos c]
    rfl
  · obtain ⟨m, rfl⟩ : ∃ m : Nat, n = m := ⟨n.toNat, by omega⟩
    have e : Lib.itoa (m : Int) = Lib.decDigits m := by
      unfold Lib.itoa
      rw [if_neg c, Int.toNat_natCast]
    rw [e]
    exact (l1Num_nat m (by omega)).1
theorem index_any (u : UInt8) : ∀ l : List UInt8, decide (0 ≤ Lib.index l [u]) = l.any fun v => v == u
  | [] => by simp [Lib.index]
  | v :: l => by
    have ih := index_any u l
    have hg := Lib.index_ge l [u]
    have e0 : Lib.index (v :: l) [u] = if List.isPrefixOf [u] (v :: l) then 0 else if Lib.index l [u] == -1 then -1 else Lib.index l [u] + 1 := rfl
    rw [List.any_cons, ← ih, e0]
    by_cases c : v = u
    · subst c
      simp [List.isPrefixOf]
    · have c' : ¬ u = v := fun h => c h.symm
      have e : List.isPrefixOf [u] (v :: l) = false := by simp [List.isPrefixOf, c']
      rw [e]
      have e2 : (v == u) = false := by simpa using c
      rw [e2, Bool.false_or]
      by_cases c3 : Lib.index l [u] = -1
      · rw [c3]; simp
      · have : (Lib.index l [u] == -1) = false := by simpa using c3
        rw [this]
        simp only [Bool.false_eq_true, if_false]
        rw [Bool.eq_iff_iff, decide_eq_true_eq, decide_eq_true_eq]
        omega
theorem contains_has (x sep : ByteArray) (u : UInt8) (hs : sep.data.toList = [u]) (hx : x.size ≤ 1048576) : strings_Contains.f x sep = some (hasB u x) := by
  unfold strings_Contains.f
  rw [if_pos (by omega), hs]
  unfold Lib.contains hasB
  rw [index_any]
theorem sum_loop (x : ByteArray) (hx : x.size ≤ 1048576) : ∀ d j (h : Int), j + d = x.size → 0 ≤ h → h ≤ 999978 → ∃ r, Ev (fun k => spec_l1Sum.l0 k x h (j : Int)) r ∧ Ev (fun k => impl_checksum.l0 k x h (x.size : Int) (j : Int)) r ∧ 0 ≤ r ∧ r ≤ 999978
  | 0, j, h, hj, h0, h1 => by
    refine ⟨h, ?_, ?_, h0, h1⟩
    · apply evshift; simp only [spec_l1Sum.l0]; exact evn (by omega) (evs _)
    · apply evshift; simp only [impl_checksum.l0]; exact evn (by omega) (evs _)
  | d + 1, j, h, hj, h0, h1 => by
    have hb := bt_range x (j : Int)
    have e : wrap64 ((wrap64 ((wrap64 (41 * h)) + (wrap64 (bt x (j : Int))))) + 1) = 41 * h + bt x (j : Int) + 1 := by
      rw [w64 (x := 41 * h) (by omega) (by omega), w64 (x := bt x (j : Int)) (by omega) (by omega), w64 (x := 41 * h + bt x (j : Int)) (by omega) (by omega), w64 (by omega) (by omega)]
    have g0 := Int.tmod_nonneg 999979 (show 0 ≤ 41 * h + bt x (j : Int) + 1 by omega)
    have g1 := Int.tmod_lt_of_pos (41 * h + bt x (j : Int) + 1) (show (0 : Int) < 999979 by omega)
    obtain ⟨r, r1, r2, r3⟩ := sum_loop x hx d (j + 1) (Int.tmod (41 * h + bt x (j : Int) + 1) 999979) (by omega) g0 (by omega)
    refine ⟨r, ?_, ?_, r3⟩
    · apply evshift; simp only [spec_l1Sum.l0]; rw [e, wnext j (by omega)]; exact evp (by omega) (evp (by omega) r1)
    · apply evshift; simp only [impl_checksum.l0]; rw [e, wnext j (by omega)]; exact evp (by omega) (evp (by omega) (evp (by omega) r2))
/-- The text with its checksum. -/
def sealF (x : ByteArray) (r : Int) : ByteArray := (x ++ (⟨#[35]⟩ : ByteArray)) ++ (⟨(Lib.itoa r).toArray⟩ : ByteArray)
theorem itoa_len {r : Int} (h0 : 0 ≤ r) (h1 : r ≤ 999978) : (⟨(Lib.itoa r).toArray⟩ : ByteArray).size ≤ 1000000 := by
  obtain ⟨u, rfl⟩ : ∃ u : Nat, r = u := ⟨r.toNat, by omega⟩
  have h := (l1Num_nat u (by omega)).2
  rw [← size_list]
  unfold Lib.itoa
  rw [if_neg (by omega), Int.toNat_natCast]
  show (Lib.decDigits u).length ≤ 1000000
  omega
theorem seals (x : ByteArray) (hx : x.size ≤ 1048576) : ∃ r, 0 ≤ r ∧ r ≤ 999978 ∧ Ev (fun k => spec_l1Seal.f k x) (sealF x r) ∧ Ev (fun k => impl_checksum.f k x) r ∧ strconv_Itoa.f r = some (⟨(Lib.itoa r).toArray⟩ : ByteArray) := by
  obtain ⟨r, r1, r2, r3, r4⟩ := sum_loop x hx x.size 0 7 (by omega) (by omega) (by omega)
  have hl := itoa_len r3 r4
  have h1 : (x ++ (⟨#[35]⟩ : ByteArray)).size = x.size + 1 := by rw [ByteArray.size_append]; rfl
  refine ⟨r, r3, r4, ?_, ?_, ?_⟩
  · unfold spec_l1Seal.f
    refine evp (by omega) (evb (a := r) ?_ (evb (ev_l1Num r (by omega) (by omega)) (evp (by omega) (evs _))))
    unfold spec_l1Sum.f
    exact r1
  · unfold impl_checksum.f
    exact r2
  · unfold strconv_Itoa.f
    rw [if_pos ⟨by omega, by omega⟩]
/-- What the program's AppendChecksum answers for a text without the sign. -/
theorem implAppend (x : ByteArray) (r : Int) (hx : x.size ≤ 4000) (h0 : 0 ≤ r) (h1 : r ≤ 999978) (hI : Ev (fun k => impl_checksum.f k x) r) (hi : strconv_Itoa.f r = some (⟨(Lib.itoa r).toArray⟩ : ByteArray)) (hh : hasB 35 x = false) : Ev (fun k => impl_AppendChecksum.f k x) (if (sealF x r).size > 4000 then ((⟨#[]⟩ : ByteArray), false) else (sealF x r, true)) := by
  have hl := itoa_len h0 h1
  have h2 : (x ++ (⟨#[35]⟩ : ByteArray)).size = x.size + 1 := by rw [ByteArray.size_append]; rfl
  unfold impl_AppendChecksum.f
  refine evn (by omega) (evc (contains_has x (⟨#[35]⟩ : ByteArray) 35 rfl (by omega)) ?_)
  rw [hh]
  apply evshift
  simp only [impl_AppendChecksum.j0]
  refine evn (by simp) (evp (by omega) (evb hI (evc hi (evp (by omega) ?_))))
  by_cases c : (sealF x r).size > 4000
  · exact evt c (evp (by unfold sealF at c; omega) (evs _))
  · exact evf c (evn (by unfold sealF at c; omega) (evs _))
theorem bothAppendChecksum (x : ByteArray) : ∃ r ok, Ev (fun k => spec_AppendChecksum.f k x) (r, ok) ∧ Ev (fun k => impl_AppendChecksum.f k x) (r, ok) := by
  have no2 : Ev (fun k => impl_AppendChecksum.j0 k x true) ((⟨#[]⟩ : ByteArray), false) := by
    apply evshift; simp only [impl_AppendChecksum.j0]; exact evp (by simp) (evs _)
  by_cases c : x.size ≤ 4000
  · have hst := ev_stands x 35 (by omega)
    cases hh : hasB 35 x with
    | true =>
      rw [hh] at hst
      refine ⟨(⟨#[]⟩ : ByteArray), false, ?_, ?_⟩
      · unfold spec_AppendChecksum.f
        exact evn (by omega) (evb hst (evp rfl (evs _)))
      · unfold impl_AppendChecksum.f
        refine evn (by omega) (evc (contains_has x (⟨#[35]⟩ : ByteArray) 35 rfl (by omega)) ?_)
        rw [hh]
        exact no2
    | false =>
      rw [hh] at hst
      obtain ⟨r, r1, r2, r3, r4, r5⟩ := seals x (by omega)
      have hA := implAppend x r c r1 r2 r4 r5 hh
      refine ⟨(if (sealF x r).size > 4000 then ((⟨#[]⟩ : ByteArray), false) else (sealF x r, true)).1, (if (sealF x r).size > 4000 then ((⟨#[]⟩ : ByteArray), false) else (sealF x r, true)).2, ?_, hA⟩
      unfold spec_AppendChecksum.f
      refine evn (by omega) (evb hst (evn (by simp) (evb r3 ?_)))
      by_cases c2 : (sealF x r).size > 4000
      · exact evp (by omega) (eve (evs _) (by rw [if_pos c2]))
      · exact evn (by omega) (evb r3 (eve (evs _) (by rw [if_neg c2])))
  · refine ⟨(⟨#[]⟩ : ByteArray), false, ?_, ?_⟩
    · unfold spec_AppendChecksum.f
      exact evp (by omega) (evs _)
    · unfold impl_AppendChecksum.f
      exact evp (by omega) no2
theorem FnExactAppendChecksum : laws_FnExactAppendChecksum.Pure := by
  intro x _
  refine Ev.rounds (g := fun k => laws_FnExactAppendChecksum.f k x) ?_
  unfold laws_FnExactAppendChecksum.f
  by_cases hx : (x.size : Int) > 1048576
  · exact evp hx (evs _)
  · obtain ⟨r, ok, hS, hI⟩ := bothAppendChecksum x
    exact evn hx (evb hS (evb hI (evp rfl (evn (by simp) (evs _)))))

end Go.Proofs.YtajmlbpchfakcaaDoor.Pure
