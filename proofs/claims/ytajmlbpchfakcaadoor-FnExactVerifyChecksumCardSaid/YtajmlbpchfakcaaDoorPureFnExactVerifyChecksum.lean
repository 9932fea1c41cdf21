/- The law laws.FnExactVerifyChecksum, told as plain Lean functions of numbers, lists and strings, answers true for every input, if enough rounds are given: the program's VerifyChecksum answers what the reference's answers. Conditions: none but the kinds' own (each number one of its kind, each length one that the model reads). -/
import Derived.Test.YtajmlbpchfakcaaDoorPFnExactVerifyChecksumx2
import Derived.Test.YtajmlbpchfakcaaDoorBase
import Derived.Lib.ItoaNum
import Derived.Lib.IndexMore
namespace Go.Proofs.YtajmlbpchfakcaaDoor.Pure
open Go.RowKit Go.Proofs.YtajmlbpchfakcaaDoor.PFnExactVerifyChecksum Go.Proofs.YtajmlbpchfakcaaDoorW.PrintWords Go.Proofs.YtajmlbpchfakcaaDoorW.PrintLast Go.Proofs.YtajmlbpchfakcaaDoorW.PrintMore Go.Proofs.YtajmlbpchfakcaaDoor.Base

theorem bt_list (x : ByteArray) (j : Nat) : bt x (j : Int) = ((x.data.toList.getD j 0).toNat : Int) := by
  unfold bt
  simp only [Int.toNat_natCast]
  by_cases h : j < x.size
  · have h' : j < x.data.toList.length := by simpa using h
    rw [dif_pos h, List.getD, List.getElem?_eq_getElem h']
    rfl
  · have h' : x.data.toList.length ≤ j := by
      have : x.data.toList.length = x.size := by simp
      omega
    rw [dif_neg h, List.getD, List.getElem?_eq_none h']
    rfl
theorem size_list (x : ByteArray) : x.data.toList.length = x.size := by simp
theorem bytes_same {a b : ByteArray} (h : a.data.toList = b.data.toList) : a = b := by
  cases a with
  | mk a => cases b with
    | mk b => simpa using h
/-- Is the byte in the text? -/
def hasB (u : UInt8) (x : ByteArray) : Bool := x.data.toList.any fun v => v == u
theorem any_nat (u : UInt8) (l : List UInt8) : (l.any fun v => decide ((v.toNat : Int) = (u.toNat : Int))) = l.any fun v => v == u := by
  induction l with
  | nil => rfl
  | cons v l ih =>
    rw [List.any_cons, List.any_cons, ih]
    congr 1
    rw [Bool.eq_iff_iff, decide_eq_true_eq, beq_iff_eq]
    constructor
    · intro h
      exact UInt8.toNat_inj.1 (by omega)
    · rintro rfl; rfl
theorem dig_one : ∀ d : Fin 10, (⟨#[48, 49, 50, 51, 52, 53, 54, 55, 56, 57]⟩ : ByteArray).extract d.val (d.val + 1) = (⟨#[UInt8.ofNat (48 + d.val)]⟩ : ByteArray) := by decide
theorem dig_at {d : Nat} (h : d < 10) : (⟨#[48, 49, 50, 51, 52, 53, 54, 55, 56, 57]⟩ : ByteArray).extract (d : Int).toNat ((d : Int) + 1).toNat = (⟨#[UInt8.ofNat (48 + d)]⟩ : ByteArray) := by
  rw [Int.toNat_natCast, show ((d : Int) + 1).toNat = d + 1 by omega]
  exact dig_one ⟨d, h⟩
theorem l1Num_nat : ∀ u : Nat, u ≤ 9999999 → Ev (fun k => spec_l1Num.f k (u : Int)) (⟨(Lib.decDigits u).toArray⟩ : ByteArray) ∧ (Lib.decDigits u).length ≤ u + 1 := by
  intro u
  induction u using Nat.strongRecOn with
  | ind u ih =>
    intro hu
    by_cases c : u < 10
    · rw [Lib.decDigits_one c]
      refine ⟨?_, by simp⟩
      apply evshift
      simp only [spec_l1Num.f]
      rw [w64 (x := (u : Int) + 1) (by omega) (by omega), dig_at c]
      exact evn (by omega) (evp (by omega) (evp (by omega) (evp (by omega) (evp (by omega) (evs _)))))
    · obtain ⟨h1, h2⟩ := ih (u / 10) (by omega) (by omega)
      have e : Lib.decDigits u = Lib.decDigits (u / 10) ++ [UInt8.ofNat (48 + u % 10)] := by
        rw [Lib.decDigits, dif_neg c]
      have hd : Int.tdiv (u : Int) 10 = ((u / 10 : Nat) : Int) := (Int.ofNat_tdiv u 10).symm
      have hm : Int.tmod (u : Int) 10 = ((u % 10 : Nat) : Int) := (Int.ofNat_tmod u 10).symm
      refine ⟨?_, by rw [e, List.length_append, List.length_singleton]; omega⟩
      have hs : (⟨(Lib.decDigits (u / 10)).toArray⟩ : ByteArray).size = (Lib.decDigits (u / 10)).length := by
        rw [← size_list]
      apply evshift
      simp only [spec_l1Num.f]
      rw [hd, hm, w64 (x := ((u / 10 : Nat) : Int)) (by omega) (by omega), w64 (x := ((u % 10 : Nat) : Int) + 1) (by omega) (by omega), dig_at (by omega)]
      refine evn (by omega) (evn (by omega) (evb h1 (evp (by omega) (evp (by omega) (evp (by omega) (evp ?_ ?_))))))
      · rw [hs]
        show _ + 1 ≤ _
        omega
      · refine eve (evs _) (bytes_same ?_)
        rw [ByteArray.data_append, Array.toList_append, e]
theorem ev_l1Num (n : Int) (h : -9999999 ≤ n) (h' : n ≤ 9999999) : Ev (fun k => spec_l1Num.f k n) (⟨(Lib.itoa n).toArray⟩ : ByteArray) := by
  by_cases c : n < 0
  · obtain ⟨h1, h2⟩ := l1Num_nat n.natAbs (by omega)
    have hs : (⟨(Lib.decDigits n.natAbs).toArray⟩ : ByteArray).size = (Lib.decDigits n.natAbs).length := by
      rw [← size_list]
    apply evshift
    simp only [spec_l1Num.f]
    rw [w64 (x := -n) (by omega) (by omega), show -n = (n.natAbs : Int) by omega]
    refine evp c (evb h1 (evp (by omega) (eve (evs _) (bytes_same ?_))))
    rw [ByteArray.data_append, Array.toList_append]
    unfold Lib.itoa
    rw [if_pos c]
    rfl
  · obtain ⟨m, rfl⟩ : ∃ m : Nat, n = m := ⟨n.toNat, by omega⟩
    have e : Lib.itoa (m : Int) = Lib.decDigits m := by
      unfold Lib.itoa
      rw [if_neg c, Int.toNat_natCast]
    rw [e]
    exact (l1Num_nat m (by omega)).1
theorem index_any (u : UInt8) : ∀ l : List UInt8, decide (0 ≤ Lib.index l [u]) = l.any fun v => v == u
  | [] => by simp [Lib.index]
  | v :: l => by
    have ih := index_any u l
    have hg := Lib.index_ge l [u]
    have e0 : Lib.index (v :: l) [u] = if List.isPrefixOf [u] (v :: l) then 0 else if Lib.index l [u] == -1 then -1 else Lib.index l [u] + 1 := rfl
    rw [List.any_cons, ← ih, e0]
    by_cases c : v = u
    · subst c
      simp [List.isPrefixOf]
    · have c' : ¬ u = v := fun h => c h.symm
      have e : List.isPrefixOf [u] (v :: l) = false := by simp [List.isPrefixOf, c']
      rw [e]
      have e2 : (v == u) = false := by simpa using c
      rw [e2, Bool.false_or]
      by_cases c3 : Lib.index l [u] = -1
      · rw [c3]; simp
      · have : (Lib.index l [u] == -1) = false := by simpa using c3
        rw [this]
        simp only [Bool.false_eq_true, if_false]
        rw [Bool.eq_iff_iff, decide_eq_true_eq, decide_eq_true_eq]
        omega
theorem contains_has (x sep : ByteArray) (u : UInt8) (hs : sep.data.toList = [u]) (hx : x.size ≤ 1048576) : strings_Contains.f x sep = some (hasB u x) := by
  unfold strings_Contains.f
  rw [if_pos (by omega), hs]
  unfold Lib.contains hasB
  rw [index_any]
theorem sum_loop (x : ByteArray) (hx : x.size ≤ 1048576) : ∀ d j (h : Int), j + d = x.size → 0 ≤ h → h ≤ 999978 → ∃ r, Ev (fun k => spec_l1Sum.l0 k x h (j : Int)) r ∧ Ev (fun k => impl_checksum.l0 k x h (x.size : Int) (j : Int)) r ∧ 0 ≤ r ∧ r ≤ 999978
  | 0, j, h, hj, h0, h1 => by
    refine ⟨h, ?_, ?_, h0, h1⟩
    · apply evshift; simp only [spec_l1Sum.l0]; exact evn (by omega) (evs _)
    · apply evshift; simp only [impl_checksum.l0]; exact evn (by omega) (evs _)
  | d + 1, j, h, hj, h0, h1 => by
    have hb := bt_range x (j : Int)
    have e : wrap64 ((wrap64 ((wrap64 (41 * h)) + (wrap64 (bt x (j : Int))))) + 1) = 41 * h + bt x (j : Int) + 1 := by
      rw [w64 (x := 41 * h) (by omega) (by omega), w64 (x := bt x (j : Int)) (by omega) (by omega), w64 (x := 41 * h + bt x (j : Int)) (by omega) (by omega), w64 (by omega) (by omega)]
    have g0 := Int.tmod_nonneg 999979 (show 0 ≤ 41 * h + bt x (j : Int) + 1 by omega)
    have g1 := Int.tmod_lt_of_pos (41 * h + bt x (j : Int) + 1) (show (0 : Int) < 999979 by omega)
    obtain ⟨r, r1, r2, r3⟩ := sum_loop x hx d (j + 1) (Int.tmod (41 * h + bt x (j : Int) + 1) 999979) (by omega) g0 (by omega)
    refine ⟨r, ?_, ?_, r3⟩
    · apply evshift; simp only [spec_l1Sum.l0]; rw [e, wnext j (by omega)]; exact evp (by omega) (evp (by omega) r1)
    · apply evshift; simp only [impl_checksum.l0]; rw [e, wnext j (by omega)]; exact evp (by omega) (evp (by omega) (evp (by omega) r2))
/-- The text with its checksum. -/
def sealF (x : ByteArray) (r : Int) : ByteArray := (x ++ (⟨#[35]⟩ : ByteArray)) ++ (⟨(Lib.itoa r).toArray⟩ : ByteArray)
theorem itoa_len {r : Int} (h0 : 0 ≤ r) (h1 : r ≤ 999978) : (⟨(Lib.itoa r).toArray⟩ : ByteArray).size ≤ 1000000 := by
  obtain ⟨u, rfl⟩ : ∃ u : Nat, r = u := ⟨r.toNat, by omega⟩
  have h := (l1Num_nat u (by omega)).2
  rw [← size_list]
  unfold Lib.itoa
  rw [if_neg (by omega), Int.toNat_natCast]
  show (Lib.decDigits u).length ≤ 1000000
  omega
theorem seals (x : ByteArray) (hx : x.size ≤ 1048576) : ∃ r, 0 ≤ r ∧ r ≤ 999978 ∧ Ev (fun k => spec_l1Seal.f k x) (sealF x r) ∧ Ev (fun k => impl_checksum.f k x) r ∧ strconv_Itoa.f r = some (⟨(Lib.itoa r).toArray⟩ : ByteArray) := by
  obtain ⟨r, r1, r2, r3, r4⟩ := sum_loop x hx x.size 0 7 (by omega) (by omega) (by omega)
  have hl := itoa_len r3 r4
  have h1 : (x ++ (⟨#[35]⟩ : ByteArray)).size = x.size + 1 := by rw [ByteArray.size_append]; rfl
  refine ⟨r, r3, r4, ?_, ?_, ?_⟩
  · unfold spec_l1Seal.f
    refine evp (by omega) (evb (a := r) ?_ (evb (ev_l1Num r (by omega) (by omega)) (evp (by omega) (evs _))))
    unfold spec_l1Sum.f
    exact r1
  · unfold impl_checksum.f
    exact r2
  · unfold strconv_Itoa.f
    rw [if_pos ⟨by omega, by omega⟩]
/-- What the program's AppendChecksum answers for a text without the sign. -/
theorem implAppend (x : ByteArray) (r : Int) (hx : x.size ≤ 4000) (h0 : 0 ≤ r) (h1 : r ≤ 999978) (hI : Ev (fun k => impl_checksum.f k x) r) (hi : strconv_Itoa.f r = some (⟨(Lib.itoa r).toArray⟩ : ByteArray)) (hh : hasB 35 x = false) : Ev (fun k => impl_AppendChecksum.f k x) (if (sealF x r).size > 4000 then ((⟨#[]⟩ : ByteArray), false) else (sealF x r, true)) := by
  have hl := itoa_len h0 h1
  have h2 : (x ++ (⟨#[35]⟩ : ByteArray)).size = x.size + 1 := by rw [ByteArray.size_append]; rfl
  unfold impl_AppendChecksum.f
  refine evn (by omega) (evc (contains_has x (⟨#[35]⟩ : ByteArray) 35 rfl (by omega)) ?_)
  rw [hh]
  apply evshift
  simp only [impl_AppendChecksum.j0]
  refine evn (by simp) (evp (by omega) (evb hI (evc hi (evp (by omega) ?_))))
  by_cases c : (sealF x r).size > 4000
  · exact evt c (evp (by unfold sealF at c; omega) (evs _))
  · exact evf c (evn (by unfold sealF at c; omega) (evs _))
def headB (S : List UInt8) : List UInt8 := S.takeWhile fun v => !(v == 35)
theorem headB_cons {v : UInt8} {l : List UInt8} (c : ¬ v = 35) : headB (v :: l) = v :: headB l := by simp [headB, c]
theorem cut_parts : ∀ S : List UInt8, (0 ≤ Lib.index S [35] → S.take (Lib.index S [35]).toNat = headB S) ∧ (¬ 0 ≤ Lib.index S [35] → headB S = S)
  | [] => by simp [Lib.index, headB]
  | v :: l => by
    obtain ⟨h1, h2⟩ := cut_parts l
    have hg := Lib.index_ge l [35]
    have e0 : Lib.index (v :: l) [35] = if List.isPrefixOf [35] (v :: l) then 0 else if Lib.index l [35] == -1 then -1 else Lib.index l [35] + 1 := rfl
    by_cases c : v = 35
    · subst c
      rw [e0]
      simp [List.isPrefixOf, headB]
    · have c' : ¬ (35 : UInt8) = v := fun h => c h.symm
      have e : List.isPrefixOf [35] (v :: l) = false := by simp [List.isPrefixOf, c']
      have eh : headB (v :: l) = v :: headB l := by simp [headB, c]
      rw [e0, e, eh]
      simp only [Bool.false_eq_true, if_false]
      by_cases c3 : Lib.index l [35] = -1
      · rw [c3]
        refine ⟨fun h => absurd h (by decide), fun _ => ?_⟩
        rw [h2 (by omega)]
      · have e3 : (Lib.index l [35] == -1) = false := by simpa using c3
        rw [e3]
        simp only [Bool.false_eq_true, if_false]
        refine ⟨fun _ => ?_, fun h => absurd h (by omega)⟩
        rw [show (Lib.index l [35] + 1).toNat = (Lib.index l [35]).toNat + 1 by omega, List.take_succ_cons, h1 (by omega)]
theorem cut_fst (S : List UInt8) : (Lib.cut S [35]).1 = headB S := by
  obtain ⟨h1, h2⟩ := cut_parts S
  unfold Lib.cut
  by_cases h : 0 ≤ Lib.index S [35]
  · rw [if_pos h]; exact h1 h
  · rw [if_neg h]; exact (h2 h).symm
theorem headB_no (S : List UInt8) : hasB 35 (⟨(headB S).toArray⟩ : ByteArray) = false := by
  unfold hasB
  rw [List.any_eq_false]
  intro v hv
  have h := List.all_eq_true.1 (List.all_takeWhile (p := fun v : UInt8 => !(v == 35)) (l := S)) v (by simpa [headB] using hv)
  simpa using h
theorem headB_len (S : List UInt8) : (headB S).length ≤ S.length := (List.takeWhile_prefix _).length_le
theorem bt_35 (x : ByteArray) (j : Nat) (hj : j < x.data.toList.length) : bt x (j : Int) = 35 ↔ x.data.toList[j] = 35 := by
  rw [bt_list, List.getD, List.getElem?_eq_getElem hj]
  show ((x.data.toList[j]).toNat : Int) = 35 ↔ _
  constructor
  · intro h
    exact UInt8.toNat_inj.1 (by show (x.data.toList[j]).toNat = 35; omega)
  · intro h
    rw [h]; rfl
theorem split_tail (x : ByteArray) (hx : x.size ≤ 1048576) : ∀ d j st (e : ByteArray) (acc : List ByteArray), j + d = x.size → st ≤ j → acc.length ≤ j → ∃ rest, Ev (fun k => spec_l1Split.l0 k x 35 (e :: acc) ((st : Nat) : Int) (j : Int)) (e :: rest)
  | 0, j, st, e, acc, h, hs, ha => by
    refine ⟨acc ++ [x.extract ((st : Nat) : Int).toNat x.size], ?_⟩
    apply evshift
    simp only [spec_l1Split.l0]
    exact evn (by omega) (evp (by omega) (evp (by omega) (evp (by rw [List.length_cons]; omega) (evs _))))
  | d + 1, j, st, e, acc, h, hs, ha => by
    by_cases c : bt x (j : Int) = 35
    · obtain ⟨rest, ih⟩ := split_tail x hx d (j + 1) (j + 1) e (acc ++ [x.extract ((st : Nat) : Int).toNat (j : Int).toNat]) (by omega) (by omega) (by simp; omega)
      refine ⟨rest, ?_⟩
      apply evshift
      simp only [spec_l1Split.l0]
      rw [wnext j (by omega)]
      exact evp (by omega) (evp (by omega) (evp c (evp (by omega) (evp (by omega) (evp (by omega) (evp (by rw [List.length_cons]; omega) ih))))))
    · obtain ⟨rest, ih⟩ := split_tail x hx d (j + 1) st e acc (by omega) (by omega) (by omega)
      refine ⟨rest, ?_⟩
      apply evshift
      simp only [spec_l1Split.l0]
      rw [wnext j (by omega)]
      exact evp (by omega) (evp (by omega) (evn c ih))
theorem extract_take (x : ByteArray) (j : Nat) : (x.extract 0 j).data.toList = x.data.toList.take j := by
  rw [ByteArray.data_extract, Array.toList_extract]
  simp
theorem split_head (x : ByteArray) (hx : x.size ≤ 1048576) : ∀ d j, j + d = x.size → headB x.data.toList = x.data.toList.take j ++ headB (x.data.toList.drop j) → ∃ rest, Ev (fun k => spec_l1Split.l0 k x 35 [] 0 (j : Int)) ((⟨(headB x.data.toList).toArray⟩ : ByteArray) :: rest)
  | 0, j, h, hi => by
    have hsz := size_list x
    rw [List.drop_eq_nil_of_le (by omega)] at hi
    have e : x.extract (0 : Int).toNat x.size = (⟨(headB x.data.toList).toArray⟩ : ByteArray) := bytes_same (by
      show (x.extract 0 x.size).data.toList = _
      rw [extract_take, hi, show x.size = j by omega]
      simp [headB])
    refine ⟨[], ?_⟩
    apply evshift
    simp only [spec_l1Split.l0]
    rw [e]
    exact evn (by omega) (evp (by omega) (evp (by omega) (evp (by simp) (evs _))))
  | d + 1, j, h, hi => by
    have hsz := size_list x
    have hj : j < x.data.toList.length := by omega
    rw [List.drop_eq_getElem_cons hj] at hi
    by_cases c : bt x (j : Int) = 35
    · have c' := (bt_35 x j hj).1 c
      have e : x.extract (0 : Int).toNat (j : Int).toNat = (⟨(headB x.data.toList).toArray⟩ : ByteArray) := bytes_same (by
        show (x.extract 0 j).data.toList = _
        rw [extract_take, hi, c']
        simp [headB])
      obtain ⟨rest, ih⟩ := split_tail x hx d (j + 1) (j + 1) (⟨(headB x.data.toList).toArray⟩ : ByteArray) [] (by omega) (by omega) (by simp)
      refine ⟨rest, ?_⟩
      apply evshift
      simp only [spec_l1Split.l0]
      rw [wnext j (by omega), e]
      exact evp (by omega) (evp (by omega) (evp c (evp (by omega) (evp (by omega) (evp (by omega) (evp (by simp) ih))))))
    · have c' : ¬ x.data.toList[j] = 35 := fun h' => c ((bt_35 x j hj).2 h')
      obtain ⟨rest, ih⟩ := split_head x hx d (j + 1) (by omega) (by
        rw [hi, List.take_succ_eq_append_getElem hj, List.append_assoc, headB_cons c']
        rfl)
      refine ⟨rest, ?_⟩
      apply evshift
      simp only [spec_l1Split.l0]
      rw [wnext j (by omega)]
      exact evp (by omega) (evp (by omega) (evn c ih))
theorem same_size {a b : ByteArray} (h : a.toList = b.toList) : a.size = b.size := by
  rw [ByteArray.toList_eq, ByteArray.toList_eq] at h
  rw [← size_list a, ← size_list b, h]
theorem bothVerifyChecksum (x : ByteArray) (hx : x.size ≤ 1048576) : ∃ r ok, Ev (fun k => spec_VerifyChecksum.f k x) (r, ok) ∧ Ev (fun k => impl_VerifyChecksum.f k x) (r, ok) := by
  have hcut : strings_Cut.f x (⟨#[35]⟩ : ByteArray) = some ((⟨(headB x.data.toList).toArray⟩ : ByteArray), (⟨(Lib.cut x.data.toList [35]).2.1.toArray⟩ : ByteArray), (Lib.cut x.data.toList [35]).2.2) := by
    unfold strings_Cut.f
    rw [if_pos (by omega), ← cut_fst]
  have hno := headB_no x.data.toList
  have hts : (⟨(headB x.data.toList).toArray⟩ : ByteArray).size ≤ x.size := by
    rw [← size_list, ← size_list x]
    exact headB_len _
  obtain ⟨rest, hsp⟩ := split_head x hx x.size 0 (by omega) (by simp)
  generalize (⟨(headB x.data.toList).toArray⟩ : ByteArray) = t at hcut hno hts hsp
  by_cases hx4 : x.size ≤ 4000
  · obtain ⟨r, r1, r2, r3, r4, r5⟩ := seals t (by omega)
    have hA := implAppend t r (by omega) r1 r2 r4 r5 hno
    have hspl : Ev (fun k => spec_l1Split.f k x 35) (t :: rest) := by
      unfold spec_l1Split.f
      exact hsp
    have hr0 : rdOf ByteArray.empty (t :: rest) 0 = t := rfl
    by_cases c : (sealF t r).toList = x.toList
    · have hs := same_size c
      rw [if_neg (by omega)] at hA
      refine ⟨t, true, ?_, ?_⟩
      · unfold spec_VerifyChecksum.f
        refine evn (by omega) (evb hspl (evp (by simp) ?_))
        rw [hr0]
        exact evb r3 (evp c (evs _))
      · unfold impl_VerifyChecksum.f
        exact evc hcut (evb hA (evp rfl (evp c (evs _))))
    · refine ⟨(⟨#[]⟩ : ByteArray), false, ?_, ?_⟩
      · unfold spec_VerifyChecksum.f
        refine evn (by omega) (evb hspl (evp (by simp) ?_))
        rw [hr0]
        exact evb r3 (evn c (evs _))
      · unfold impl_VerifyChecksum.f
        refine evc hcut ?_
        by_cases c2 : (sealF t r).size > 4000
        · rw [if_pos c2] at hA
          exact evb hA (evn (by simp) (evs _))
        · rw [if_neg c2] at hA
          exact evb hA (evp rfl (evn c (evs _)))
  · refine ⟨(⟨#[]⟩ : ByteArray), false, ?_, ?_⟩
    · unfold spec_VerifyChecksum.f
      exact evp (by omega) (evs _)
    · unfold impl_VerifyChecksum.f
      refine evc hcut ?_
      by_cases ht : t.size ≤ 4000
      · obtain ⟨r, r1, r2, r3, r4, r5⟩ := seals t (by omega)
        have hA := implAppend t r ht r1 r2 r4 r5 hno
        by_cases c2 : (sealF t r).size > 4000
        · rw [if_pos c2] at hA
          exact evb hA (evn (by simp) (evs _))
        · rw [if_neg c2] at hA
          refine evb hA (evp rfl (evn (fun h => ?_) (evs _)))
          have := same_size (a := sealF t r) h
          omega
      · have hA : Ev (fun k => impl_AppendChecksum.f k t) ((⟨#[]⟩ : ByteArray), false) := by
          unfold impl_AppendChecksum.f
          refine evp (by omega) ?_
          apply evshift
          simp only [impl_AppendChecksum.j0]
          exact evp (by simp) (evs _)
        exact evb hA (evn (by simp) (evs _))
theorem FnExactVerifyChecksum : laws_FnExactVerifyChecksum.Pure := by
  intro x _
  refine Ev.rounds (g := fun k => laws_FnExactVerifyChecksum.f k x) ?_
  unfold laws_FnExactVerifyChecksum.f
  by_cases hx : (x.size : Int) > 1048576
  · exact evp hx (evs _)
  · obtain ⟨r, ok, hS, hI⟩ := bothVerifyChecksum x (by omega)
    exact evn hx (evb hS (evb hI (evp rfl (evn (by simp) (evs _)))))

end Go.Proofs.YtajmlbpchfakcaaDoor.Pure
