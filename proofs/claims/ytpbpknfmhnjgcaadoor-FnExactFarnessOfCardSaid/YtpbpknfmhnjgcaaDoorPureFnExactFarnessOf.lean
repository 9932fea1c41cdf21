/- The law laws.FnExactFarnessOf, told as plain Lean functions of numbers, lists and strings, answers true for every input, if enough rounds are given: the program's FarnessOf answers what the reference's answers. Conditions: none but the kinds' own (each number one of its kind, each length one that the model reads). -/
import Derived.Test.YtpbpknfmhnjgcaaDoorPFnExactFarnessOfx5
import Derived.Test.YtpbpknfmhnjgcaaDoorBase
namespace Go.Proofs.YtpbpknfmhnjgcaaDoor.Pure
open Go.RowKit Go.Proofs.YtpbpknfmhnjgcaaDoor.PFnExactFarnessOf Go.Proofs.YtpbpknfmhnjgcaaDoorW.PrintWords Go.Proofs.YtpbpknfmhnjgcaaDoorW.PrintLast Go.Proofs.YtpbpknfmhnjgcaaDoorW.PrintMore Go.Proofs.YtpbpknfmhnjgcaaDoor.Base

/-- How far the nearest one of l is from p. -/
def farF (n : Int) (ring : Bool) (l : List Int) (p : Int) : Int := if l.length = 0 then n else (nearF n ring p l l.length 0 (-1) (-1)).2
/-- The values of F at 0, 1, .., n - 1. -/
def listF (F : Int → Int) (n : Nat) : List Int := (List.range n).map fun i => F ((i : Nat) : Int)
theorem listF_len (F : Int → Int) (n : Nat) : (listF F n).length = n := by simp [listF]
theorem listF_succ (F : Int → Int) (n : Nat) : listF F (n + 1) = listF F n ++ [F (n : Int)] := by simp [listF, List.range_succ]
theorem sz_big {l : List Int} (h : 1048576 < l.length) (hm : l.length ≤ maxLen) : laws_szIntS.f l 1048576 = some (-1) := by
  unfold maxLen at hm
  unfold laws_szIntS.f
  rw [w64 (by omega) (by omega), if_pos (by omega)]
theorem sz_ok {l : List Int} {m : Int} (h : (l.length : Int) ≤ m) (hm : m ≤ 1048576) : laws_szIntS.f l m = some (m - l.length) := by
  unfold laws_szIntS.f
  rw [w64 (by omega) (by omega), if_neg (by omega)]
theorem szRow_big {a : Int} {b : Bool} {l : List Int} (h : 1048576 < l.length) (hm : l.length ≤ maxLen) : laws_szRow.f a b l 1048576 = some (-1) := by
  unfold laws_szRow.f
  rw [sz_big h hm]
  rfl
theorem szRow_ok {a : Int} {b : Bool} {l : List Int} {m : Int} (h : (l.length : Int) ≤ m) (hm : m ≤ 1048576) : laws_szRow.f a b l m = some (m - l.length) := by
  unfold laws_szRow.f
  rw [sz_ok h hm]
  simp only [Option.bind_some]
  rw [if_neg (by omega)]
theorem toIntS_loop (l : List Int) (hl : l.length ≤ 1048576) : ∀ d j, j + d = l.length → Ev (fun k => laws_toIntS.l0 k l (l.take j ++ List.replicate (l.length - j) 0) (j : Int)) l
  | 0, j, h => by
    apply evshift
    simp only [laws_toIntS.l0]
    refine evn (by omega) ?_
    have e : l.take j ++ List.replicate (l.length - j) 0 = l := by rw [show j = l.length by omega]; simp
    rw [e]
    exact evs _
  | d + 1, j, h => by
    have ih := toIntS_loop l hl d (j + 1) (by omega)
    apply evshift
    simp only [laws_toIntS.l0]
    refine evp (by omega) (evp (by omega) (evp (by simp; omega) ?_))
    rw [Int.toNat_natCast, set_copy l j (by omega), wnext j (by omega)]
    exact ih
theorem ev_toIntS (l : List Int) (hl : l.length ≤ 1048576) : Ev (fun k => laws_toIntS.f k l) l := by
  unfold laws_toIntS.f
  refine evp (by omega) (evp (by omega) ?_)
  have h := toIntS_loop l hl l.length 0 (by omega)
  simpa using h
theorem ev_toRow (a : Int) (b : Bool) (l : List Int) (hl : l.length ≤ 1048576) : Ev (fun k => laws_toRow.f k a b l) (a, b, l) := by
  unfold laws_toRow.f
  exact evb (ev_toIntS l hl) (evs _)
theorem eqIntS_loop (l : List Int) (hl : l.length ≤ 1048576) : ∀ d j, j + d = l.length → Ev (fun k => laws_eqIntS.l0 k l l (j : Int)) true
  | 0, j, h => by
    apply evshift
    simp only [laws_eqIntS.l0]
    exact evn (by omega) (evs _)
  | d + 1, j, h => by
    have ih := eqIntS_loop l hl d (j + 1) (by omega)
    apply evshift
    simp only [laws_eqIntS.l0]
    refine evp (by omega) (evp (by omega) (evp (by omega) (evp (by trivial) ?_)))
    rw [wnext j (by omega)]
    exact ih
theorem ev_eqIntS (l : List Int) (hl : l.length ≤ 1048576) : Ev (fun k => laws_eqIntS.f k l l) true := by
  unfold laws_eqIntS.f
  exact evp (by trivial) (eqIntS_loop l hl l.length 0 (by omega))
theorem ev_eqRow (a : Int) (b : Bool) (l : List Int) (hl : l.length ≤ 1048576) : Ev (fun k => laws_eqRow.f k a b l a b l) true := by
  unfold laws_eqRow.f
  refine evp (by simp) (evn (by simp) ?_)
  exact evb (ev_eqIntS l hl) (evp (by trivial) (evs _))
theorem markIntS_loop (l : List Int) (m : Int) (hl : l.length ≤ 1048576) (h0 : 0 ≤ m) (hm : m ≤ 1099511627776) : ∀ d j, j + d = l.length → Ev (fun k => laws_markIntS.l0 k (marks m j ++ l.drop j) (m + (j : Int)) (j : Int)) (m + (l.length : Int), marks m l.length)
  | 0, j, h => by
    obtain rfl : j = l.length := by omega
    apply evshift
    simp only [laws_markIntS.l0]
    refine evn (by simp [marks_len]) ?_
    simp only [List.drop_length, List.append_nil]
    exact evs _
  | d + 1, j, h => by
    have ih := markIntS_loop l m hl h0 hm d (j + 1) (by omega)
    apply evshift
    simp only [laws_markIntS.l0]
    refine evp (by simp [marks_len]; omega) (evp (by omega) ?_)
    rw [Int.toNat_natCast, set_marks m l j (by omega), wnext j (by omega), w64 (by omega) (by omega), show m + (j : Int) + 1 = m + ((j + 1 : Nat) : Int) by omega]
    exact ih
theorem ev_markIntS (l : List Int) (m : Int) (hl : l.length ≤ 1048576) (h0 : 0 ≤ m) (hm : m ≤ 1099511627776) : Ev (fun k => laws_markIntS.f k l m) (m + (l.length : Int), marks m l.length) := by
  unfold laws_markIntS.f
  have h := markIntS_loop l m hl h0 hm l.length 0 (by omega)
  simpa [marks] using h
theorem ev_markRow (a : Int) (b : Bool) (l : List Int) (m : Int) (hl : l.length ≤ 1048576) (h0 : 0 ≤ m) (hm : m ≤ 1099511627776) : Ev (fun k => laws_markRow.f k a b l m) (m + (l.length : Int), marks m l.length) := by
  unfold laws_markRow.f
  exact evb (ev_markIntS l m hl h0 hm) (evs _)
theorem heldIntS_loop (n : Nat) (m : Int) (hn : n ≤ 1048576) (h0 : 0 ≤ m) (hm : m ≤ 1099511627776) : ∀ d j, j + d = n → Ev (fun k => laws_heldIntS.l0 k (marks m n) (m + (j : Int)) (j : Int)) (m + (n : Int))
  | 0, j, h => by
    obtain rfl : j = n := by omega
    apply evshift
    simp only [laws_heldIntS.l0]
    exact evn (by rw [marks_len]; omega) (evs _)
  | d + 1, j, h => by
    have ih := heldIntS_loop n m hn h0 hm d (j + 1) (by omega)
    apply evshift
    simp only [laws_heldIntS.l0]
    refine evp (by rw [marks_len]; omega) (evp (by omega) (evp (rd_marks (by omega)) ?_))
    rw [wnext j (by omega), w64 (by omega) (by omega), show m + (j : Int) + 1 = m + ((j + 1 : Nat) : Int) by omega]
    exact ih
theorem ev_heldIntS (n : Nat) (m : Int) (hn : n ≤ 1048576) (h0 : 0 ≤ m) (hm : m ≤ 1099511627776) : Ev (fun k => laws_heldIntS.f k (marks m n) m) (m + (n : Int)) := by
  unfold laws_heldIntS.f
  have h := heldIntS_loop n m hn h0 hm n 0 (by omega)
  simpa using h
theorem in_spec (a lo hi : Int) : spec_l1In.f a lo hi = some (decide (lo ≤ a ∧ a ≤ hi)) := by
  unfold spec_l1In.f
  split
  · congr 1; simp; omega
  · congr 1; simp; omega
theorem rising_loop (l : List Int) (m : Int) (hl : l.length ≤ 1048576) : ∀ d j, j + d = l.length → Ev (fun k => spec_l1Rising.l0 k l 0 m (j : Int)) (okFrom m l d j)
  | 0, j, h => by
    apply evshift
    simp only [spec_l1Rising.l0]
    exact evn (by omega) (evs _)
  | d + 1, j, h => by
    have ih := rising_loop l m hl d (j + 1) (by omega)
    apply evshift
    simp only [spec_l1Rising.l0, in_spec, Option.bind_some]
    refine evp (by omega) (evp (by omega) ?_)
    simp only [okFrom, okAt]
    by_cases h1 : 0 ≤ rd l (j : Int) ∧ rd l (j : Int) ≤ m
    · refine evp (by simpa using h1) ?_
      rw [decide_eq_true h1, Bool.true_and]
      by_cases h2 : j = 0
      · refine evn (by omega) ?_
        rw [wnext j (by omega), decide_eq_true h2, Bool.true_or, Bool.true_and]
        exact ih
      · refine evp (by omega) ?_
        rw [w64 (by omega) (by omega)]
        refine evp (by omega) (evp (by omega) ?_)
        by_cases h3 : rd l ((j : Int) - 1) < rd l (j : Int)
        · refine evn (by omega) ?_
          rw [wnext j (by omega)]
          simpa [h3] using ih
        · refine evp (by omega) ?_
          simpa [h2, h3] using evs false
    · refine evn (by simpa using h1) ?_
      simpa [h1] using evs false
theorem ev_rising (l : List Int) (m : Int) (hl : l.length ≤ 1048576) : Ev (fun k => spec_l1Rising.f k l 0 m) (okFrom m l l.length 0) := by
  unfold spec_l1Rising.f
  exact rising_loop l m hl l.length 0 (by omega)
theorem ev_l2Row (n : Int) (ring : Bool) (l : List Int) (hl : l.length ≤ 1048576) : Ev (fun k => spec_l2Row.f k n ring l) (rowB n ring l) := by
  unfold spec_l2Row.f
  simp only [in_spec, Option.bind_some, rowB]
  by_cases h1 : 2 ≤ n ∧ n ≤ 24
  · refine evp (by simpa using h1) ?_
    rw [w64 (by omega) (by omega)]
    cases ring with
    | true =>
      refine evp rfl ?_
      by_cases h2 : n > 2
      · refine evp h2 (evb (ev_rising l _ hl) ?_)
        have h3 : 3 ≤ n := by omega
        simpa [h1, h3] using evs _
      · refine evn h2 ?_
        have h3 : ¬ 3 ≤ n := by omega
        simpa [h3] using evs false
    | false =>
      refine evn (by simp) (evb (ev_rising l _ hl) ?_)
      simpa [h1] using evs _
  · refine evn (by simpa using h1) ?_
    simpa [h1] using evs false
theorem l1Most (a b : Int) : spec_l1Most.f a b = some (mx a b) := mx_spec a b
theorem l1Least (a b : Int) : spec_l1Least.f a b = some (mn a b) := mn_spec a b
theorem l2Gap {n a b : Int} {ring : Bool} {l : List Int} (h1 : 0 ≤ a) (h2 : a ≤ 1048576) (h3 : 0 ≤ b) (h4 : b ≤ 1048576) (h5 : 0 ≤ n) (h6 : n ≤ 1048576) : spec_l2Gap.f n ring l a b = some (gapF n ring a b) := by
  have hb := mx_bd (a := a - b) (b := b - a) (B := 1048576) (by omega) (by omega) (by omega) (by omega)
  unfold spec_l2Gap.f gapF
  rw [w64 (by omega) (by omega), w64 (by omega) (by omega)]
  simp only [l1Most, l1Least, Option.bind_some]
  rw [w64 (by omega) (by omega)]
  split <;> rfl
theorem l2Nearest_loop (n : Int) (ring : Bool) (l0 l : List Int) (p : Int) (hl : l.length ≤ 1048576) (hm : ∀ x ∈ l, 0 ≤ x ∧ x < n) (h1 : 0 ≤ p) (h2 : p < n) (hn : n ≤ 1048576) : ∀ d j b m, j + d = l.length → (b < 0 ↔ m < 0) →
    Ev (fun k => spec_l2Nearest.l0 k l p b m (j : Int) n ring l0) (nearF n ring p l d j b m)
  | 0, j, b, m, h, _ => by
    apply evshift
    simp only [spec_l2Nearest.l0]
    exact evn (by omega) (evs _)
  | d + 1, j, b, m, h, hi => by
    have r := rd_bd hm (by omega : j < l.length)
    have g := gapF_nonneg (ring := ring) h1 h2 r.1 r.2
    apply evshift
    simp only [spec_l2Nearest.l0]
    refine evp (by omega) (evp (by omega) (evc (l2Gap h1 (by omega) r.1 (by omega) (by omega) hn) ?_))
    rw [wnext j (by omega)]
    unfold nearF
    by_cases c1 : b < 0
    · exact evt (.inl (hi.1 c1)) <| evp c1 (l2Nearest_loop n ring l0 l p hl hm h1 h2 hn d (j + 1) _ _ (by omega) (by omega))
    · have c2 : ¬ m < 0 := fun h => c1 (hi.2 h)
      by_cases c3 : gapF n ring p (rd l (j : Int)) < m
      · exact evt (.inr c3) <| evn c1 <| evp c3 (l2Nearest_loop n ring l0 l p hl hm h1 h2 hn d (j + 1) _ _ (by omega) (by omega))
      · exact evf (by omega) <| evn c1 <| evn c3 (l2Nearest_loop n ring l0 l p hl hm h1 h2 hn d (j + 1) _ _ (by omega) hi)
theorem ev_l2Nearest (n : Int) (ring : Bool) (l0 l : List Int) (p : Int) (hl : l.length ≤ 1048576) (hm : ∀ x ∈ l, 0 ≤ x ∧ x < n) (h1 : 0 ≤ p) (h2 : p < n) (hn : n ≤ 1048576) : Ev (fun k => spec_l2Nearest.f k n ring l0 l p) (nearF n ring p l l.length 0 (-1) (-1)) := by
  unfold spec_l2Nearest.f
  exact l2Nearest_loop n ring l0 l p hl hm h1 h2 hn l.length 0 _ _ (by omega) (by omega)
theorem ev_l3Far (n : Int) (ring : Bool) (l : List Int) (p : Int) (hl : l.length ≤ 1048576) (hm : ∀ x ∈ l, 0 ≤ x ∧ x < n) (h1 : 0 ≤ p) (h2 : p < n) (hn : n ≤ 1048576) : Ev (fun k => spec_l3Far.f k n ring l p) (farF n ring l p) := by
  unfold spec_l3Far.f farF
  by_cases h : l.length = 0
  · rw [if_pos h]
    exact evp (by omega) (evs _)
  · rw [if_neg h]
    refine evn (by omega) (evb (a := (nearF n ring p l l.length 0 (-1) (-1)).2) ?_ (evs _))
    unfold spec_l2Farthest.f
    exact evb (ev_l2Nearest n ring l l p hl hm h1 h2 hn) (evs _)
theorem l3All_loop (n : Nat) (ring : Bool) (l : List Int) (hl : l.length ≤ 1048576) (hm : ∀ x ∈ l, 0 ≤ x ∧ x < (n : Int)) (hn : n ≤ 1048576) : ∀ d j, j + d = n → Ev (fun k => spec_l3All.l0 k (listF (farF n ring l) j) (j : Int) (n : Int) ring l) (listF (farF n ring l) n)
  | 0, j, h => by
    obtain rfl : j = n := by omega
    apply evshift
    simp only [spec_l3All.l0]
    exact evn (by omega) (evs _)
  | d + 1, j, h => by
    have ih := l3All_loop n ring l hl hm hn d (j + 1) (by omega)
    rw [listF_succ] at ih
    have hf := listF_len (farF n ring l) j
    apply evshift
    simp only [spec_l3All.l0]
    refine evp (by omega) (evb (ev_l3Far n ring l j hl hm (by omega) (by omega) (by omega)) (evp (by omega) ?_))
    rw [wnext j (by omega)]
    exact ih
theorem ev_l3All (n : Nat) (ring : Bool) (l : List Int) (hl : l.length ≤ 1048576) (hm : ∀ x ∈ l, 0 ≤ x ∧ x < (n : Int)) (hn : n ≤ 1048576) : Ev (fun k => spec_l3All.f k (n : Int) ring l) (listF (farF n ring l) n) := by
  unfold spec_l3All.f
  have h := l3All_loop n ring l hl hm hn n 0 (by omega)
  simpa [listF] using h
theorem setOf_loop (l : List Int) (hm : ∀ x ∈ l, 0 ≤ x ∧ x < 32) (hl : l.length ≤ 1048576) : ∀ d j (P : Nat → Bool), j + d = l.length →
    Ev (fun k => impl_setOf.l0 k (M P : Int) l (l.length : Int) (j : Int)) (M (fun i => P i || decide ((i : Int) ∈ l.drop j)) : Int)
  | 0, j, P, h => by
    apply evshift
    simp only [impl_setOf.l0]
    refine evn (by omega) ?_
    rw [List.drop_eq_nil_of_le (by omega)]
    simpa using evs _
  | d + 1, j, P, h => by
    apply evshift
    simp only [impl_setOf.l0]
    have hr := hm _ (rd_mem (by omega : j < l.length))
    refine evp (by omega) (evp (by omega) (evp (by omega) (evp (by omega) ?_)))
    obtain ⟨p, hp⟩ : ∃ p : Nat, rd l (j : Int) = (p : Int) := ⟨(rd l (j : Int)).toNat, by omega⟩
    rw [hp] at hr
    rw [hp, M_one (by omega), M_or, wnext j (by omega)]
    refine eve (setOf_loop l hm hl d (j + 1) _ (by omega)) ?_
    rw [drop_cons (by omega : j < l.length), hp]
    refine congrArg _ (M_congr fun i _ => ?_)
    by_cases e : i = p
    · subst e; simp
    · have : ¬ (i : Int) = (p : Int) := by omega
      simp [e, this]
theorem ev_setOf (l : List Int) (hm : ∀ x ∈ l, 0 ≤ x ∧ x < 32) (hl : l.length ≤ 1048576) : Ev (fun k => impl_setOf.f k l) (M (fun i => decide ((i : Int) ∈ l)) : Int) := by
  unfold impl_setOf.f
  have h := setOf_loop l hm hl l.length 0 (fun _ => false) (by omega)
  rw [← M_zero] at h
  simpa using h
theorem ev_taken (n : Int) (ring : Bool) (l : List Int) (hm : ∀ x ∈ l, 0 ≤ x ∧ x < 32) (hl : l.length ≤ 1048576) : Ev (fun k => impl_Row_taken.f k n ring l) (M (fun i => decide ((i : Int) ∈ l)) : Int) := by
  unfold impl_Row_taken.f
  exact evb (ev_setOf l hm hl) (evs _)
theorem in_impl (a lo hi : Int) : impl_within.f a lo hi = some (decide (lo ≤ a ∧ a ≤ hi)) := by
  unfold impl_within.f
  split
  · congr 1; simp; omega
  · congr 1; simp; omega
theorem allWithin_loop (l : List Int) (lo hi : Int) (hl : l.length ≤ 1048576) : ∀ d j, j + d = l.length → Ev (fun k => impl_allWithin.l0 k lo hi l (l.length : Int) (j : Int)) ((l.drop j).all fun x => decide (lo ≤ x ∧ x ≤ hi))
  | 0, j, h => by
    apply evshift
    simp only [impl_allWithin.l0]
    refine evn (by omega) ?_
    rw [List.drop_eq_nil_of_le (by omega)]
    exact evs _
  | d + 1, j, h => by
    have ih := allWithin_loop l lo hi hl d (j + 1) (by omega)
    apply evshift
    simp only [impl_allWithin.l0, in_impl, Option.bind_some]
    refine evp (by omega) (evp (by omega) (evp (by omega) ?_))
    rw [drop_cons (by omega : j < l.length), List.all_cons]
    by_cases h1 : lo ≤ rd l (j : Int) ∧ rd l (j : Int) ≤ hi
    · refine evp (by simpa using h1) ?_
      rw [wnext j (by omega)]
      simpa [h1] using ih
    · refine evn (by simpa using h1) ?_
      simpa [h1] using evs false
theorem ev_allWithin (l : List Int) (lo hi : Int) (hl : l.length ≤ 1048576) : Ev (fun k => impl_allWithin.f k l lo hi) (l.all fun x => decide (lo ≤ x ∧ x ≤ hi)) := by
  unfold impl_allWithin.f
  have h := allWithin_loop l lo hi hl l.length 0 (by omega)
  simpa using h
theorem ev_benchHas (n : Int) (ring : Bool) (l : List Int) (hl : l.length ≤ 1048576) : Ev (fun k => impl_bench_has.f k n ring l) (l.all fun x => decide (0 ≤ x ∧ x ≤ wrap64 (n - 1))) := by
  unfold impl_bench_has.f
  exact evb (ev_allWithin l 0 _ hl) (evs _)
theorem benchValid (n : Int) (ring : Bool) : impl_bench_valid.f n ring = some (decide (2 ≤ n ∧ n ≤ 24) && (!ring || decide (3 ≤ n))) := by
  unfold impl_bench_valid.f
  simp only [in_impl, Option.bind_some]
  by_cases h1 : 2 ≤ n ∧ n ≤ 24
  · rw [if_pos (by simpa using h1)]
    cases ring <;> simp [h1]
  · rw [if_neg (by simpa using h1)]
    simp [h1]
theorem isRow_loop (n : Int) (ring : Bool) (l : List Int) (hl : l.length ≤ 1048576) : ∀ d j, j + d = l.length →
    Ev (fun k => impl_IsRow.l0 k l (l.length : Int) (j : Int) n ring l) (okFrom (wrap64 (n - 1)) l d j && (decide (2 ≤ n ∧ n ≤ 24) && (!ring || decide (3 ≤ n))))
  | 0, j, h => by
    apply evshift
    simp only [impl_IsRow.l0, impl_Row_bench.f, Option.bind_some, benchValid]
    refine evn (by omega) ?_
    simpa [okFrom] using evs _
  | d + 1, j, h => by
    have ih := isRow_loop n ring l hl d (j + 1) (by omega)
    apply evshift
    simp only [impl_IsRow.l0, impl_Row_bench.f, Option.bind_some]
    refine evp (by omega) (evp (by omega) (evp (by omega) ?_))
    refine evb (ev_benchHas n ring [rd l (j : Int)] (by simp)) ?_
    simp only [okFrom, okAt, List.all_cons, List.all_nil, Bool.and_true]
    by_cases h1 : 0 ≤ rd l (j : Int) ∧ rd l (j : Int) ≤ wrap64 (n - 1)
    · refine evp (by simpa using h1) ?_
      rw [decide_eq_true h1, Bool.true_and]
      by_cases h2 : j = 0
      · refine evn (by omega) ?_
        rw [wnext j (by omega), decide_eq_true h2, Bool.true_or, Bool.true_and]
        exact ih
      · refine evp (by omega) ?_
        rw [w64 (by omega) (by omega)]
        refine evp (by omega) (evp (by omega) ?_)
        by_cases h3 : rd l ((j : Int) - 1) < rd l (j : Int)
        · refine evn (by omega) ?_
          rw [wnext j (by omega)]
          simpa [h3] using ih
        · refine evp (by omega) ?_
          simpa [h2, h3] using evs false
    · refine evn (by simpa using h1) ?_
      simpa [h1] using evs false
theorem ev_isRow (n : Int) (ring : Bool) (l : List Int) (hl : l.length ≤ 1048576) : Ev (fun k => impl_IsRow.f k n ring l) (rowB n ring l) := by
  unfold impl_IsRow.f
  refine eve (isRow_loop n ring l hl l.length 0 (by omega)) ?_
  unfold rowB
  by_cases h1 : 2 ≤ n ∧ n ≤ 24
  · rw [w64 (by omega) (by omega)]
    cases okFrom (n - 1) l l.length 0 <;> simp [h1]
  · simp [h1]
theorem tz_table : ∀ t : Nat, t < 32 → (0 ≤ ((((2 ^ t : Nat) : Int) * 125613361) % 4294967296) / 134217728) ∧ ((((2 ^ t : Nat) : Int) * 125613361) % 4294967296) / 134217728 < 32 ∧ wrap64 (rd xtab0 (((((2 ^ t : Nat) : Int) * 125613361) % 4294967296) / 134217728)) = (t : Int) := by decide +kernel
theorem tz_at {P : Nat → Bool} {t : Nat} (h32 : t < 32) (ht : P t = true) (hl : ∀ i, i < t → P i = false) : bits_TrailingZeros32.f (M P : Int) = some (t : Int) := by
  have h0 : ¬ ((M P : Nat) : Int) = 0 := fun h => by have := M_eq_zero.1 h t h32; rw [this] at ht; cases ht
  obtain ⟨h1, h2, h3⟩ := tz_table t h32
  unfold bits_TrailingZeros32.f
  rw [if_neg h0, (M_low h32 ht hl).1, if_pos h1, if_pos h2, h3]
theorem list_loop : ∀ (d : Nat) (P : Nat → Bool) (acc : List Int), (sel 32 P).length = d → acc.length + d ≤ 1048576 → Ev (fun k => impl_set_list.l0 k (M P : Int) acc) (acc ++ sel 32 P)
  | 0, P, acc, h, _ => by
    have hn : sel 32 P = [] := List.eq_nil_of_length_eq_zero h
    have hz : ∀ i, i < 32 → P i = false := fun i hi => by
      cases hp : P i with
      | false => rfl
      | true =>
        have : (i : Int) ∈ sel 32 P := mem_sel.2 ⟨i, hi, hp, rfl⟩
        rw [hn] at this; cases this
    apply evshift
    simp only [impl_set_list.l0]
    refine evp (M_eq_zero.2 hz) ?_
    rw [hn, List.append_nil]
    exact evs _
  | d + 1, P, acc, h, hb => by
    have hex : ∃ i, i < 32 ∧ P i = true := by
      rcases Classical.em (∃ i, i < 32 ∧ P i = true) with h1 | h1
      · exact h1
      · have : sel 32 P = [] := sel_none fun i hi => by
          cases hp : P i with
          | false => rfl
          | true => exact absurd ⟨i, hi, hp⟩ h1
        rw [this] at h; cases h
    obtain ⟨t, h1, h2, h3⟩ := least_of hex
    have hs := sel_low h1 h2 h3
    have h0 : ¬ ((M P : Nat) : Int) = 0 := fun h => by have := M_eq_zero.1 h t h1; rw [this] at h2; cases h2
    apply evshift
    simp only [impl_set_list.l0, tz_at h1 h2 h3, Option.bind_some, (M_low h1 h2 h3).2]
    refine evn h0 (evp (by omega) ?_)
    rw [hs, List.length_cons] at h
    refine eve (list_loop d _ (acc ++ [(t : Int)]) (by omega) (by rw [List.length_append, List.length_singleton]; omega)) ?_
    rw [hs, List.append_assoc]; rfl
theorem ev_list (P : Nat → Bool) : Ev (fun k => impl_set_list.f k (M P : Int)) (sel 32 P) := by
  unfold impl_set_list.f
  have h := list_loop _ P [] rfl (by have := sel_len_le 32 P; simp; omega)
  simpa using h
theorem benchGap {n a b : Int} {ring : Bool} (h1 : 0 ≤ a) (h2 : a ≤ 1048576) (h3 : 0 ≤ b) (h4 : b ≤ 1048576) (h5 : 0 ≤ n) (h6 : n ≤ 1048576) : impl_bench_gap.f n ring a b = some (gapF n ring a b) := by
  have hb := mx_bd (a := a - b) (b := b - a) (B := 1048576) (by omega) (by omega) (by omega) (by omega)
  unfold impl_bench_gap.f gapF
  rw [w64 (by omega) (by omega), w64 (by omega) (by omega), w64 (by omega) (by omega)]
  split <;> rfl
theorem nearest_loop (n : Int) (ring : Bool) (l : List Int) (p : Int) (hl : l.length ≤ 1048576) (hm : ∀ x ∈ l, 0 ≤ x ∧ x < n) (h1 : 0 ≤ p) (h2 : p < n) (hn : n ≤ 1048576) : ∀ d j b m, j + d = l.length →
    Ev (fun k => impl_bench_nearest.l0 k p b m l (l.length : Int) (j : Int) n ring) ((nearF n ring p l d j b m).1, mx 0 (nearF n ring p l d j b m).2, decide ((nearF n ring p l d j b m).2 ≥ 0))
  | 0, j, b, m, h => by
    apply evshift
    simp only [impl_bench_nearest.l0]
    exact evn (by omega) (evs _)
  | d + 1, j, b, m, h => by
    have r := rd_bd hm (by omega : j < l.length)
    apply evshift
    simp only [impl_bench_nearest.l0]
    refine evp (by omega) (evp (by omega) (evp (by omega) (evc (benchGap h1 (by omega) r.1 (by omega) (by omega) hn) ?_)))
    rw [wnext j (by omega)]
    unfold nearF
    by_cases c2 : m < 0
    · rw [if_pos (show m < 0 ∨ gapF n ring p (rd l (j : Int)) < m from .inl c2)]
      exact evp c2 (nearest_loop n ring l p hl hm h1 h2 hn d (j + 1) _ _ (by omega))
    · by_cases c3 : gapF n ring p (rd l (j : Int)) < m
      · rw [if_pos (show m < 0 ∨ gapF n ring p (rd l (j : Int)) < m from .inr c3)]
        exact evn c2 <| evp c3 (nearest_loop n ring l p hl hm h1 h2 hn d (j + 1) _ _ (by omega))
      · rw [if_neg (show ¬ (m < 0 ∨ gapF n ring p (rd l (j : Int)) < m) by omega)]
        exact evn c2 <| evn c3 (nearest_loop n ring l p hl hm h1 h2 hn d (j + 1) _ _ (by omega))
theorem ev_nearest (n : Int) (ring : Bool) (P : Nat → Bool) (l : List Int) (p : Int) (hs : sel 32 P = l) (hm : ∀ x ∈ l, 0 ≤ x ∧ x < n) (h1 : 0 ≤ p) (h2 : p < n) (hn : n ≤ 1048576) :
    Ev (fun k => impl_bench_nearest.f k n ring p (M P : Int)) ((nearF n ring p l l.length 0 0 (-1)).1, mx 0 (nearF n ring p l l.length 0 0 (-1)).2, decide ((nearF n ring p l l.length 0 0 (-1)).2 ≥ 0)) := by
  unfold impl_bench_nearest.f
  have hl : l.length ≤ 32 := by rw [← hs]; exact sel_len_le 32 P
  refine evb (eve (ev_list P) hs) ?_
  exact nearest_loop n ring l p (by omega) hm h1 h2 hn l.length 0 _ _ (by omega)
theorem ev_nearest0 (n : Int) (ring : Bool) (P : Nat → Bool) (p : Int) (hs : sel 32 P = []) (h1 : 0 ≤ p) (h2 : p < n) (hn : n ≤ 1048576) : Ev (fun k => impl_bench_nearest.f k n ring p (M P : Int)) (0, 0, false) := by
  have h := ev_nearest n ring P [] p hs (by simp) h1 h2 hn
  simpa [nearF, mx] using h
theorem ev_nearest1 (n : Int) (ring : Bool) (P : Nat → Bool) (l : List Int) (p : Int) (hs : sel 32 P = l) (hm : ∀ x ∈ l, 0 ≤ x ∧ x < n) (h1 : 0 ≤ p) (h2 : p < n) (hn : n ≤ 1048576) (h0 : 0 < l.length) :
    Ev (fun k => impl_bench_nearest.f k n ring p (M P : Int)) ((nearF n ring p l l.length 0 (-1) (-1)).1, (nearF n ring p l l.length 0 (-1) (-1)).2, true) := by
  have h := ev_nearest n ring P l p hs hm h1 h2 hn
  rw [nearF_start l.length 0 0 (-1) h0] at h
  have hp := nearF_pos (ring := ring) h1 h2 hm l.length 0 (-1) (-1) (by omega) (.inl h0) (by omega)
  refine eve h ?_
  rw [decide_eq_true hp.1, show mx 0 (nearF n ring p l l.length 0 (-1) (-1)).2 = (nearF n ring p l l.length 0 (-1) (-1)).2 by unfold mx; split <;> omega]
theorem farness_loop (n : Nat) (ring : Bool) (P : Nat → Bool) (l : List Int) (hs : sel 32 P = l) (hm : ∀ x ∈ l, 0 ≤ x ∧ x < (n : Int)) (hn : n ≤ 1048576) : ∀ d j, j + d = n → Ev (fun k => impl_bench_farness.l0 k (M P : Int) (listF (farF n ring l) j) (n : Int) (j : Int) (n : Int) ring) (listF (farF n ring l) n)
  | 0, j, h => by
    obtain rfl : j = n := by omega
    apply evshift
    simp only [impl_bench_farness.l0]
    exact evn (by omega) (evs _)
  | d + 1, j, h => by
    have ih := farness_loop n ring P l hs hm hn d (j + 1) (by omega)
    rw [listF_succ] at ih
    have hf := listF_len (farF n ring l) j
    apply evshift
    simp only [impl_bench_farness.l0]
    by_cases h0 : l.length = 0
    · have hl0 : l = [] := List.length_eq_zero_iff.1 h0
      refine evp (by omega) (evb (ev_nearest0 n ring P j (by rw [hs, hl0]) (by omega) (by omega) (by omega)) (evn (by simp) (evp (by omega) ?_)))
      rw [wnext j (by omega)]
      rw [show farF n ring l (j : Int) = n by unfold farF; rw [if_pos h0]] at ih
      exact ih
    · refine evp (by omega) (evb (ev_nearest1 n ring P l j hs hm (by omega) (by omega) (by omega) (by omega)) (evp rfl (evp (by omega) ?_)))
      rw [wnext j (by omega)]
      rw [show farF n ring l (j : Int) = (nearF n ring j l l.length 0 (-1) (-1)).2 by unfold farF; rw [if_neg h0]] at ih
      exact ih
theorem ev_farness (n : Nat) (ring : Bool) (P : Nat → Bool) (l : List Int) (hs : sel 32 P = l) (hm : ∀ x ∈ l, 0 ≤ x ∧ x < (n : Int)) (hn : n ≤ 1048576) : Ev (fun k => impl_bench_farness.f k (n : Int) ring (M P : Int)) (listF (farF n ring l) n) := by
  unfold impl_bench_farness.f
  have h := farness_loop n ring P l hs hm hn n 0 (by omega)
  simpa [listF] using h
theorem bothFarnessOf (n : Int) (ring : Bool) (l : List Int) (hl : l.length ≤ 1048576) : ∃ R ok, Ev (fun k => spec_FarnessOf.f k n ring l) (R, ok) ∧ Ev (fun k => impl_FarnessOf.f k n ring l) (R, ok) ∧ R.length ≤ 1048576 := by
  have hS := ev_l2Row n ring l hl
  have hI := ev_isRow n ring l hl
  unfold spec_FarnessOf.f impl_FarnessOf.f
  cases hb : rowB n ring l with
  | false =>
    rw [hb] at hS hI
    exact ⟨_, _, evb hS (evn (by simp) (evs _)), evb hI (evn (by simp) (evs _)), by simp⟩
  | true =>
    rw [hb] at hS hI
    have ok := rowB_ok hb
    have := ok.lo; have := ok.hi
    obtain ⟨m, rfl⟩ : ∃ m : Nat, n = m := ⟨n.toNat, by omega⟩
    simp only [impl_Row_bench.f, Option.bind_some]
    have hT := ev_taken (m : Int) ring l ok.m32 hl
    have := listF_len (farF m ring l) m
    exact ⟨_, _, evb hS (evp rfl (evb (ev_l3All m ring l hl ok.mem (by omega)) (evs _))), evb hI (evp rfl (evb hT (evb (ev_farness m ring _ l ok.sel32 ok.mem (by omega)) (evs _)))), by omega⟩
theorem FnExactFarnessOf : laws_FnExactFarnessOf.Pure := by
  intro n ring l _ hm _
  refine Ev.rounds (g := fun k => laws_FnExactFarnessOf.f k n ring l) ?_
  unfold laws_FnExactFarnessOf.f
  by_cases hl : l.length ≤ 1048576
  · obtain ⟨R, ok, hS, hI, hR⟩ := bothFarnessOf n ring l hl
    refine evc (szRow_ok (by omega) (by omega)) ?_
    repeat (first
      | exact evs true
      | (with_reducible refine evb hS ?_)
      | (with_reducible refine evb hI ?_)
      | (with_reducible refine evb (ev_toIntS _ (by assumption)) ?_)
      | (with_reducible refine evb (ev_toRow _ _ _ (by assumption)) ?_)
      | (with_reducible refine evb (ev_eqIntS _ (by assumption)) ?_)
      | (with_reducible refine evb (ev_eqRow _ _ _ (by assumption)) ?_)
      | (with_reducible refine evb (ev_markIntS _ _ (by assumption) (by omega) (by omega)) ?_)
      | (with_reducible refine evb (ev_markRow _ _ _ _ (by assumption) (by omega) (by omega)) ?_)
      | (with_reducible refine evb (ev_heldIntS _ _ (by assumption) (by omega) (by omega)) ?_)
      | (with_reducible show Ev (fun k => laws_FnExactFarnessOf.j0 k _ _ _ _ _ _ _ _ _ _ _) _; apply evshift; simp only [laws_FnExactFarnessOf.j0])
      | (with_reducible show Ev (fun k => laws_FnExactFarnessOf.j1 k _ _ _ _ _ _ _) _; apply evshift; simp only [laws_FnExactFarnessOf.j1])
      | (with_reducible show Ev (fun k => laws_FnExactFarnessOf.j2 k _ _ _) _; apply evshift; simp only [laws_FnExactFarnessOf.j2])
      | (refine evp ?hc ?_; (case hc => first | omega | (simp; done)))
      | (refine evn ?hc ?_; (case hc => first | omega | (simp; done)))
      | dsimp only)
  · exact evc (szRow_big (by omega) hm) (evp (by omega) (evs _))

end Go.Proofs.YtpbpknfmhnjgcaaDoor.Pure
