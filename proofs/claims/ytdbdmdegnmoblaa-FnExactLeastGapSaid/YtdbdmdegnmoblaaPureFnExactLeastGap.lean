/- The law laws.FnExactLeastGap, told as plain Lean functions of numbers, lists and strings, answers true for every input, if enough rounds are given: the program's LeastGap answers what the reference's answers. Conditions: none but the kinds' own (each number one of its kind, each length one that the model reads). -/
import Derived.Test.YtdbdmdegnmoblaaPFnExactLeastGapx4
import Derived.Test.YtdbdmdegnmoblaaBase
namespace Go.Proofs.Ytdbdmdegnmoblaa.Pure
open Go.RowKit Go.Proofs.Ytdbdmdegnmoblaa.PFnExactLeastGap Go.Proofs.YtdbdmdegnmoblaaW.PrintWords Go.Proofs.YtdbdmdegnmoblaaW.PrintLast Go.Proofs.YtdbdmdegnmoblaaW.PrintMore Go.Proofs.Ytdbdmdegnmoblaa.Base

theorem sz_big {l : List Int} (h : 1048576 < l.length) (hm : l.length ≤ maxLen) : laws_szIntS.f l 1048576 = some (-1) := by
  unfold maxLen at hm
  unfold laws_szIntS.f
  rw [w64 (by omega) (by omega), if_pos (by omega)]
theorem sz_ok {l : List Int} {m : Int} (h : (l.length : Int) ≤ m) (hm : m ≤ 1048576) : laws_szIntS.f l m = some (m - l.length) := by
  unfold laws_szIntS.f
  rw [w64 (by omega) (by omega), if_neg (by omega)]
theorem szRow_big {a : Int} {b : Bool} {l : List Int} (h : 1048576 < l.length) (hm : l.length ≤ maxLen) : laws_szRow.f a b l 1048576 = some (-1) := by
  unfold laws_szRow.f
  rw [sz_big h hm]
  rfl
theorem szRow_ok {a : Int} {b : Bool} {l : List Int} {m : Int} (h : (l.length : Int) ≤ m) (hm : m ≤ 1048576) : laws_szRow.f a b l m = some (m - l.length) := by
  unfold laws_szRow.f
  rw [sz_ok h hm]
  simp only [Option.bind_some]
  rw [if_neg (by omega)]
theorem toIntS_loop (l : List Int) (hl : l.length ≤ 1048576) : ∀ d j, j + d = l.length → Ev (fun k => laws_toIntS.l0 k l (l.take j ++ List.replicate (l.length - j) 0) (j : Int)) l
  | 0, j, h => by
    apply evshift
    simp only [laws_toIntS.l0]
    refine evn (by omega) ?_
    have e : l.take j ++ List.replicate (l.length - j) 0 = l := by rw [show j = l.length by omega]; simp
    rw [e]
    exact evs _
  | d + 1, j, h => by
    have ih := toIntS_loop l hl d (j + 1) (by omega)
    apply evshift
    simp only [laws_toIntS.l0]
    refine evp (by omega) (evp (by omega) (evp (by simp; omega) ?_))
    rw [Int.toNat_natCast, set_copy l j (by omega), wnext j (by omega)]
    exact ih
theorem ev_toIntS (l : List Int) (hl : l.length ≤ 1048576) : Ev (fun k => laws_toIntS.f k l) l := by
  unfold laws_toIntS.f
  refine evp (by omega) (evp (by omega) ?_)
  have h := toIntS_loop l hl l.length 0 (by omega)
  simpa using h
theorem ev_toRow (a : Int) (b : Bool) (l : List Int) (hl : l.length ≤ 1048576) : Ev (fun k => laws_toRow.f k a b l) (a, b, l) := by
  unfold laws_toRow.f
  exact evb (ev_toIntS l hl) (evs _)
theorem eqIntS_loop (l : List Int) (hl : l.length ≤ 1048576) : ∀ d j, j + d = l.length → Ev (fun k => laws_eqIntS.l0 k l l (j : Int)) true
  | 0, j, h => by
    apply evshift
    simp only [laws_eqIntS.l0]
    exact evn (by omega) (evs _)
  | d + 1, j, h => by
    have ih := eqIntS_loop l hl d (j + 1) (by omega)
    apply evshift
    simp only [laws_eqIntS.l0]
    refine evp (by omega) (evp (by omega) (evp (by omega) (evp (by trivial) ?_)))
    rw [wnext j (by omega)]
    exact ih
theorem ev_eqIntS (l : List Int) (hl : l.length ≤ 1048576) : Ev (fun k => laws_eqIntS.f k l l) true := by
  unfold laws_eqIntS.f
  exact evp (by trivial) (eqIntS_loop l hl l.length 0 (by omega))
theorem ev_eqRow (a : Int) (b : Bool) (l : List Int) (hl : l.length ≤ 1048576) : Ev (fun k => laws_eqRow.f k a b l a b l) true := by
  unfold laws_eqRow.f
  refine evp (by simp) (evn (by simp) ?_)
  exact evb (ev_eqIntS l hl) (evp (by trivial) (evs _))
theorem in_spec (a lo hi : Int) : spec_l1In.f a lo hi = some (decide (lo ≤ a ∧ a ≤ hi)) := by
  unfold spec_l1In.f
  split
  · congr 1; simp; omega
  · congr 1; simp; omega
theorem rising_loop (l : List Int) (m : Int) (hl : l.length ≤ 1048576) : ∀ d j, j + d = l.length → Ev (fun k => spec_l1Rising.l0 k l 0 m (j : Int)) (okFrom m l d j)
  | 0, j, h => by
    apply evshift
    simp only [spec_l1Rising.l0]
    exact evn (by omega) (evs _)
  | d + 1, j, h => by
    have ih := rising_loop l m hl d (j + 1) (by omega)
    apply evshift
    simp only [spec_l1Rising.l0, in_spec, Option.bind_some]
    refine evp (by omega) (evp (by omega) ?_)
    simp only [okFrom, okAt]
    by_cases h1 : 0 ≤ rd l (j : Int) ∧ rd l (j : Int) ≤ m
    · refine evp (by simpa using h1) ?_
      rw [decide_eq_true h1, Bool.true_and]
      by_cases h2 : j = 0
      · refine evn (by omega) ?_
        rw [wnext j (by omega), decide_eq_true h2, Bool.true_or, Bool.true_and]
        exact ih
      · refine evp (by omega) ?_
        rw [w64 (by omega) (by omega)]
        refine evp (by omega) (evp (by omega) ?_)
        by_cases h3 : rd l ((j : Int) - 1) < rd l (j : Int)
        · refine evn (by omega) ?_
          rw [wnext j (by omega)]
          simpa [h3] using ih
        · refine evp (by omega) ?_
          simpa [h2, h3] using evs false
    · refine evn (by simpa using h1) ?_
      simpa [h1] using evs false
theorem ev_rising (l : List Int) (m : Int) (hl : l.length ≤ 1048576) : Ev (fun k => spec_l1Rising.f k l 0 m) (okFrom m l l.length 0) := by
  unfold spec_l1Rising.f
  exact rising_loop l m hl l.length 0 (by omega)
theorem ev_l2Row (n : Int) (ring : Bool) (l : List Int) (hl : l.length ≤ 1048576) : Ev (fun k => spec_l2Row.f k n ring l) (rowB n ring l) := by
  unfold spec_l2Row.f
  simp only [in_spec, Option.bind_some, rowB]
  by_cases h1 : 2 ≤ n ∧ n ≤ 24
  · refine evp (by simpa using h1) ?_
    rw [w64 (by omega) (by omega)]
    cases ring with
    | true =>
      refine evp rfl ?_
      by_cases h2 : n > 2
      · refine evp h2 (evb (ev_rising l _ hl) ?_)
        have h3 : 3 ≤ n := by omega
        simpa [h1, h3] using evs _
      · refine evn h2 ?_
        have h3 : ¬ 3 ≤ n := by omega
        simpa [h3] using evs false
    | false =>
      refine evn (by simp) (evb (ev_rising l _ hl) ?_)
      simpa [h1] using evs _
  · refine evn (by simpa using h1) ?_
    simpa [h1] using evs false
theorem l1Most (a b : Int) : spec_l1Most.f a b = some (mx a b) := mx_spec a b
theorem l1Least (a b : Int) : spec_l1Least.f a b = some (mn a b) := mn_spec a b
theorem l2Gap {n a b : Int} {ring : Bool} {l : List Int} (h1 : 0 ≤ a) (h2 : a ≤ 1048576) (h3 : 0 ≤ b) (h4 : b ≤ 1048576) (h5 : 0 ≤ n) (h6 : n ≤ 1048576) : spec_l2Gap.f n ring l a b = some (gapF n ring a b) := by
  have hb := mx_bd (a := a - b) (b := b - a) (B := 1048576) (by omega) (by omega) (by omega) (by omega)
  unfold spec_l2Gap.f gapF
  rw [w64 (by omega) (by omega), w64 (by omega) (by omega)]
  simp only [l1Most, l1Least, Option.bind_some]
  rw [w64 (by omega) (by omega)]
  split <;> rfl
theorem lgIn_bd {n : Int} {ring : Bool} {l : List Int} (hm : ∀ x ∈ l, 0 ≤ x ∧ x < n) (h0 : 0 ≤ n) (hn : n ≤ 1048576) {i : Nat} (hi : i < l.length) : ∀ d j (acc : Int), j + d = i → -1048576 ≤ acc → acc ≤ 1048576 → -1048576 ≤ lgIn n ring l i d j acc ∧ lgIn n ring l i d j acc ≤ 1048576
  | 0, j, acc, _, h1, h2 => ⟨h1, h2⟩
  | d + 1, j, acc, h, h1, h2 => by
    have a := rd_bd hm hi
    have b := rd_bd hm (by omega : j < l.length)
    have g := gapF_bd (ring := ring) a.1 (by omega) b.1 (by omega) h0 hn
    unfold lgIn
    exact lgIn_bd hm h0 hn hi d (j + 1) _ (by omega) (by unfold mn; split <;> omega) (by unfold mn; split <;> omega)
theorem l3Least_loop (n : Int) (ring : Bool) (l : List Int) (hl : l.length ≤ 1048576) (hm : ∀ x ∈ l, 0 ≤ x ∧ x < n) (h0 : 0 ≤ n) (hn : n ≤ 1048576) : ∀ d i (acc : Int), i + d = l.length →
    Ev (fun k => spec_l3Least.l0 k acc (i : Int) n ring l) (lgOut n ring l d i acc)
  | 0, i, acc, h => by
    apply evshift
    simp only [spec_l3Least.l0]
    exact evn (by omega) (evs _)
  | d + 1, i, acc, h => by
    have ih := l3Least_loop n ring l hl hm h0 hn d (i + 1)
    have inner : ∀ e j (acc : Int), j + e = i → Ev (fun k => spec_l3Least.l1 k acc (i : Int) (j : Int) n ring l) (lgOut n ring l d (i + 1) (lgIn n ring l i e j acc)) := by
      intro e
      induction e with
      | zero =>
        intro j acc hj
        apply evshift
        simp only [spec_l3Least.l1]
        refine evn (by omega) ?_
        rw [wnext i (by omega)]
        exact ih _ (by omega)
      | succ e ihe =>
        intro j acc hj
        have a := rd_bd hm (by omega : i < l.length)
        have b := rd_bd hm (by omega : j < l.length)
        apply evshift
        simp only [spec_l3Least.l1]
        refine evp (by omega) (evp (by omega) (evp (by omega) (evp (by omega) (evp (by omega) ?_))))
        refine evc (l2Gap a.1 (by omega) b.1 (by omega) h0 hn) (evc (l1Least _ _) ?_)
        rw [wnext j (by omega)]
        exact ihe (j + 1) _ (by omega)
    apply evshift
    simp only [spec_l3Least.l0]
    refine evp (by omega) ?_
    exact inner i 0 acc (by omega)
theorem ev_l3Least (n : Int) (ring : Bool) (l : List Int) (hl : l.length ≤ 1048576) (hm : ∀ x ∈ l, 0 ≤ x ∧ x < n) (h0 : 0 ≤ n) (hn : n ≤ 1048576) : Ev (fun k => spec_l3Least.f k n ring l) (lgOut n ring l l.length 0 n) := by
  unfold spec_l3Least.f
  exact l3Least_loop n ring l hl hm h0 hn l.length 0 n (by omega)
theorem in_impl (a lo hi : Int) : impl_within.f a lo hi = some (decide (lo ≤ a ∧ a ≤ hi)) := by
  unfold impl_within.f
  split
  · congr 1; simp; omega
  · congr 1; simp; omega
theorem allWithin_loop (l : List Int) (lo hi : Int) (hl : l.length ≤ 1048576) : ∀ d j, j + d = l.length → Ev (fun k => impl_allWithin.l0 k lo hi l (l.length : Int) (j : Int)) ((l.drop j).all fun x => decide (lo ≤ x ∧ x ≤ hi))
  | 0, j, h => by
    apply evshift
    simp only [impl_allWithin.l0]
    refine evn (by omega) ?_
    rw [List.drop_eq_nil_of_le (by omega)]
    exact evs _
  | d + 1, j, h => by
    have ih := allWithin_loop l lo hi hl d (j + 1) (by omega)
    apply evshift
    simp only [impl_allWithin.l0, in_impl, Option.bind_some]
    refine evp (by omega) (evp (by omega) (evp (by omega) ?_))
    rw [drop_cons (by omega : j < l.length), List.all_cons]
    by_cases h1 : lo ≤ rd l (j : Int) ∧ rd l (j : Int) ≤ hi
    · refine evp (by simpa using h1) ?_
      rw [wnext j (by omega)]
      simpa [h1] using ih
    · refine evn (by simpa using h1) ?_
      simpa [h1] using evs false
theorem ev_allWithin (l : List Int) (lo hi : Int) (hl : l.length ≤ 1048576) : Ev (fun k => impl_allWithin.f k l lo hi) (l.all fun x => decide (lo ≤ x ∧ x ≤ hi)) := by
  unfold impl_allWithin.f
  have h := allWithin_loop l lo hi hl l.length 0 (by omega)
  simpa using h
theorem ev_benchHas (n : Int) (ring : Bool) (l : List Int) (hl : l.length ≤ 1048576) : Ev (fun k => impl_bench_has.f k n ring l) (l.all fun x => decide (0 ≤ x ∧ x ≤ wrap64 (n - 1))) := by
  unfold impl_bench_has.f
  exact evb (ev_allWithin l 0 _ hl) (evs _)
theorem benchValid (n : Int) (ring : Bool) : impl_bench_valid.f n ring = some (decide (2 ≤ n ∧ n ≤ 24) && (!ring || decide (3 ≤ n))) := by
  unfold impl_bench_valid.f
  simp only [in_impl, Option.bind_some]
  by_cases h1 : 2 ≤ n ∧ n ≤ 24
  · rw [if_pos (by simpa using h1)]
    cases ring <;> simp [h1]
  · rw [if_neg (by simpa using h1)]
    simp [h1]
theorem isRow_loop (n : Int) (ring : Bool) (l : List Int) (hl : l.length ≤ 1048576) : ∀ d j, j + d = l.length →
    Ev (fun k => impl_IsRow.l0 k l (l.length : Int) (j : Int) n ring l) (okFrom (wrap64 (n - 1)) l d j && (decide (2 ≤ n ∧ n ≤ 24) && (!ring || decide (3 ≤ n))))
  | 0, j, h => by
    apply evshift
    simp only [impl_IsRow.l0, impl_Row_bench.f, Option.bind_some, benchValid]
    refine evn (by omega) ?_
    simpa [okFrom] using evs _
  | d + 1, j, h => by
    have ih := isRow_loop n ring l hl d (j + 1) (by omega)
    apply evshift
    simp only [impl_IsRow.l0, impl_Row_bench.f, Option.bind_some]
    refine evp (by omega) (evp (by omega) (evp (by omega) ?_))
    refine evb (ev_benchHas n ring [rd l (j : Int)] (by simp)) ?_
    simp only [okFrom, okAt, List.all_cons, List.all_nil, Bool.and_true]
    by_cases h1 : 0 ≤ rd l (j : Int) ∧ rd l (j : Int) ≤ wrap64 (n - 1)
    · refine evp (by simpa using h1) ?_
      rw [decide_eq_true h1, Bool.true_and]
      by_cases h2 : j = 0
      · refine evn (by omega) ?_
        rw [wnext j (by omega), decide_eq_true h2, Bool.true_or, Bool.true_and]
        exact ih
      · refine evp (by omega) ?_
        rw [w64 (by omega) (by omega)]
        refine evp (by omega) (evp (by omega) ?_)
        by_cases h3 : rd l ((j : Int) - 1) < rd l (j : Int)
        · refine evn (by omega) ?_
          rw [wnext j (by omega)]
          simpa [h3] using ih
        · refine evp (by omega) ?_
          simpa [h2, h3] using evs false
    · refine evn (by simpa using h1) ?_
      simpa [h1] using evs false
theorem ev_isRow (n : Int) (ring : Bool) (l : List Int) (hl : l.length ≤ 1048576) : Ev (fun k => impl_IsRow.f k n ring l) (rowB n ring l) := by
  unfold impl_IsRow.f
  refine eve (isRow_loop n ring l hl l.length 0 (by omega)) ?_
  unfold rowB
  by_cases h1 : 2 ≤ n ∧ n ≤ 24
  · rw [w64 (by omega) (by omega)]
    cases okFrom (n - 1) l l.length 0 <;> simp [h1]
  · simp [h1]
theorem benchGap {n a b : Int} {ring : Bool} (h1 : 0 ≤ a) (h2 : a ≤ 1048576) (h3 : 0 ≤ b) (h4 : b ≤ 1048576) (h5 : 0 ≤ n) (h6 : n ≤ 1048576) : impl_bench_gap.f n ring a b = some (gapF n ring a b) := by
  have hb := mx_bd (a := a - b) (b := b - a) (B := 1048576) (by omega) (by omega) (by omega) (by omega)
  unfold impl_bench_gap.f gapF
  rw [w64 (by omega) (by omega), w64 (by omega) (by omega), w64 (by omega) (by omega)]
  split <;> rfl
theorem leastGap_loop (n : Int) (ring : Bool) (l : List Int) (hl : l.length ≤ 1048576) (hm : ∀ x ∈ l, 0 ≤ x ∧ x < n) (h0 : 0 ≤ n) (hn : n ≤ 1048576) : ∀ d i (acc : Int), i + d = l.length →
    Ev (fun k => impl_bench_leastGap.l0 k l acc l (l.length : Int) (i : Int) n ring) (if (l.length : Int) < 2 then (0, false) else (lgOut n ring l d i acc, true))
  | 0, i, acc, h => by
    apply evshift
    simp only [impl_bench_leastGap.l0]
    refine evn (by omega) ?_
    by_cases h2 : (l.length : Int) < 2
    · exact evt h2 (evp h2 (evs _))
    · exact evf h2 (evn h2 (evs _))
  | d + 1, i, acc, h => by
    have ih := leastGap_loop n ring l hl hm h0 hn d (i + 1)
    have inner : ∀ e j (acc : Int), j + e = i → Ev (fun k => impl_bench_leastGap.l1 k l acc (rd l (i : Int)) l (l.length : Int) (i : Int) (l.take i) (i : Int) (j : Int) n ring) (if (l.length : Int) < 2 then (0, false) else (lgOut n ring l d (i + 1) (lgIn n ring l i e j acc), true)) := by
      intro e
      induction e with
      | zero =>
        intro j acc hj
        apply evshift
        simp only [impl_bench_leastGap.l1]
        refine evn (by omega) ?_
        rw [wnext i (by omega)]
        exact ih _ (by omega)
      | succ e ihe =>
        intro j acc hj
        have a := rd_bd hm (by omega : i < l.length)
        have b := rd_bd hm (by omega : j < l.length)
        apply evshift
        simp only [impl_bench_leastGap.l1]
        refine evp (by omega) (evp (by omega) (evp (by rw [List.length_take]; omega) ?_))
        rw [rd_take (by omega) (by omega)]
        refine evc (benchGap a.1 (by omega) b.1 (by omega) h0 hn) ?_
        rw [wnext j (by omega)]
        exact ihe (j + 1) _ (by omega)
    apply evshift
    simp only [impl_bench_leastGap.l0]
    refine evp (by omega) (evp (by omega) (evp (by omega) (evp (by omega) ?_)))
    rw [Int.toNat_natCast]
    exact inner i 0 acc (by omega)
theorem ev_leastGap (n : Int) (ring : Bool) (l : List Int) (hl : l.length ≤ 1048576) (hm : ∀ x ∈ l, 0 ≤ x ∧ x < n) (h0 : 0 ≤ n) (hn : n ≤ 1048576) : Ev (fun k => impl_bench_leastGap.f k n ring l) (if (l.length : Int) < 2 then (0, false) else (lgOut n ring l l.length 0 n, true)) := by
  unfold impl_bench_leastGap.f
  exact leastGap_loop n ring l hl hm h0 hn l.length 0 n (by omega)
theorem ev_specLeastGap (n : Int) (ring : Bool) (l : List Int) (hl : l.length ≤ 1048576) : Ev (fun k => spec_LeastGap.f k n ring l) (if rowB n ring l = true then (if (l.length : Int) < 2 then (0, false) else (lgOut n ring l l.length 0 n, true)) else (0, false)) := by
  unfold spec_LeastGap.f
  refine evb (ev_l2Row n ring l hl) ?_
  by_cases h : rowB n ring l = true
  · have ok := rowB_ok h
    have := ok.lo; have := ok.hi
    rw [if_pos h]
    refine evp h ?_
    by_cases h2 : (l.length : Int) < 2
    · exact evt h2 (evp h2 (evs _))
    · exact evf h2 <| evn h2 (evb (ev_l3Least n ring l hl ok.mem (by omega) (by omega)) (evs _))
  · rw [if_neg h]
    exact evn h (evs _)
theorem ev_implLeastGap (n : Int) (ring : Bool) (l : List Int) (hl : l.length ≤ 1048576) : Ev (fun k => impl_LeastGap.f k n ring l) (if rowB n ring l = true then (if (l.length : Int) < 2 then (0, false) else (lgOut n ring l l.length 0 n, true)) else (0, false)) := by
  unfold impl_LeastGap.f
  refine evb (ev_isRow n ring l hl) ?_
  by_cases h : rowB n ring l = true
  · have ok := rowB_ok h
    have := ok.lo; have := ok.hi
    rw [if_pos h]
    refine evp h ?_
    simp only [impl_Row_bench.f, Option.bind_some]
    exact evb (ev_leastGap n ring l hl ok.mem (by omega) (by omega)) (evs _)
  · rw [if_neg h]
    exact evn h (evs _)
theorem FnExactLeastGap : laws_FnExactLeastGap.Pure := by
  intro n ring l _ hm _
  refine Ev.rounds (g := fun k => laws_FnExactLeastGap.f k n ring l) ?_
  unfold laws_FnExactLeastGap.f
  by_cases hl : l.length ≤ 1048576
  · obtain ⟨⟨R, ok⟩, hS, hI⟩ : ∃ r, Ev (fun k => spec_LeastGap.f k n ring l) r ∧ Ev (fun k => impl_LeastGap.f k n ring l) r := ⟨_, ev_specLeastGap n ring l hl, ev_implLeastGap n ring l hl⟩
    refine evc (szRow_ok (by omega) (by omega)) ?_
    repeat (first
      | exact evs true
      | (with_reducible refine evb hS ?_)
      | (with_reducible refine evb hI ?_)
      | (with_reducible refine evb (ev_toIntS _ (by assumption)) ?_)
      | (with_reducible refine evb (ev_toRow _ _ _ (by assumption)) ?_)
      | (with_reducible refine evb (ev_eqIntS _ (by assumption)) ?_)
      | (with_reducible refine evb (ev_eqRow _ _ _ (by assumption)) ?_)
      | (with_reducible show Ev (fun k => laws_FnExactLeastGap.j0 k _ _ _ _ _ _ _) _; apply evshift; simp only [laws_FnExactLeastGap.j0])
      | (refine evp ?hc ?_; (case hc => first | omega | (simp; done)))
      | (refine evn ?hc ?_; (case hc => first | omega | (simp; done)))
      | dsimp only)
  · exact evc (szRow_big (by omega) hm) (evp (by omega) (evs _))

end Go.Proofs.Ytdbdmdegnmoblaa.Pure
