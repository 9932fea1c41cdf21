/- The law laws.FnExactPartSeats, told as plain Lean functions of numbers, lists and strings, answers true for every input, if enough rounds are given: the program's PartSeats answers what the reference's answers. Conditions: none but the kinds' own (each number one of its kind, each length one that the model reads). -/
import Derived.Test.YtpbpknfmhnjgcaaDoorPFnExactPartSeatsx6
import Derived.Test.YtpbpknfmhnjgcaaDoorBase
namespace Go.Proofs.YtpbpknfmhnjgcaaDoor.Pure
open Go.RowKit Go.Proofs.YtpbpknfmhnjgcaaDoor.PFnExactPartSeats Go.Proofs.YtpbpknfmhnjgcaaDoorW.PrintWords Go.Proofs.YtpbpknfmhnjgcaaDoorW.PrintLast Go.Proofs.YtpbpknfmhnjgcaaDoorW.PrintMore Go.Proofs.YtpbpknfmhnjgcaaDoor.Base

theorem sz_big {l : List Int} (h : 1048576 < l.length) (hm : l.length ≤ maxLen) : laws_szIntS.f l 1048576 = some (-1) := by
  unfold maxLen at hm
  unfold laws_szIntS.f
  rw [w64 (by omega) (by omega), if_pos (by omega)]
theorem sz_ok {l : List Int} {m : Int} (h : (l.length : Int) ≤ m) (hm : m ≤ 1048576) : laws_szIntS.f l m = some (m - l.length) := by
  unfold laws_szIntS.f
  rw [w64 (by omega) (by omega), if_neg (by omega)]
theorem szRow_big {a : Int} {b : Bool} {l : List Int} (h : 1048576 < l.length) (hm : l.length ≤ maxLen) : laws_szRow.f a b l 1048576 = some (-1) := by
  unfold laws_szRow.f
  rw [sz_big h hm]
  rfl
theorem szRow_ok {a : Int} {b : Bool} {l : List Int} {m : Int} (h : (l.length : Int) ≤ m) (hm : m ≤ 1048576) : laws_szRow.f a b l m = some (m - l.length) := by
  unfold laws_szRow.f
  rw [sz_ok h hm]
  simp only [Option.bind_some]
  rw [if_neg (by omega)]
theorem toIntS_loop (l : List Int) (hl : l.length ≤ 1048576) : ∀ d j, j + d = l.length → Ev (fun k => laws_toIntS.l0 k l (l.take j ++ List.replicate (l.length - j) 0) (j : Int)) l
  | 0, j, h => by
    apply evshift
    simp only [laws_toIntS.l0]
    refine evn (by omega) ?_
    have e : l.take j ++ List.replicate (l.length - j) 0 = l := by rw [show j = l.length by omega]; simp
    rw [e]
    exact evs _
  | d + 1, j, h => by
    have ih := toIntS_loop l hl d (j + 1) (by omega)
    apply evshift
    simp only [laws_toIntS.l0]
    refine evp (by omega) (evp (by omega) (evp (by simp; omega) ?_))
    rw [Int.toNat_natCast, set_copy l j (by omega), wnext j (by omega)]
    exact ih
theorem ev_toIntS (l : List Int) (hl : l.length ≤ 1048576) : Ev (fun k => laws_toIntS.f k l) l := by
  unfold laws_toIntS.f
  refine evp (by omega) (evp (by omega) ?_)
  have h := toIntS_loop l hl l.length 0 (by omega)
  simpa using h
theorem ev_toRow (a : Int) (b : Bool) (l : List Int) (hl : l.length ≤ 1048576) : Ev (fun k => laws_toRow.f k a b l) (a, b, l) := by
  unfold laws_toRow.f
  exact evb (ev_toIntS l hl) (evs _)
theorem eqIntS_loop (l : List Int) (hl : l.length ≤ 1048576) : ∀ d j, j + d = l.length → Ev (fun k => laws_eqIntS.l0 k l l (j : Int)) true
  | 0, j, h => by
    apply evshift
    simp only [laws_eqIntS.l0]
    exact evn (by omega) (evs _)
  | d + 1, j, h => by
    have ih := eqIntS_loop l hl d (j + 1) (by omega)
    apply evshift
    simp only [laws_eqIntS.l0]
    refine evp (by omega) (evp (by omega) (evp (by omega) (evp (by trivial) ?_)))
    rw [wnext j (by omega)]
    exact ih
theorem ev_eqIntS (l : List Int) (hl : l.length ≤ 1048576) : Ev (fun k => laws_eqIntS.f k l l) true := by
  unfold laws_eqIntS.f
  exact evp (by trivial) (eqIntS_loop l hl l.length 0 (by omega))
theorem ev_eqRow (a : Int) (b : Bool) (l : List Int) (hl : l.length ≤ 1048576) : Ev (fun k => laws_eqRow.f k a b l a b l) true := by
  unfold laws_eqRow.f
  refine evp (by simp) (evn (by simp) ?_)
  exact evb (ev_eqIntS l hl) (evp (by trivial) (evs _))
theorem markIntS_loop (l : List Int) (m : Int) (hl : l.length ≤ 1048576) (h0 : 0 ≤ m) (hm : m ≤ 1099511627776) : ∀ d j, j + d = l.length → Ev (fun k => laws_markIntS.l0 k (marks m j ++ l.drop j) (m + (j : Int)) (j : Int)) (m + (l.length : Int), marks m l.length)
  | 0, j, h => by
    obtain rfl : j = l.length := by omega
    apply evshift
    simp only [laws_markIntS.l0]
    refine evn (by simp [marks_len]) ?_
    simp only [List.drop_length, List.append_nil]
    exact evs _
  | d + 1, j, h => by
    have ih := markIntS_loop l m hl h0 hm d (j + 1) (by omega)
    apply evshift
    simp only [laws_markIntS.l0]
    refine evp (by simp [marks_len]; omega) (evp (by omega) ?_)
    rw [Int.toNat_natCast, set_marks m l j (by omega), wnext j (by omega), w64 (by omega) (by omega), show m + (j : Int) + 1 = m + ((j + 1 : Nat) : Int) by omega]
    exact ih
theorem ev_markIntS (l : List Int) (m : Int) (hl : l.length ≤ 1048576) (h0 : 0 ≤ m) (hm : m ≤ 1099511627776) : Ev (fun k => laws_markIntS.f k l m) (m + (l.length : Int), marks m l.length) := by
  unfold laws_markIntS.f
  have h := markIntS_loop l m hl h0 hm l.length 0 (by omega)
  simpa [marks] using h
theorem ev_markRow (a : Int) (b : Bool) (l : List Int) (m : Int) (hl : l.length ≤ 1048576) (h0 : 0 ≤ m) (hm : m ≤ 1099511627776) : Ev (fun k => laws_markRow.f k a b l m) (m + (l.length : Int), marks m l.length) := by
  unfold laws_markRow.f
  exact evb (ev_markIntS l m hl h0 hm) (evs _)
theorem heldIntS_loop (n : Nat) (m : Int) (hn : n ≤ 1048576) (h0 : 0 ≤ m) (hm : m ≤ 1099511627776) : ∀ d j, j + d = n → Ev (fun k => laws_heldIntS.l0 k (marks m n) (m + (j : Int)) (j : Int)) (m + (n : Int))
  | 0, j, h => by
    obtain rfl : j = n := by omega
    apply evshift
    simp only [laws_heldIntS.l0]
    exact evn (by rw [marks_len]; omega) (evs _)
  | d + 1, j, h => by
    have ih := heldIntS_loop n m hn h0 hm d (j + 1) (by omega)
    apply evshift
    simp only [laws_heldIntS.l0]
    refine evp (by rw [marks_len]; omega) (evp (by omega) (evp (rd_marks (by omega)) ?_))
    rw [wnext j (by omega), w64 (by omega) (by omega), show m + (j : Int) + 1 = m + ((j + 1 : Nat) : Int) by omega]
    exact ih
theorem ev_heldIntS (n : Nat) (m : Int) (hn : n ≤ 1048576) (h0 : 0 ≤ m) (hm : m ≤ 1099511627776) : Ev (fun k => laws_heldIntS.f k (marks m n) m) (m + (n : Int)) := by
  unfold laws_heldIntS.f
  have h := heldIntS_loop n m hn h0 hm n 0 (by omega)
  simpa using h
theorem ev_heldRow (a : Int) (b : Bool) (n : Nat) (m : Int) (hn : n ≤ 1048576) (h0 : 0 ≤ m) (hm : m ≤ 1099511627776) : Ev (fun k => laws_heldRow.f k a b (marks m n) m) (m + (n : Int)) := by
  unfold laws_heldRow.f
  exact evb (ev_heldIntS n m hn h0 hm) (evn (by omega) (evs _))
theorem in_spec (a lo hi : Int) : spec_l1In.f a lo hi = some (decide (lo ≤ a ∧ a ≤ hi)) := by
  unfold spec_l1In.f
  split
  · congr 1; simp; omega
  · congr 1; simp; omega
theorem rising_loop (l : List Int) (m : Int) (hl : l.length ≤ 1048576) : ∀ d j, j + d = l.length → Ev (fun k => spec_l1Rising.l0 k l 0 m (j : Int)) (okFrom m l d j)
  | 0, j, h => by
    apply evshift
    simp only [spec_l1Rising.l0]
    exact evn (by omega) (evs _)
  | d + 1, j, h => by
    have ih := rising_loop l m hl d (j + 1) (by omega)
    apply evshift
    simp only [spec_l1Rising.l0, in_spec, Option.bind_some]
    refine evp (by omega) (evp (by omega) ?_)
    simp only [okFrom, okAt]
    by_cases h1 : 0 ≤ rd l (j : Int) ∧ rd l (j : Int) ≤ m
    · refine evp (by simpa using h1) ?_
      rw [decide_eq_true h1, Bool.true_and]
      by_cases h2 : j = 0
      · refine evn (by omega) ?_
        rw [wnext j (by omega), decide_eq_true h2, Bool.true_or, Bool.true_and]
        exact ih
      · refine evp (by omega) ?_
        rw [w64 (by omega) (by omega)]
        refine evp (by omega) (evp (by omega) ?_)
        by_cases h3 : rd l ((j : Int) - 1) < rd l (j : Int)
        · refine evn (by omega) ?_
          rw [wnext j (by omega)]
          simpa [h3] using ih
        · refine evp (by omega) ?_
          simpa [h2, h3] using evs false
    · refine evn (by simpa using h1) ?_
      simpa [h1] using evs false
theorem ev_rising (l : List Int) (m : Int) (hl : l.length ≤ 1048576) : Ev (fun k => spec_l1Rising.f k l 0 m) (okFrom m l l.length 0) := by
  unfold spec_l1Rising.f
  exact rising_loop l m hl l.length 0 (by omega)
theorem ev_l2Row (n : Int) (ring : Bool) (l : List Int) (hl : l.length ≤ 1048576) : Ev (fun k => spec_l2Row.f k n ring l) (rowB n ring l) := by
  unfold spec_l2Row.f
  simp only [in_spec, Option.bind_some, rowB]
  by_cases h1 : 2 ≤ n ∧ n ≤ 24
  · refine evp (by simpa using h1) ?_
    rw [w64 (by omega) (by omega)]
    cases ring with
    | true =>
      refine evp rfl ?_
      by_cases h2 : n > 2
      · refine evp h2 (evb (ev_rising l _ hl) ?_)
        have h3 : 3 ≤ n := by omega
        simpa [h1, h3] using evs _
      · refine evn h2 ?_
        have h3 : ¬ 3 ≤ n := by omega
        simpa [h3] using evs false
    | false =>
      refine evn (by simp) (evb (ev_rising l _ hl) ?_)
      simpa [h1] using evs _
  · refine evn (by simpa using h1) ?_
    simpa [h1] using evs false
theorem ev_l2Seat (n : Int) (ring : Bool) (l : List Int) (p : Int) (hl : l.length ≤ 1048576) : Ev (fun k => spec_l2Seat.f k n ring l p) (rowB n ring l && decide (0 ≤ p ∧ p ≤ n - 1)) := by
  unfold spec_l2Seat.f
  refine evb (ev_l2Row n ring l hl) ?_
  by_cases h : rowB n ring l = true
  · have ok := rowB_ok h
    have := ok.lo; have := ok.hi
    refine evp h ?_
    simp only [in_spec, Option.bind_some]
    rw [w64 (by omega) (by omega), h, Bool.true_and]
    exact evs _
  · refine evn h ?_
    rw [Bool.not_eq_true] at h
    rw [h, Bool.false_and]
    exact evs _
theorem l1Has_loop (l : List Int) (x : Int) (hl : l.length ≤ 1048576) : ∀ d j, j + d = l.length → Ev (fun k => spec_l1Has.l0 k l x (j : Int)) (decide (x ∈ l.drop j))
  | 0, j, h => by
    apply evshift
    simp only [spec_l1Has.l0]
    refine evn (by omega) ?_
    rw [List.drop_eq_nil_of_le (by omega)]
    simpa using evs false
  | d + 1, j, h => by
    have ih := l1Has_loop l x hl d (j + 1) (by omega)
    apply evshift
    simp only [spec_l1Has.l0]
    refine evp (by omega) (evp (by omega) ?_)
    rw [drop_cons (by omega : j < l.length)]
    by_cases h1 : rd l (j : Int) = x
    · refine evp h1 ?_
      simpa [h1] using evs true
    · refine evn h1 ?_
      have h2 : ¬ x = rd l (j : Int) := fun h => h1 h.symm
      rw [wnext j (by omega)]
      simpa [h2] using ih
theorem ev_l1Has (l : List Int) (x : Int) (hl : l.length ≤ 1048576) : Ev (fun k => spec_l1Has.f k l x) (decide (x ∈ l)) := by
  unfold spec_l1Has.f
  have h := l1Has_loop l x hl l.length 0 (by omega)
  simpa using h
theorem ev_l2Is (n : Int) (ring : Bool) (l : List Int) (x : Int) (hl : l.length ≤ 1048576) : Ev (fun k => spec_l2Is.f k n ring l x) (decide (x ∈ l)) := by
  unfold spec_l2Is.f
  exact evb (ev_l1Has l x hl) (evs _)
theorem in_impl (a lo hi : Int) : impl_within.f a lo hi = some (decide (lo ≤ a ∧ a ≤ hi)) := by
  unfold impl_within.f
  split
  · congr 1; simp; omega
  · congr 1; simp; omega
theorem allWithin_loop (l : List Int) (lo hi : Int) (hl : l.length ≤ 1048576) : ∀ d j, j + d = l.length → Ev (fun k => impl_allWithin.l0 k lo hi l (l.length : Int) (j : Int)) ((l.drop j).all fun x => decide (lo ≤ x ∧ x ≤ hi))
  | 0, j, h => by
    apply evshift
    simp only [impl_allWithin.l0]
    refine evn (by omega) ?_
    rw [List.drop_eq_nil_of_le (by omega)]
    exact evs _
  | d + 1, j, h => by
    have ih := allWithin_loop l lo hi hl d (j + 1) (by omega)
    apply evshift
    simp only [impl_allWithin.l0, in_impl, Option.bind_some]
    refine evp (by omega) (evp (by omega) (evp (by omega) ?_))
    rw [drop_cons (by omega : j < l.length), List.all_cons]
    by_cases h1 : lo ≤ rd l (j : Int) ∧ rd l (j : Int) ≤ hi
    · refine evp (by simpa using h1) ?_
      rw [wnext j (by omega)]
      simpa [h1] using ih
    · refine evn (by simpa using h1) ?_
      simpa [h1] using evs false
theorem ev_allWithin (l : List Int) (lo hi : Int) (hl : l.length ≤ 1048576) : Ev (fun k => impl_allWithin.f k l lo hi) (l.all fun x => decide (lo ≤ x ∧ x ≤ hi)) := by
  unfold impl_allWithin.f
  have h := allWithin_loop l lo hi hl l.length 0 (by omega)
  simpa using h
theorem ev_benchHas (n : Int) (ring : Bool) (l : List Int) (hl : l.length ≤ 1048576) : Ev (fun k => impl_bench_has.f k n ring l) (l.all fun x => decide (0 ≤ x ∧ x ≤ wrap64 (n - 1))) := by
  unfold impl_bench_has.f
  exact evb (ev_allWithin l 0 _ hl) (evs _)
theorem benchValid (n : Int) (ring : Bool) : impl_bench_valid.f n ring = some (decide (2 ≤ n ∧ n ≤ 24) && (!ring || decide (3 ≤ n))) := by
  unfold impl_bench_valid.f
  simp only [in_impl, Option.bind_some]
  by_cases h1 : 2 ≤ n ∧ n ≤ 24
  · rw [if_pos (by simpa using h1)]
    cases ring <;> simp [h1]
  · rw [if_neg (by simpa using h1)]
    simp [h1]
theorem isRow_loop (n : Int) (ring : Bool) (l : List Int) (hl : l.length ≤ 1048576) : ∀ d j, j + d = l.length →
    Ev (fun k => impl_IsRow.l0 k l (l.length : Int) (j : Int) n ring l) (okFrom (wrap64 (n - 1)) l d j && (decide (2 ≤ n ∧ n ≤ 24) && (!ring || decide (3 ≤ n))))
  | 0, j, h => by
    apply evshift
    simp only [impl_IsRow.l0, impl_Row_bench.f, Option.bind_some, benchValid]
    refine evn (by omega) ?_
    simpa [okFrom] using evs _
  | d + 1, j, h => by
    have ih := isRow_loop n ring l hl d (j + 1) (by omega)
    apply evshift
    simp only [impl_IsRow.l0, impl_Row_bench.f, Option.bind_some]
    refine evp (by omega) (evp (by omega) (evp (by omega) ?_))
    refine evb (ev_benchHas n ring [rd l (j : Int)] (by simp)) ?_
    simp only [okFrom, okAt, List.all_cons, List.all_nil, Bool.and_true]
    by_cases h1 : 0 ≤ rd l (j : Int) ∧ rd l (j : Int) ≤ wrap64 (n - 1)
    · refine evp (by simpa using h1) ?_
      rw [decide_eq_true h1, Bool.true_and]
      by_cases h2 : j = 0
      · refine evn (by omega) ?_
        rw [wnext j (by omega), decide_eq_true h2, Bool.true_or, Bool.true_and]
        exact ih
      · refine evp (by omega) ?_
        rw [w64 (by omega) (by omega)]
        refine evp (by omega) (evp (by omega) ?_)
        by_cases h3 : rd l ((j : Int) - 1) < rd l (j : Int)
        · refine evn (by omega) ?_
          rw [wnext j (by omega)]
          simpa [h3] using ih
        · refine evp (by omega) ?_
          simpa [h2, h3] using evs false
    · refine evn (by simpa using h1) ?_
      simpa [h1] using evs false
theorem ev_isRow (n : Int) (ring : Bool) (l : List Int) (hl : l.length ≤ 1048576) : Ev (fun k => impl_IsRow.f k n ring l) (rowB n ring l) := by
  unfold impl_IsRow.f
  refine eve (isRow_loop n ring l hl l.length 0 (by omega)) ?_
  unfold rowB
  by_cases h1 : 2 ≤ n ∧ n ≤ 24
  · rw [w64 (by omega) (by omega)]
    cases okFrom (n - 1) l l.length 0 <;> simp [h1]
  · simp [h1]
theorem ev_isSeat (n : Int) (ring : Bool) (l ps : List Int) (hl : l.length ≤ 1048576) (hp : ps.length ≤ 1048576) : Ev (fun k => impl_isSeat.f k n ring l ps) (rowB n ring l && ps.all fun p => decide (0 ≤ p ∧ p ≤ n - 1)) := by
  unfold impl_isSeat.f
  refine evb (ev_isRow n ring l hl) ?_
  by_cases h : rowB n ring l = true
  · have ok := rowB_ok h
    have := ok.lo; have := ok.hi
    refine evp h ?_
    simp only [impl_Row_bench.f, Option.bind_some]
    refine evb (ev_benchHas n ring ps hp) ?_
    rw [w64 (by omega) (by omega), h, Bool.true_and]
    exact evs _
  · refine evn h ?_
    rw [Bool.not_eq_true] at h
    rw [h, Bool.false_and]
    exact evs _
theorem setOf_loop (l : List Int) (hm : ∀ x ∈ l, 0 ≤ x ∧ x < 32) (hl : l.length ≤ 1048576) : ∀ d j (P : Nat → Bool), j + d = l.length →
    Ev (fun k => impl_setOf.l0 k (M P : Int) l (l.length : Int) (j : Int)) (M (fun i => P i || decide ((i : Int) ∈ l.drop j)) : Int)
  | 0, j, P, h => by
    apply evshift
    simp only [impl_setOf.l0]
    refine evn (by omega) ?_
    rw [List.drop_eq_nil_of_le (by omega)]
    simpa using evs _
  | d + 1, j, P, h => by
    apply evshift
    simp only [impl_setOf.l0]
    have hr := hm _ (rd_mem (by omega : j < l.length))
    refine evp (by omega) (evp (by omega) (evp (by omega) (evp (by omega) ?_)))
    obtain ⟨p, hp⟩ : ∃ p : Nat, rd l (j : Int) = (p : Int) := ⟨(rd l (j : Int)).toNat, by omega⟩
    rw [hp] at hr
    rw [hp, M_one (by omega), M_or, wnext j (by omega)]
    refine eve (setOf_loop l hm hl d (j + 1) _ (by omega)) ?_
    rw [drop_cons (by omega : j < l.length), hp]
    refine congrArg _ (M_congr fun i _ => ?_)
    by_cases e : i = p
    · subst e; simp
    · have : ¬ (i : Int) = (p : Int) := by omega
      simp [e, this]
theorem ev_setOf (l : List Int) (hm : ∀ x ∈ l, 0 ≤ x ∧ x < 32) (hl : l.length ≤ 1048576) : Ev (fun k => impl_setOf.f k l) (M (fun i => decide ((i : Int) ∈ l)) : Int) := by
  unfold impl_setOf.f
  have h := setOf_loop l hm hl l.length 0 (fun _ => false) (by omega)
  rw [← M_zero] at h
  simpa using h
theorem ev_taken (n : Int) (ring : Bool) (l : List Int) (hm : ∀ x ∈ l, 0 ≤ x ∧ x < 32) (hl : l.length ≤ 1048576) : Ev (fun k => impl_Row_taken.f k n ring l) (M (fun i => decide ((i : Int) ∈ l)) : Int) := by
  unfold impl_Row_taken.f
  exact evb (ev_setOf l hm hl) (evs _)
theorem tz_table : ∀ t : Nat, t < 32 → (0 ≤ ((((2 ^ t : Nat) : Int) * 125613361) % 4294967296) / 134217728) ∧ ((((2 ^ t : Nat) : Int) * 125613361) % 4294967296) / 134217728 < 32 ∧ wrap64 (rd xtab0 (((((2 ^ t : Nat) : Int) * 125613361) % 4294967296) / 134217728)) = (t : Int) := by decide +kernel
theorem tz_at {P : Nat → Bool} {t : Nat} (h32 : t < 32) (ht : P t = true) (hl : ∀ i, i < t → P i = false) : bits_TrailingZeros32.f (M P : Int) = some (t : Int) := by
  have h0 : ¬ ((M P : Nat) : Int) = 0 := fun h => by have := M_eq_zero.1 h t h32; rw [this] at ht; cases ht
  obtain ⟨h1, h2, h3⟩ := tz_table t h32
  unfold bits_TrailingZeros32.f
  rw [if_neg h0, (M_low h32 ht hl).1, if_pos h1, if_pos h2, h3]
theorem list_loop : ∀ (d : Nat) (P : Nat → Bool) (acc : List Int), (sel 32 P).length = d → acc.length + d ≤ 1048576 → Ev (fun k => impl_set_list.l0 k (M P : Int) acc) (acc ++ sel 32 P)
  | 0, P, acc, h, _ => by
    have hn : sel 32 P = [] := List.eq_nil_of_length_eq_zero h
    have hz : ∀ i, i < 32 → P i = false := fun i hi => by
      cases hp : P i with
      | false => rfl
      | true =>
        have : (i : Int) ∈ sel 32 P := mem_sel.2 ⟨i, hi, hp, rfl⟩
        rw [hn] at this; cases this
    apply evshift
    simp only [impl_set_list.l0]
    refine evp (M_eq_zero.2 hz) ?_
    rw [hn, List.append_nil]
    exact evs _
  | d + 1, P, acc, h, hb => by
    have hex : ∃ i, i < 32 ∧ P i = true := by
      rcases Classical.em (∃ i, i < 32 ∧ P i = true) with h1 | h1
      · exact h1
      · have : sel 32 P = [] := sel_none fun i hi => by
          cases hp : P i with
          | false => rfl
          | true => exact absurd ⟨i, hi, hp⟩ h1
        rw [this] at h; cases h
    obtain ⟨t, h1, h2, h3⟩ := least_of hex
    have hs := sel_low h1 h2 h3
    have h0 : ¬ ((M P : Nat) : Int) = 0 := fun h => by have := M_eq_zero.1 h t h1; rw [this] at h2; cases h2
    apply evshift
    simp only [impl_set_list.l0, tz_at h1 h2 h3, Option.bind_some, (M_low h1 h2 h3).2]
    refine evn h0 (evp (by omega) ?_)
    rw [hs, List.length_cons] at h
    refine eve (list_loop d _ (acc ++ [(t : Int)]) (by omega) (by rw [List.length_append, List.length_singleton]; omega)) ?_
    rw [hs, List.append_assoc]; rfl
theorem ev_list (P : Nat → Bool) : Ev (fun k => impl_set_list.f k (M P : Int)) (sel 32 P) := by
  unfold impl_set_list.f
  have h := list_loop _ P [] rfl (by have := sel_len_le 32 P; simp; omega)
  simpa using h
theorem ev_benchRow (n : Int) (ring : Bool) (P : Nat → Bool) : Ev (fun k => impl_bench_row.f k n ring (M P : Int)) (n, ring, sel 32 P) := by
  unfold impl_bench_row.f
  exact evb (ev_list P) (evs _)
theorem setHas {P : Nat → Bool} {p : Nat} (h : p < 32) : impl_set_has.f (M P : Int) (p : Int) = some (P p) := by
  unfold impl_set_has.f
  rw [if_pos (by omega), M_has h]
  cases P p <;> rfl
theorem part_at (m q j : Nat) (h : q ≤ 1048576) (h' : j ≤ 1048576) : Int.tmod (wrap64 ((q : Int) + (j : Int))) (m : Int) = (((q + j) % m : Nat) : Int) := by
  rw [w64 (by omega) (by omega)]
  rw [show ((q : Int) + (j : Int)) = ((q + j : Nat) : Int) by omega]
  exact (Int.ofNat_tmod _ _).symm
theorem specPart_loop (m : Nat) (ring : Bool) (l : List Int) (q w : Nat) (hl : l.length ≤ 1048576) (hm : 0 < m) (hq : q ≤ 1048576) (hw : w ≤ 1048576) : ∀ d j, j + d = w → Ev (fun k => spec_PartSeats.l0 k (q : Int) (w : Int) (j : Int) (m : Int) ring l (w : Int) false (sel j fun i => decide ((((q + i) % m : Nat) : Int) ∈ l))) ((w : Int), false, sel w fun i => decide ((((q + i) % m : Nat) : Int) ∈ l), true)
  | 0, j, h => by
    obtain rfl : j = w := by omega
    apply evshift
    simp only [spec_PartSeats.l0]
    exact evn (by omega) (evs _)
  | d + 1, j, h => by
    have ih := specPart_loop m ring l q w hl hm hq hw d (j + 1) (by omega)
    have hs := sel_len_le j fun i => decide ((((q + i) % m : Nat) : Int) ∈ l)
    rw [sel_succ] at ih
    apply evshift
    simp only [spec_PartSeats.l0]
    rw [part_at m q j hq (by omega)]
    refine evp (by omega) (evn (by omega) (evb (ev_l2Is _ ring l _ hl) ?_))
    rw [wnext j (by omega)]
    by_cases c : (((q + j) % m : Nat) : Int) ∈ l
    · rw [if_pos (by simpa using c)] at ih
      exact evp (by simpa using c) (evp (by omega) ih)
    · rw [if_neg (by simpa using c), List.append_nil] at ih
      exact evn (by simpa using c) ih
theorem implPart_loop (m : Nat) (ring : Bool) (l : List Int) (q w : Nat) (hl : l.length ≤ 1048576) (h32 : ∀ x ∈ l, 0 ≤ x ∧ x < 32) (hm : 0 < m) (hm' : m ≤ 32) (hq : q ≤ 1048576) (hw : w ≤ 32) : ∀ d j, j + d = w → Ev (fun k => impl_PartSeats.l0 k (q : Int) (w : Int) (M (fun i => decide (i < j) && decide ((((q + i) % m : Nat) : Int) ∈ l)) : Int) (w : Int) (j : Int) (m : Int) ring l) ((w : Int), false, sel w fun i => decide ((((q + i) % m : Nat) : Int) ∈ l), true)
  | 0, j, h => by
    obtain rfl : j = w := by omega
    have hr := ev_benchRow (j : Int) false fun i => decide (i < j) && decide ((((q + i) % m : Nat) : Int) ∈ l)
    rw [sel_32 hw] at hr
    apply evshift
    simp only [impl_PartSeats.l0]
    exact evn (by omega) (evb hr (evs _))
  | d + 1, j, h => by
    have ih := implPart_loop m ring l q w hl h32 hm hm' hq hw d (j + 1) (by omega)
    have hlt : (q + j) % m < m := Nat.mod_lt _ hm
    apply evshift
    simp only [impl_PartSeats.l0]
    rw [part_at m q j hq (by omega)]
    refine evp (by omega) (evb (ev_taken _ ring l h32 hl) (evn (by omega) (evc (setHas (by omega)) ?_)))
    rw [wnext j (by omega)]
    by_cases c : (((q + j) % m : Nat) : Int) ∈ l
    · refine evp (by simpa using c) (evp (by omega) ?_)
      rw [M_one (by omega : j < 32), M_or]
      rw [M_congr (P := fun i => decide (i < j + 1) && decide ((((q + i) % m : Nat) : Int) ∈ l)) (Q := fun i => (decide (i < j) && decide ((((q + i) % m : Nat) : Int) ∈ l)) || decide (i = j)) fun i _ => ?_] at ih
      · exact ih
      · by_cases e : i = j
        · subst e; simp at c; simp [c]
        · simp only [e, decide_false, Bool.or_false]
          congr 1
          simp; omega
    · refine evn (by simpa using c) ?_
      rw [M_congr (P := fun i => decide (i < j + 1) && decide ((((q + i) % m : Nat) : Int) ∈ l)) (Q := fun i => decide (i < j) && decide ((((q + i) % m : Nat) : Int) ∈ l)) fun i _ => ?_] at ih
      · exact ih
      · by_cases e : i = j
        · subst e; simp at c; simp [c]
        · congr 1
          simp; omega
theorem partNo (n : Int) (ring : Bool) (l : List Int) (p w : Int) : Ev (fun k => spec_PartSeats.j0 k p w true n ring l) (0, false, [], false) ∧ Ev (fun k => impl_PartSeats.j0 k p w true n ring l) (0, false, [], false) := by
  constructor
  · apply evshift; simp only [spec_PartSeats.j0]; exact evp (by simp) (evs _)
  · apply evshift; simp only [impl_PartSeats.j0]; exact evp (by simp) (evs _)
theorem bothPartSeats (n : Int) (ring : Bool) (l : List Int) (p w : Int) (hl : l.length ≤ 1048576) : ∃ n' b' R ok, Ev (fun k => spec_PartSeats.f k n ring l p w) (n', b', R, ok) ∧ Ev (fun k => impl_PartSeats.f k n ring l p w) (n', b', R, ok) ∧ R.length ≤ 1048576 := by
  have hS := ev_l2Seat n ring l p hl
  have hI := ev_isSeat n ring l [p] hl (by simp)
  rw [show ([p].all fun p => decide (0 ≤ p ∧ p ≤ n - 1)) = decide (0 ≤ p ∧ p ≤ n - 1) by simp] at hI
  have no := partNo n ring l p w
  unfold spec_PartSeats.f impl_PartSeats.f
  cases hb : (rowB n ring l && decide (0 ≤ p ∧ p ≤ n - 1)) with
  | false =>
    rw [hb] at hS hI
    exact ⟨0, false, [], false, evb hS (evn (by simp) no.1), evb hI (evn (by simp) no.2), by simp⟩
  | true =>
    rw [hb] at hS hI
    simp only [Bool.and_eq_true, decide_eq_true_eq] at hb
    have ok := rowB_ok hb.1
    have := ok.lo; have := ok.hi
    by_cases hw : 2 ≤ w ∧ w ≤ n
    · obtain ⟨m, rfl⟩ : ∃ m : Nat, n = m := ⟨n.toNat, by omega⟩
      obtain ⟨q, rfl⟩ : ∃ q : Nat, p = q := ⟨p.toNat, by omega⟩
      obtain ⟨v, rfl⟩ : ∃ v : Nat, w = v := ⟨w.toNat, by omega⟩
      have hs := sel_len_le v fun i => decide ((((q + i) % m : Nat) : Int) ∈ l)
      have hz := specPart_loop m ring l q v hl (by omega) (by omega) (by omega) v 0 (by omega)
      have hi := implPart_loop m ring l q v hl ok.m32 (by omega) (by omega) (by omega) (by omega) v 0 (by omega)
      rw [M_congr (P := fun i => decide (i < 0) && decide ((((q + i) % m : Nat) : Int) ∈ l)) (Q := fun _ => false) fun i _ => by simp, ← M_zero] at hi
      have yes : Ev (fun k => spec_PartSeats.j0 k (q : Int) (v : Int) false (m : Int) ring l) ((v : Int), false, sel v fun i => decide ((((q + i) % m : Nat) : Int) ∈ l), true) ∧ Ev (fun k => impl_PartSeats.j0 k (q : Int) (v : Int) false (m : Int) ring l) ((v : Int), false, sel v fun i => decide ((((q + i) % m : Nat) : Int) ∈ l), true) := by
        constructor
        · apply evshift; simp only [spec_PartSeats.j0]; exact evn (by simp) hz
        · apply evshift; simp only [impl_PartSeats.j0]; exact evn (by simp) hi
      have w1 : wrap64 ((q : Int) + (v : Int)) = (q : Int) + (v : Int) := w64 (by omega) (by omega)
      by_cases hr : ring = true
      · exact ⟨_, _, _, _, evb hS (evp rfl (evc (in_spec _ _ _) (evp (by simpa using hw) (evp hr yes.1)))), evb hI (evp rfl (evc (in_impl _ _ _) (evp (by simpa using hw) (evp hr yes.2)))), by omega⟩
      · by_cases hg : (q : Int) + (v : Int) > (m : Int)
        · exact ⟨_, _, _, _, evb hS (evp rfl (evc (in_spec _ _ _) (evp (by simpa using hw) (evn hr (by rw [w1, decide_eq_true hg]; exact no.1))))), evb hI (evp rfl (evc (in_impl _ _ _) (evp (by simpa using hw) (evn hr (by rw [w1, decide_eq_true hg]; exact no.2))))), by simp⟩
        · exact ⟨_, _, _, _, evb hS (evp rfl (evc (in_spec _ _ _) (evp (by simpa using hw) (evn hr (by rw [w1, decide_eq_false hg]; exact yes.1))))), evb hI (evp rfl (evc (in_impl _ _ _) (evp (by simpa using hw) (evn hr (by rw [w1, decide_eq_false hg]; exact yes.2))))), by omega⟩
    · exact ⟨_, _, _, _, evb hS (evp rfl (evc (in_spec _ _ _) (evn (by simpa using hw) no.1))), evb hI (evp rfl (evc (in_impl _ _ _) (evn (by simpa using hw) no.2))), by simp⟩
theorem FnExactPartSeats : laws_FnExactPartSeats.Pure := by
  intro n ring l a b _ hm _ _ _
  refine Ev.rounds (g := fun k => laws_FnExactPartSeats.f k n ring l a b) ?_
  unfold laws_FnExactPartSeats.f
  by_cases hl : l.length ≤ 1048576
  · obtain ⟨n', b', R, ok, hS, hI, hR⟩ := bothPartSeats n ring l a b hl
    refine evc (szRow_ok (by omega) (by omega)) ?_
    repeat (first
      | exact evs true
      | (with_reducible refine evb hS ?_)
      | (with_reducible refine evb hI ?_)
      | (with_reducible refine evb (ev_toIntS _ (by assumption)) ?_)
      | (with_reducible refine evb (ev_toRow _ _ _ (by assumption)) ?_)
      | (with_reducible refine evb (ev_eqIntS _ (by assumption)) ?_)
      | (with_reducible refine evb (ev_eqRow _ _ _ (by assumption)) ?_)
      | (with_reducible refine evb (ev_markIntS _ _ (by assumption) (by omega) (by omega)) ?_)
      | (with_reducible refine evb (ev_markRow _ _ _ _ (by assumption) (by omega) (by omega)) ?_)
      | (with_reducible refine evb (ev_heldIntS _ _ (by assumption) (by omega) (by omega)) ?_)
      | (with_reducible refine evb (ev_heldRow _ _ _ _ (by assumption) (by omega) (by omega)) ?_)
      | (with_reducible show Ev (fun k => laws_FnExactPartSeats.j0 k _ _ _ _ _ _ _ _ _ _ _ _ _ _ _ _ _) _; apply evshift; simp only [laws_FnExactPartSeats.j0])
      | (with_reducible show Ev (fun k => laws_FnExactPartSeats.j1 k _ _ _ _ _ _ _ _ _ _ _ _ _) _; apply evshift; simp only [laws_FnExactPartSeats.j1])
      | (with_reducible show Ev (fun k => laws_FnExactPartSeats.j2 k _ _ _ _ _) _; apply evshift; simp only [laws_FnExactPartSeats.j2])
      | (refine evp ?hc ?_; (case hc => first | omega | (simp; done)))
      | (refine evn ?hc ?_; (case hc => first | omega | (simp; done)))
      | dsimp only)
  · exact evc (szRow_big (by omega) hm) (evp (by omega) (evs _))

end Go.Proofs.YtpbpknfmhnjgcaaDoor.Pure
