/- The law laws.FnExactJoinSeats, told as plain Lean functions of numbers, lists and strings, answers true for every input, if enough rounds are given: the program's JoinSeats answers what the reference's answers. Conditions: none but the kinds' own (each number one of its kind, each length one that the model reads). -/
import Derived.Test.YtdbdmdegnmoblaaDoorPFnExactJoinSeatsx7
import Derived.Test.YtdbdmdegnmoblaaDoorSFnExactJoinSeats
namespace Go.Proofs.YtdbdmdegnmoblaaDoor.Pure
open Go.RowKit Go.Proofs.YtdbdmdegnmoblaaDoor.PFnExactJoinSeats Go.Proofs.YtdbdmdegnmoblaaDoorW.PrintWords Go.Proofs.YtdbdmdegnmoblaaDoorW.PrintLast Go.Proofs.YtdbdmdegnmoblaaDoorW.PrintMore Go.Proofs.YtdbdmdegnmoblaaDoor.Base

theorem sz_big {l : List Int} (h : 1048576 < l.length) (hm : l.length ≤ maxLen) : laws_szIntS.f l 1048576 = some (-1) := by
  unfold maxLen at hm
  unfold laws_szIntS.f
  rw [w64 (by omega) (by omega), if_pos (by omega)]
theorem sz_ok {l : List Int} {m : Int} (h : (l.length : Int) ≤ m) (hm : m ≤ 1048576) : laws_szIntS.f l m = some (m - l.length) := by
  unfold laws_szIntS.f
  rw [w64 (by omega) (by omega), if_neg (by omega)]
theorem szRow_big {a : Int} {b : Bool} {l : List Int} (h : 1048576 < l.length) (hm : l.length ≤ maxLen) : laws_szRow.f a b l 1048576 = some (-1) := by
  unfold laws_szRow.f
  rw [sz_big h hm]
  rfl
theorem szRow_ok {a : Int} {b : Bool} {l : List Int} {m : Int} (h : (l.length : Int) ≤ m) (hm : m ≤ 1048576) : laws_szRow.f a b l m = some (m - l.length) := by
  unfold laws_szRow.f
  rw [sz_ok h hm]
  simp only [Option.bind_some]
  rw [if_neg (by omega)]
theorem toIntS_loop (l : List Int) (hl : l.length ≤ 1048576) : ∀ d j, j + d = l.length → Ev (fun k => laws_toIntS.l0 k l (l.take j ++ List.replicate (l.length - j) 0) (j : Int)) l
  | 0, j, h => by
    apply evshift
    simp only [laws_toIntS.l0]
    refine evn (by omega) ?_
    have e : l.take j ++ List.replicate (l.length - j) 0 = l := by rw [show j = l.length by omega]; simp
    rw [e]
    exact evs _
  | d + 1, j, h => by
    have ih := toIntS_loop l hl d (j + 1) (by omega)
    apply evshift
    simp only [laws_toIntS.l0]
    refine evp (by omega) (evp (by omega) (evp (by simp; omega) ?_))
    rw [Int.toNat_natCast, set_copy l j (by omega), wnext j (by omega)]
    exact ih
theorem ev_toIntS (l : List Int) (hl : l.length ≤ 1048576) : Ev (fun k => laws_toIntS.f k l) l := by
  unfold laws_toIntS.f
  refine evp (by omega) (evp (by omega) ?_)
  have h := toIntS_loop l hl l.length 0 (by omega)
  simpa using h
theorem ev_toRow (a : Int) (b : Bool) (l : List Int) (hl : l.length ≤ 1048576) : Ev (fun k => laws_toRow.f k a b l) (a, b, l) := by
  unfold laws_toRow.f
  exact evb (ev_toIntS l hl) (evs _)
theorem eqIntS_loop (l : List Int) (hl : l.length ≤ 1048576) : ∀ d j, j + d = l.length → Ev (fun k => laws_eqIntS.l0 k l l (j : Int)) true
  | 0, j, h => by
    apply evshift
    simp only [laws_eqIntS.l0]
    exact evn (by omega) (evs _)
  | d + 1, j, h => by
    have ih := eqIntS_loop l hl d (j + 1) (by omega)
    apply evshift
    simp only [laws_eqIntS.l0]
    refine evp (by omega) (evp (by omega) (evp (by omega) (evp (by trivial) ?_)))
    rw [wnext j (by omega)]
    exact ih
theorem ev_eqIntS (l : List Int) (hl : l.length ≤ 1048576) : Ev (fun k => laws_eqIntS.f k l l) true := by
  unfold laws_eqIntS.f
  exact evp (by trivial) (eqIntS_loop l hl l.length 0 (by omega))
theorem ev_eqRow (a : Int) (b : Bool) (l : List Int) (hl : l.length ≤ 1048576) : Ev (fun k => laws_eqRow.f k a b l a b l) true := by
  unfold laws_eqRow.f
  refine evp (by simp) (evn (by simp) ?_)
  exact evb (ev_eqIntS l hl) (evp (by trivial) (evs _))
theorem markIntS_loop (l : List Int) (m : Int) (hl : l.length ≤ 1048576) (h0 : 0 ≤ m) (hm : m ≤ 1099511627776) : ∀ d j, j + d = l.length → Ev (fun k => laws_markIntS.l0 k (marks m j ++ l.drop j) (m + (j : Int)) (j : Int)) (m + (l.length : Int), marks m l.length)
  | 0, j, h => by
    obtain rfl : j = l.length := by omega
    apply evshift
    simp only [laws_markIntS.l0]
    refine evn (by simp [marks_len]) ?_
    simp only [List.drop_length, List.append_nil]
    exact evs _
  | d + 1, j, h => by
    have ih := markIntS_loop l m hl h0 hm d (j + 1) (by omega)
    apply evshift
    simp only [laws_markIntS.l0]
    refine evp (by simp [marks_len]; omega) (evp (by omega) ?_)
    rw [Int.toNat_natCast, set_marks m l j (by omega), wnext j (by omega), w64 (by omega) (by omega), show m + (j : Int) + 1 = m + ((j + 1 : Nat) : Int) by omega]
    exact ih
theorem ev_markIntS (l : List Int) (m : Int) (hl : l.length ≤ 1048576) (h0 : 0 ≤ m) (hm : m ≤ 1099511627776) : Ev (fun k => laws_markIntS.f k l m) (m + (l.length : Int), marks m l.length) := by
  unfold laws_markIntS.f
  have h := markIntS_loop l m hl h0 hm l.length 0 (by omega)
  simpa [marks] using h
theorem ev_markRow (a : Int) (b : Bool) (l : List Int) (m : Int) (hl : l.length ≤ 1048576) (h0 : 0 ≤ m) (hm : m ≤ 1099511627776) : Ev (fun k => laws_markRow.f k a b l m) (m + (l.length : Int), marks m l.length) := by
  unfold laws_markRow.f
  exact evb (ev_markIntS l m hl h0 hm) (evs _)
theorem heldIntS_loop (n : Nat) (m : Int) (hn : n ≤ 1048576) (h0 : 0 ≤ m) (hm : m ≤ 1099511627776) : ∀ d j, j + d = n → Ev (fun k => laws_heldIntS.l0 k (marks m n) (m + (j : Int)) (j : Int)) (m + (n : Int))
  | 0, j, h => by
    obtain rfl : j = n := by omega
    apply evshift
    simp only [laws_heldIntS.l0]
    exact evn (by rw [marks_len]; omega) (evs _)
  | d + 1, j, h => by
    have ih := heldIntS_loop n m hn h0 hm d (j + 1) (by omega)
    apply evshift
    simp only [laws_heldIntS.l0]
    refine evp (by rw [marks_len]; omega) (evp (by omega) (evp (rd_marks (by omega)) ?_))
    rw [wnext j (by omega), w64 (by omega) (by omega), show m + (j : Int) + 1 = m + ((j + 1 : Nat) : Int) by omega]
    exact ih
theorem ev_heldIntS (n : Nat) (m : Int) (hn : n ≤ 1048576) (h0 : 0 ≤ m) (hm : m ≤ 1099511627776) : Ev (fun k => laws_heldIntS.f k (marks m n) m) (m + (n : Int)) := by
  unfold laws_heldIntS.f
  have h := heldIntS_loop n m hn h0 hm n 0 (by omega)
  simpa using h
theorem ev_heldRow (a : Int) (b : Bool) (n : Nat) (m : Int) (hn : n ≤ 1048576) (h0 : 0 ≤ m) (hm : m ≤ 1099511627776) : Ev (fun k => laws_heldRow.f k a b (marks m n) m) (m + (n : Int)) := by
  unfold laws_heldRow.f
  exact evb (ev_heldIntS n m hn h0 hm) (evn (by omega) (evs _))
theorem in_spec (a lo hi : Int) : spec_l1In.f a lo hi = some (decide (lo ≤ a ∧ a ≤ hi)) := by
  unfold spec_l1In.f
  split
  · congr 1; simp; omega
  · congr 1; simp; omega
theorem rising_loop (l : List Int) (m : Int) (hl : l.length ≤ 1048576) : ∀ d j, j + d = l.length → Ev (fun k => spec_l1Rising.l0 k l 0 m (j : Int)) (okFrom m l d j)
  | 0, j, h => by
    apply evshift
    simp only [spec_l1Rising.l0]
    exact evn (by omega) (evs _)
  | d + 1, j, h => by
    have ih := rising_loop l m hl d (j + 1) (by omega)
    apply evshift
    simp only [spec_l1Rising.l0, in_spec, Option.bind_some]
    refine evp (by omega) (evp (by omega) ?_)
    simp only [okFrom, okAt]
    by_cases h1 : 0 ≤ rd l (j : Int) ∧ rd l (j : Int) ≤ m
    · refine evp (by simpa using h1) ?_
      rw [decide_eq_true h1, Bool.true_and]
      by_cases h2 : j = 0
      · refine evn (by omega) ?_
        rw [wnext j (by omega), decide_eq_true h2, Bool.true_or, Bool.true_and]
        exact ih
      · refine evp (by omega) ?_
        rw [w64 (by omega) (by omega)]
        refine evp (by omega) (evp (by omega) ?_)
        by_cases h3 : rd l ((j : Int) - 1) < rd l (j : Int)
        · refine evn (by omega) ?_
          rw [wnext j (by omega)]
          simpa [h3] using ih
        · refine evp (by omega) ?_
          simpa [h2, h3] using evs false
    · refine evn (by simpa using h1) ?_
      simpa [h1] using evs false
theorem ev_rising (l : List Int) (m : Int) (hl : l.length ≤ 1048576) : Ev (fun k => spec_l1Rising.f k l 0 m) (okFrom m l l.length 0) := by
  unfold spec_l1Rising.f
  exact rising_loop l m hl l.length 0 (by omega)
theorem ev_l2Row (n : Int) (ring : Bool) (l : List Int) (hl : l.length ≤ 1048576) : Ev (fun k => spec_l2Row.f k n ring l) (rowB n ring l) := by
  unfold spec_l2Row.f
  simp only [in_spec, Option.bind_some, rowB]
  by_cases h1 : 2 ≤ n ∧ n ≤ 24
  · refine evp (by simpa using h1) ?_
    rw [w64 (by omega) (by omega)]
    cases ring with
    | true =>
      refine evp rfl ?_
      by_cases h2 : n > 2
      · refine evp h2 (evb (ev_rising l _ hl) ?_)
        have h3 : 3 ≤ n := by omega
        simpa [h1, h3] using evs _
      · refine evn h2 ?_
        have h3 : ¬ 3 ≤ n := by omega
        simpa [h3] using evs false
    | false =>
      refine evn (by simp) (evb (ev_rising l _ hl) ?_)
      simpa [h1] using evs _
  · refine evn (by simpa using h1) ?_
    simpa [h1] using evs false
theorem l1Own (l : List Int) (hl : l.length ≤ 1048576) : spec_l1Own.f l = some l := by
  unfold spec_l1Own.f
  simp only [Option.bind_some, List.length_nil, List.nil_append]
  rw [if_pos (by omega)]
theorem ev_l2Kept (n : Int) (ring : Bool) (l : List Int) (hl : l.length ≤ 1048576) : Ev (fun k => spec_l2Kept.f k n ring l) (if rowB n ring l = true then (n, ring, l, true) else (0, false, [], false)) := by
  unfold spec_l2Kept.f
  refine evb (ev_l2Row n ring l hl) ?_
  by_cases h : rowB n ring l = true
  · exact evt h (evp h (evs _))
  · exact evf h (evn h (evs _))
theorem in_impl (a lo hi : Int) : impl_within.f a lo hi = some (decide (lo ≤ a ∧ a ≤ hi)) := by
  unfold impl_within.f
  split
  · congr 1; simp; omega
  · congr 1; simp; omega
theorem allWithin_loop (l : List Int) (lo hi : Int) (hl : l.length ≤ 1048576) : ∀ d j, j + d = l.length → Ev (fun k => impl_allWithin.l0 k lo hi l (l.length : Int) (j : Int)) ((l.drop j).all fun x => decide (lo ≤ x ∧ x ≤ hi))
  | 0, j, h => by
    apply evshift
    simp only [impl_allWithin.l0]
    refine evn (by omega) ?_
    rw [List.drop_eq_nil_of_le (by omega)]
    exact evs _
  | d + 1, j, h => by
    have ih := allWithin_loop l lo hi hl d (j + 1) (by omega)
    apply evshift
    simp only [impl_allWithin.l0, in_impl, Option.bind_some]
    refine evp (by omega) (evp (by omega) (evp (by omega) ?_))
    rw [drop_cons (by omega : j < l.length), List.all_cons]
    by_cases h1 : lo ≤ rd l (j : Int) ∧ rd l (j : Int) ≤ hi
    · refine evp (by simpa using h1) ?_
      rw [wnext j (by omega)]
      simpa [h1] using ih
    · refine evn (by simpa using h1) ?_
      simpa [h1] using evs false
theorem ev_allWithin (l : List Int) (lo hi : Int) (hl : l.length ≤ 1048576) : Ev (fun k => impl_allWithin.f k l lo hi) (l.all fun x => decide (lo ≤ x ∧ x ≤ hi)) := by
  unfold impl_allWithin.f
  have h := allWithin_loop l lo hi hl l.length 0 (by omega)
  simpa using h
theorem ev_benchHas (n : Int) (ring : Bool) (l : List Int) (hl : l.length ≤ 1048576) : Ev (fun k => impl_bench_has.f k n ring l) (l.all fun x => decide (0 ≤ x ∧ x ≤ wrap64 (n - 1))) := by
  unfold impl_bench_has.f
  exact evb (ev_allWithin l 0 _ hl) (evs _)
theorem benchValid (n : Int) (ring : Bool) : impl_bench_valid.f n ring = some (decide (2 ≤ n ∧ n ≤ 24) && (!ring || decide (3 ≤ n))) := by
  unfold impl_bench_valid.f
  simp only [in_impl, Option.bind_some]
  by_cases h1 : 2 ≤ n ∧ n ≤ 24
  · rw [if_pos (by simpa using h1)]
    cases ring <;> simp [h1]
  · rw [if_neg (by simpa using h1)]
    simp [h1]
theorem isRow_loop (n : Int) (ring : Bool) (l : List Int) (hl : l.length ≤ 1048576) : ∀ d j, j + d = l.length →
    Ev (fun k => impl_IsRow.l0 k l (l.length : Int) (j : Int) n ring l) (okFrom (wrap64 (n - 1)) l d j && (decide (2 ≤ n ∧ n ≤ 24) && (!ring || decide (3 ≤ n))))
  | 0, j, h => by
    apply evshift
    simp only [impl_IsRow.l0, impl_Row_bench.f, Option.bind_some, benchValid]
    refine evn (by omega) ?_
    simpa [okFrom] using evs _
  | d + 1, j, h => by
    have ih := isRow_loop n ring l hl d (j + 1) (by omega)
    apply evshift
    simp only [impl_IsRow.l0, impl_Row_bench.f, Option.bind_some]
    refine evp (by omega) (evp (by omega) (evp (by omega) ?_))
    refine evb (ev_benchHas n ring [rd l (j : Int)] (by simp)) ?_
    simp only [okFrom, okAt, List.all_cons, List.all_nil, Bool.and_true]
    by_cases h1 : 0 ≤ rd l (j : Int) ∧ rd l (j : Int) ≤ wrap64 (n - 1)
    · refine evp (by simpa using h1) ?_
      rw [decide_eq_true h1, Bool.true_and]
      by_cases h2 : j = 0
      · refine evn (by omega) ?_
        rw [wnext j (by omega), decide_eq_true h2, Bool.true_or, Bool.true_and]
        exact ih
      · refine evp (by omega) ?_
        rw [w64 (by omega) (by omega)]
        refine evp (by omega) (evp (by omega) ?_)
        by_cases h3 : rd l ((j : Int) - 1) < rd l (j : Int)
        · refine evn (by omega) ?_
          rw [wnext j (by omega)]
          simpa [h3] using ih
        · refine evp (by omega) ?_
          simpa [h2, h3] using evs false
    · refine evn (by simpa using h1) ?_
      simpa [h1] using evs false
theorem ev_isRow (n : Int) (ring : Bool) (l : List Int) (hl : l.length ≤ 1048576) : Ev (fun k => impl_IsRow.f k n ring l) (rowB n ring l) := by
  unfold impl_IsRow.f
  refine eve (isRow_loop n ring l hl l.length 0 (by omega)) ?_
  unfold rowB
  by_cases h1 : 2 ≤ n ∧ n ≤ 24
  · rw [w64 (by omega) (by omega)]
    cases okFrom (n - 1) l l.length 0 <;> simp [h1]
  · simp [h1]
theorem tz_table : ∀ t : Nat, t < 32 → (0 ≤ ((((2 ^ t : Nat) : Int) * 125613361) % 4294967296) / 134217728) ∧ ((((2 ^ t : Nat) : Int) * 125613361) % 4294967296) / 134217728 < 32 ∧ wrap64 (rd xtab0 (((((2 ^ t : Nat) : Int) * 125613361) % 4294967296) / 134217728)) = (t : Int) := by decide +kernel
theorem tz_at {P : Nat → Bool} {t : Nat} (h32 : t < 32) (ht : P t = true) (hl : ∀ i, i < t → P i = false) : bits_TrailingZeros32.f (M P : Int) = some (t : Int) := by
  have h0 : ¬ ((M P : Nat) : Int) = 0 := fun h => by have := M_eq_zero.1 h t h32; rw [this] at ht; cases ht
  obtain ⟨h1, h2, h3⟩ := tz_table t h32
  unfold bits_TrailingZeros32.f
  rw [if_neg h0, (M_low h32 ht hl).1, if_pos h1, if_pos h2, h3]
theorem list_loop : ∀ (d : Nat) (P : Nat → Bool) (acc : List Int), (sel 32 P).length = d → acc.length + d ≤ 1048576 → Ev (fun k => impl_set_list.l0 k (M P : Int) acc) (acc ++ sel 32 P)
  | 0, P, acc, h, _ => by
    have hn : sel 32 P = [] := List.eq_nil_of_length_eq_zero h
    have hz : ∀ i, i < 32 → P i = false := fun i hi => by
      cases hp : P i with
      | false => rfl
      | true =>
        have : (i : Int) ∈ sel 32 P := mem_sel.2 ⟨i, hi, hp, rfl⟩
        rw [hn] at this; cases this
    apply evshift
    simp only [impl_set_list.l0]
    refine evp (M_eq_zero.2 hz) ?_
    rw [hn, List.append_nil]
    exact evs _
  | d + 1, P, acc, h, hb => by
    have hex : ∃ i, i < 32 ∧ P i = true := by
      rcases Classical.em (∃ i, i < 32 ∧ P i = true) with h1 | h1
      · exact h1
      · have : sel 32 P = [] := sel_none fun i hi => by
          cases hp : P i with
          | false => rfl
          | true => exact absurd ⟨i, hi, hp⟩ h1
        rw [this] at h; cases h
    obtain ⟨t, h1, h2, h3⟩ := least_of hex
    have hs := sel_low h1 h2 h3
    have h0 : ¬ ((M P : Nat) : Int) = 0 := fun h => by have := M_eq_zero.1 h t h1; rw [this] at h2; cases h2
    apply evshift
    simp only [impl_set_list.l0, tz_at h1 h2 h3, Option.bind_some, (M_low h1 h2 h3).2]
    refine evn h0 (evp (by omega) ?_)
    rw [hs, List.length_cons] at h
    refine eve (list_loop d _ (acc ++ [(t : Int)]) (by omega) (by rw [List.length_append, List.length_singleton]; omega)) ?_
    rw [hs, List.append_assoc]; rfl
theorem ev_list (P : Nat → Bool) : Ev (fun k => impl_set_list.f k (M P : Int)) (sel 32 P) := by
  unfold impl_set_list.f
  have h := list_loop _ P [] rfl (by have := sel_len_le 32 P; simp; omega)
  simpa using h
theorem ev_benchRow (n : Int) (ring : Bool) (P : Nat → Bool) : Ev (fun k => impl_bench_row.f k n ring (M P : Int)) (n, ring, sel 32 P) := by
  unfold impl_bench_row.f
  exact evb (ev_list P) (evs _)
theorem setOf_loop (l : List Int) (hm : ∀ x ∈ l, 0 ≤ x ∧ x < 32) (hl : l.length ≤ 1048576) : ∀ d j (P : Nat → Bool), j + d = l.length →
    Ev (fun k => impl_setOf.l0 k (M P : Int) l (l.length : Int) (j : Int)) (M (fun i => P i || decide ((i : Int) ∈ l.drop j)) : Int)
  | 0, j, P, h => by
    apply evshift
    simp only [impl_setOf.l0]
    refine evn (by omega) ?_
    rw [List.drop_eq_nil_of_le (by omega)]
    simpa using evs _
  | d + 1, j, P, h => by
    apply evshift
    simp only [impl_setOf.l0]
    have hr := hm _ (rd_mem (by omega : j < l.length))
    refine evp (by omega) (evp (by omega) (evp (by omega) (evp (by omega) ?_)))
    obtain ⟨p, hp⟩ : ∃ p : Nat, rd l (j : Int) = (p : Int) := ⟨(rd l (j : Int)).toNat, by omega⟩
    rw [hp] at hr
    rw [hp, M_one (by omega), M_or, wnext j (by omega)]
    refine eve (setOf_loop l hm hl d (j + 1) _ (by omega)) ?_
    rw [drop_cons (by omega : j < l.length), hp]
    refine congrArg _ (M_congr fun i _ => ?_)
    by_cases e : i = p
    · subst e; simp
    · have : ¬ (i : Int) = (p : Int) := by omega
      simp [e, this]
theorem ev_setOf (l : List Int) (hm : ∀ x ∈ l, 0 ≤ x ∧ x < 32) (hl : l.length ≤ 1048576) : Ev (fun k => impl_setOf.f k l) (M (fun i => decide ((i : Int) ∈ l)) : Int) := by
  unfold impl_setOf.f
  have h := setOf_loop l hm hl l.length 0 (fun _ => false) (by omega)
  rw [← M_zero] at h
  simpa using h
theorem ev_taken (n : Int) (ring : Bool) (l : List Int) (hm : ∀ x ∈ l, 0 ≤ x ∧ x < 32) (hl : l.length ≤ 1048576) : Ev (fun k => impl_Row_taken.f k n ring l) (M (fun i => decide ((i : Int) ∈ l)) : Int) := by
  unfold impl_Row_taken.f
  exact evb (ev_setOf l hm hl) (evs _)
theorem M_shl (P : Nat → Bool) {n : Nat} (h : n ≤ 32) : shl .u32 (M P : Int) (n : Int) = (M (fun i => decide (n ≤ i) && P (i - n)) : Int) := by
  unfold shl
  rw [Int.toNat_natCast, show IntKind.u32.bits = 32 from rfl, Nat.min_eq_left h, IntKind.wrap_u32]
  have e : ((M P : Int) * 2 ^ n) % 4294967296 = ((M P * 2 ^ n % 2 ^ 32 : Nat) : Int) := by
    rw [Int.natCast_emod, Int.natCast_mul, Int.natCast_pow]; rfl
  have e2 : ((M P : Int) * 2 ^ n) % 2 ^ 32 = ((M P : Int) * 2 ^ n) % 4294967296 := rfl
  first | rw [e] | rw [e2, e]
  refine congrArg _ (M_of (Nat.mod_lt _ (by decide)) fun i hi => ?_)
  rw [Nat.testBit_mod_two_pow, Nat.mul_comm, Nat.testBit_two_pow_mul, M_bit]
  by_cases h0 : n ≤ i
  · simp [hi, h0, show i - n < 32 by omega]
  · simp [h0]
theorem szRow_neg {a : Int} {b : Bool} {l : List Int} {m : Int} (h : m < l.length) (hl : l.length ≤ maxLen) (h0 : 0 ≤ m) (hm : m ≤ 1048576) : laws_szRow.f a b l m = some (-1) := by
  unfold maxLen at hl
  unfold laws_szRow.f laws_szIntS.f
  rw [w64 (by omega) (by omega), if_pos (by omega)]
  rfl
theorem join_loop (n1 : Nat) (A B : List Int) (x0 x1 : Bool) (n2 : Int) (N : Int) (hB : B.length ≤ 1048576) (hA : A.length ≤ 1048576) (h1 : n1 ≤ 24) (hb : ∀ x ∈ B, 0 ≤ x ∧ x < 24) (l : List Int) (R : Int × Bool × List Int × Bool)
    (hend : Ev (fun k => spec_l2Kept.f k N false (A ++ B.map fun x => (n1 : Int) + x)) R) : ∀ d j (acc : List Int), j + d = B.length → acc = A ++ (B.take j).map (fun x => (n1 : Int) + x) →
      Ev (fun k => spec_JoinSeats.l0 k (j : Int) (n1 : Int) x0 l n2 x1 B N false acc) R
  | 0, j, acc, h, ha => by
    apply evshift
    simp only [spec_JoinSeats.l0]
    rw [ha, List.take_of_length_le (by omega)]
    exact evn (by omega) (evb hend (evs _))
  | d + 1, j, acc, h, ha => by
    have hj : j < B.length := by omega
    have hx := hb _ (rd_mem hj)
    apply evshift
    simp only [spec_JoinSeats.l0]
    rw [wnext j (by omega), w64 (x := (n1 : Int) + rd B (j : Int)) (by omega) (by omega)]
    refine evp (by omega) (evp (by omega) (evp ?_ ?_))
    · rw [ha, List.length_append, List.length_map, List.length_take]; omega
    · refine join_loop n1 A B x0 x1 n2 N hB hA h1 hb l R hend d (j + 1) _ (by omega) ?_
      rw [ha, List.append_assoc, List.take_succ_eq_append_getElem hj, List.map_append, rd_lt hj]
      rfl
theorem join_ok {n1 n2 : Nat} {A B : List Int} (hA : RowOK (n1 : Int) false A) (hB : RowOK (n2 : Int) false B) : (∀ x ∈ A ++ B.map (fun x => (n1 : Int) + x), 0 ≤ x ∧ x < (n1 : Int) + n2) ∧ (A ++ B.map fun x => (n1 : Int) + x).Pairwise (· < ·) := by
  constructor
  · intro x hx
    rw [List.mem_append, List.mem_map] at hx
    rcases hx with hx | ⟨y, hy, rfl⟩
    · have := hA.mem x hx; omega
    · have := hB.mem y hy; omega
  · rw [List.pairwise_append]
    refine ⟨hA.inc, List.Pairwise.map _ (fun a b h => by omega) hB.inc, fun a ha b hb => ?_⟩
    rw [List.mem_map] at hb
    obtain ⟨y, hy, rfl⟩ := hb
    have := hA.mem a ha; have := hB.mem y hy; omega
theorem bothJoinSeats (n1 : Int) (r1 : Bool) (A : List Int) (n2 : Int) (r2 : Bool) (B : List Int) (hA : A.length ≤ 1048576) (hB : B.length ≤ 1048576) :
    ∃ n' b' R ok, Ev (fun k => spec_JoinSeats.f k n1 r1 A n2 r2 B) (n', b', R, ok) ∧ Ev (fun k => impl_JoinSeats.f k n1 r1 A n2 r2 B) (n', b', R, ok) ∧ R.length ≤ 1048576 := by
  have hS1 := ev_l2Row n1 r1 A hA
  have hS2 := ev_l2Row n2 r2 B hB
  have hI1 := ev_isRow n1 r1 A hA
  have hI2 := ev_isRow n2 r2 B hB
  have noS : Ev (fun k => spec_JoinSeats.j0 k true n1 r1 A n2 r2 B) (0, false, [], false) := by
    apply evshift
    simp only [spec_JoinSeats.j0]
    exact evp (by trivial) (evs _)
  have noI : Ev (fun k => impl_JoinSeats.j0 k true n1 r1 A n2 r2 B) (0, false, [], false) := by
    apply evshift
    simp only [impl_JoinSeats.j0]
    exact evp (by trivial) (evs _)
  unfold spec_JoinSeats.f impl_JoinSeats.f
  cases h1 : rowB n1 r1 A with
  | false => rw [h1] at hS1 hI1; exact ⟨0, false, [], false, evb hS1 (evn (by simp) noS), evb hI1 (evn (by simp) noI), by simp⟩
  | true =>
    rw [h1] at hS1 hI1
    cases h2 : rowB n2 r2 B with
    | false => rw [h2] at hS2 hI2; exact ⟨0, false, [], false, evb hS1 (evp rfl (evb hS2 (evn (by simp) noS))), evb hI1 (evp rfl (evb hI2 (evn (by simp) noI))), by simp⟩
    | true =>
      rw [h2] at hS2 hI2
      cases r1 with
      | true => exact ⟨0, false, [], false, evb hS1 (evp rfl (evb hS2 (evp rfl (evp rfl noS)))), evb hI1 (evp rfl (evb hI2 (evp rfl (evp rfl noI)))), by simp⟩
      | false =>
        cases r2 with
        | true => exact ⟨0, false, [], false, evb hS1 (evp rfl (evb hS2 (evp rfl (evn (by simp) noS)))), evb hI1 (evp rfl (evb hI2 (evp rfl (evn (by simp) (evp rfl noI))))), by simp⟩
        | false =>
          have ok1 := rowB_ok h1
          have ok2 := rowB_ok h2
          have := ok1.lo; have := ok1.hi; have := ok2.lo; have := ok2.hi
          obtain ⟨m1, rfl⟩ : ∃ m : Nat, n1 = m := ⟨n1.toNat, by omega⟩
          obtain ⟨m2, rfl⟩ : ∃ m : Nat, n2 = m := ⟨n2.toNat, by omega⟩
          obtain ⟨hm, hp⟩ := join_ok ok1 ok2
          have hlen : (A ++ B.map fun x => (m1 : Int) + x).length ≤ 1048576 := by
            have := ok1.len; have := ok2.len
            rw [List.length_append, List.length_map]; omega
          have hK := ev_l2Kept ((m1 : Int) + m2) false (A ++ B.map fun x => (m1 : Int) + x) hlen
          have hloop := fun R h => join_loop m1 A B false false (m2 : Int) ((m1 : Int) + m2) hB hA (by omega) (fun x hx => by have := ok2.mem x hx; omega) A R h B.length 0 A (by omega) (by simp)
          have hS : ∀ R, Ev (fun k => spec_l2Kept.f k ((m1 : Int) + m2) false (A ++ B.map fun x => (m1 : Int) + x)) R → Ev (fun k => spec_JoinSeats.j0 k false (m1 : Int) false A (m2 : Int) false B) R := fun R h => by
            apply evshift
            simp only [spec_JoinSeats.j0]
            refine evn (by simp) (evc (l1Own A hA) ?_)
            rw [w64 (by omega) (by omega)]
            exact hloop R h
          by_cases hs : (m1 : Int) + m2 ≤ 24
          · have hr : rowB ((m1 : Int) + m2) false (A ++ B.map fun x => (m1 : Int) + x) = true := rowB_mk ⟨by omega, hs, fun h => by simp at h, hm, hp⟩
            rw [hr] at hK
            refine ⟨(m1 : Int) + m2, false, A ++ B.map (fun x => (m1 : Int) + x), true, evb hS1 (evp rfl (evb hS2 (evp rfl (evn (by simp) (hS _ hK))))), evb hI1 (evp rfl (evb hI2 (evp rfl (evn (by simp) (evn (by simp) ?_))))), hlen⟩
            rw [w64 (by omega) (by omega), decide_eq_false (by omega)]
            apply evshift
            simp only [impl_JoinSeats.j0]
            refine evn (by simp) (evb (ev_taken _ false A ok1.m32 hA) (evb (ev_taken _ false B ok2.m32 hB) (evp (by omega) ?_)))
            rw [M_shl _ (by omega), M_or, w64 (by omega) (by omega)]
            have hb := ev_benchRow ((m1 : Int) + m2) false fun i => decide ((i : Int) ∈ A) || (decide (m1 ≤ i) && decide (((i - m1 : Nat) : Int) ∈ B))
            rw [sel_is hp (P := fun i => decide ((i : Int) ∈ A) || (decide (m1 ≤ i) && decide (((i - m1 : Nat) : Int) ∈ B))) (m := 32) ?_] at hb
            · exact evb hb (evs _)
            · intro x
              rw [List.mem_append, List.mem_map]
              constructor
              · rintro (hx | ⟨y, hy, rfl⟩)
                · have := ok1.mem x hx
                  exact ⟨x.toNat, by omega, by simp [show ((x.toNat : Nat) : Int) = x by omega, hx], by omega⟩
                · have := ok2.mem y hy
                  refine ⟨m1 + y.toNat, by omega, ?_, by omega⟩
                  have e : m1 + y.toNat - m1 = y.toNat := by omega
                  rw [e, show ((y.toNat : Nat) : Int) = y by omega, decide_eq_true hy, decide_eq_true (show m1 ≤ m1 + y.toNat by omega)]
                  simp
              · rintro ⟨i, hi, hP, rfl⟩
                simp only [Bool.or_eq_true, Bool.and_eq_true, decide_eq_true_eq] at hP
                rcases hP with h | ⟨h3, h4⟩
                · exact .inl h
                · exact .inr ⟨_, h4, by omega⟩
          · have hr : rowB ((m1 : Int) + m2) false (A ++ B.map fun x => (m1 : Int) + x) = false := by
              cases hq : rowB ((m1 : Int) + m2) false (A ++ B.map fun x => (m1 : Int) + x) with
              | false => rfl
              | true => have := (rowB_ok hq).hi; omega
            rw [hr] at hK
            refine ⟨0, false, [], false, evb hS1 (evp rfl (evb hS2 (evp rfl (evn (by simp) (hS _ hK))))), evb hI1 (evp rfl (evb hI2 (evp rfl (evn (by simp) (evn (by simp) ?_))))), by simp⟩
            rw [w64 (by omega) (by omega), decide_eq_true (by omega)]
            exact noI
theorem FnExactJoinSeats : laws_FnExactJoinSeats.Pure := by
  intro n1 r1 A n2 r2 B _ hA _ _ hB _
  refine Ev.rounds (g := fun k => laws_FnExactJoinSeats.f k n1 r1 A n2 r2 B) ?_
  unfold laws_FnExactJoinSeats.f
  by_cases hl : A.length ≤ 1048576
  · refine evc (szRow_ok (by omega) (by omega)) (evn (by omega) ?_)
    by_cases hl2 : (B.length : Int) ≤ 1048576 - A.length
    · obtain ⟨n', b', R, ok, hS, hI, hR⟩ := bothJoinSeats n1 r1 A n2 r2 B hl (by omega)
      have hlB : B.length ≤ 1048576 := by omega
      refine evc (szRow_ok hl2 (by omega)) ?_
      repeat (first
        | exact evs true
        | (with_reducible refine evb hS ?_)
        | (with_reducible refine evb hI ?_)
        | (with_reducible refine evb (ev_toIntS _ (by assumption)) ?_)
        | (with_reducible refine evb (ev_toRow _ _ _ (by assumption)) ?_)
        | (with_reducible refine evb (ev_eqIntS _ (by assumption)) ?_)
        | (with_reducible refine evb (ev_eqRow _ _ _ (by assumption)) ?_)
        | (with_reducible refine evb (ev_markIntS _ _ (by assumption) (by omega) (by omega)) ?_)
        | (with_reducible refine evb (ev_markRow _ _ _ _ (by assumption) (by omega) (by omega)) ?_)
        | (with_reducible refine evb (ev_heldIntS _ _ (by assumption) (by omega) (by omega)) ?_)
        | (with_reducible refine evb (ev_heldRow _ _ _ _ (by assumption) (by omega) (by omega)) ?_)
        | (with_reducible show Ev (fun k => laws_FnExactJoinSeats.j0 k _ _ _ _ _ _ _ _ _ _ _ _ _ _ _ _ _ _ _ _ _) _; apply evshift; simp only [laws_FnExactJoinSeats.j0])
        | (with_reducible show Ev (fun k => laws_FnExactJoinSeats.j1 k _ _ _ _ _ _ _ _ _ _ _ _ _ _) _; apply evshift; simp only [laws_FnExactJoinSeats.j1])
        | (with_reducible show Ev (fun k => laws_FnExactJoinSeats.j2 k _ _ _ _ _) _; apply evshift; simp only [laws_FnExactJoinSeats.j2])
        | (refine evp ?hc ?_; (case hc => first | omega | (simp; done)))
        | (refine evn ?hc ?_; (case hc => first | omega | (simp; done)))
        | dsimp only)
    · exact evc (szRow_neg (by omega) hB (by omega) (by omega)) (evp (by omega) (evs _))
  · exact evc (szRow_big (by omega) hA) (evp (by omega) (evs _))

end Go.Proofs.YtdbdmdegnmoblaaDoor.Pure
