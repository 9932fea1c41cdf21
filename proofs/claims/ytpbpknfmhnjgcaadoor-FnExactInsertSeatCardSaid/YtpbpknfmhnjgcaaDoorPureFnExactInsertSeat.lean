/- The law laws.FnExactInsertSeat, told as plain Lean functions of numbers, lists and strings, answers true for every input, if enough rounds are given: the program's InsertSeat answers what the reference's answers. Conditions: none but the kinds' own (each number one of its kind, each length one that the model reads). -/
import Derived.Test.YtpbpknfmhnjgcaaDoorPFnExactInsertSeatx7
import Derived.Test.YtpbpknfmhnjgcaaDoorBase
namespace Go.Proofs.YtpbpknfmhnjgcaaDoor.Pure
open Go.RowKit Go.Proofs.YtpbpknfmhnjgcaaDoor.PFnExactInsertSeat Go.Proofs.YtpbpknfmhnjgcaaDoorW.PrintWords Go.Proofs.YtpbpknfmhnjgcaaDoorW.PrintLast Go.Proofs.YtpbpknfmhnjgcaaDoorW.PrintMore Go.Proofs.YtpbpknfmhnjgcaaDoor.Base

theorem sz_big {l : List Int} (h : 1048576 < l.length) (hm : l.length ≤ maxLen) : laws_szIntS.f l 1048576 = some (-1) := by
  unfold maxLen at hm
  unfold laws_szIntS.f
  rw [w64 (by omega) (by omega), if_pos (by omega)]
theorem sz_ok {l : List Int} {m : Int} (h : (l.length : Int) ≤ m) (hm : m ≤ 1048576) : laws_szIntS.f l m = some (m - l.length) := by
  unfold laws_szIntS.f
  rw [w64 (by omega) (by omega), if_neg (by omega)]
theorem szRow_big {a : Int} {b : Bool} {l : List Int} (h : 1048576 < l.length) (hm : l.length ≤ maxLen) : laws_szRow.f a b l 1048576 = some (-1) := by
  unfold laws_szRow.f
  rw [sz_big h hm]
  rfl
theorem szRow_ok {a : Int} {b : Bool} {l : List Int} {m : Int} (h : (l.length : Int) ≤ m) (hm : m ≤ 1048576) : laws_szRow.f a b l m = some (m - l.length) := by
  unfold laws_szRow.f
  rw [sz_ok h hm]
  simp only [Option.bind_some]
  rw [if_neg (by omega)]
theorem toIntS_loop (l : List Int) (hl : l.length ≤ 1048576) : ∀ d j, j + d = l.length → Ev (fun k => laws_toIntS.l0 k l (l.take j ++ List.replicate (l.length - j) 0) (j : Int)) l
  | 0, j, h => by
    apply evshift
    simp only [laws_toIntS.l0]
    refine evn (by omega) ?_
    have e : l.take j ++ List.replicate (l.length - j) 0 = l := by rw [show j = l.length by omega]; simp
    rw [e]
    exact evs _
  | d + 1, j, h => by
    have ih := toIntS_loop l hl d (j + 1) (by omega)
    apply evshift
    simp only [laws_toIntS.l0]
    refine evp (by omega) (evp (by omega) (evp (by simp; omega) ?_))
    rw [Int.toNat_natCast, set_copy l j (by omega), wnext j (by omega)]
    exact ih
theorem ev_toIntS (l : List Int) (hl : l.length ≤ 1048576) : Ev (fun k => laws_toIntS.f k l) l := by
  unfold laws_toIntS.f
  refine evp (by omega) (evp (by omega) ?_)
  have h := toIntS_loop l hl l.length 0 (by omega)
  simpa using h
theorem ev_toRow (a : Int) (b : Bool) (l : List Int) (hl : l.length ≤ 1048576) : Ev (fun k => laws_toRow.f k a b l) (a, b, l) := by
  unfold laws_toRow.f
  exact evb (ev_toIntS l hl) (evs _)
theorem eqIntS_loop (l : List Int) (hl : l.length ≤ 1048576) : ∀ d j, j + d = l.length → Ev (fun k => laws_eqIntS.l0 k l l (j : Int)) true
  | 0, j, h => by
    apply evshift
    simp only [laws_eqIntS.l0]
    exact evn (by omega) (evs _)
  | d + 1, j, h => by
    have ih := eqIntS_loop l hl d (j + 1) (by omega)
    apply evshift
    simp only [laws_eqIntS.l0]
    refine evp (by omega) (evp (by omega) (evp (by omega) (evp (by trivial) ?_)))
    rw [wnext j (by omega)]
    exact ih
theorem ev_eqIntS (l : List Int) (hl : l.length ≤ 1048576) : Ev (fun k => laws_eqIntS.f k l l) true := by
  unfold laws_eqIntS.f
  exact evp (by trivial) (eqIntS_loop l hl l.length 0 (by omega))
theorem ev_eqRow (a : Int) (b : Bool) (l : List Int) (hl : l.length ≤ 1048576) : Ev (fun k => laws_eqRow.f k a b l a b l) true := by
  unfold laws_eqRow.f
  refine evp (by simp) (evn (by simp) ?_)
  exact evb (ev_eqIntS l hl) (evp (by trivial) (evs _))
theorem markIntS_loop (l : List Int) (m : Int) (hl : l.length ≤ 1048576) (h0 : 0 ≤ m) (hm : m ≤ 1099511627776) : ∀ d j, j + d = l.length → Ev (fun k => laws_markIntS.l0 k (marks m j ++ l.drop j) (m + (j : Int)) (j : Int)) (m + (l.length : Int), marks m l.length)
  | 0, j, h => by
    obtain rfl : j = l.length := by omega
    apply evshift
    simp only [laws_markIntS.l0]
    refine evn (by simp [marks_len]) ?_
    simp only [List.drop_length, List.append_nil]
    exact evs _
  | d + 1, j, h => by
    have ih := markIntS_loop l m hl h0 hm d (j + 1) (by omega)
    apply evshift
    simp only [laws_markIntS.l0]
    refine evp (by simp [marks_len]; omega) (evp (by omega) ?_)
    rw [Int.toNat_natCast, set_marks m l j (by omega), wnext j (by omega), w64 (by omega) (by omega), show m + (j : Int) + 1 = m + ((j + 1 : Nat) : Int) by omega]
    exact ih
theorem ev_markIntS (l : List Int) (m : Int) (hl : l.length ≤ 1048576) (h0 : 0 ≤ m) (hm : m ≤ 1099511627776) : Ev (fun k => laws_markIntS.f k l m) (m + (l.length : Int), marks m l.length) := by
  unfold laws_markIntS.f
  have h := markIntS_loop l m hl h0 hm l.length 0 (by omega)
  simpa [marks] using h
theorem ev_markRow (a : Int) (b : Bool) (l : List Int) (m : Int) (hl : l.length ≤ 1048576) (h0 : 0 ≤ m) (hm : m ≤ 1099511627776) : Ev (fun k => laws_markRow.f k a b l m) (m + (l.length : Int), marks m l.length) := by
  unfold laws_markRow.f
  exact evb (ev_markIntS l m hl h0 hm) (evs _)
theorem heldIntS_loop (n : Nat) (m : Int) (hn : n ≤ 1048576) (h0 : 0 ≤ m) (hm : m ≤ 1099511627776) : ∀ d j, j + d = n → Ev (fun k => laws_heldIntS.l0 k (marks m n) (m + (j : Int)) (j : Int)) (m + (n : Int))
  | 0, j, h => by
    obtain rfl : j = n := by omega
    apply evshift
    simp only [laws_heldIntS.l0]
    exact evn (by rw [marks_len]; omega) (evs _)
  | d + 1, j, h => by
    have ih := heldIntS_loop n m hn h0 hm d (j + 1) (by omega)
    apply evshift
    simp only [laws_heldIntS.l0]
    refine evp (by rw [marks_len]; omega) (evp (by omega) (evp (rd_marks (by omega)) ?_))
    rw [wnext j (by omega), w64 (by omega) (by omega), show m + (j : Int) + 1 = m + ((j + 1 : Nat) : Int) by omega]
    exact ih
theorem ev_heldIntS (n : Nat) (m : Int) (hn : n ≤ 1048576) (h0 : 0 ≤ m) (hm : m ≤ 1099511627776) : Ev (fun k => laws_heldIntS.f k (marks m n) m) (m + (n : Int)) := by
  unfold laws_heldIntS.f
  have h := heldIntS_loop n m hn h0 hm n 0 (by omega)
  simpa using h
theorem ev_heldRow (a : Int) (b : Bool) (n : Nat) (m : Int) (hn : n ≤ 1048576) (h0 : 0 ≤ m) (hm : m ≤ 1099511627776) : Ev (fun k => laws_heldRow.f k a b (marks m n) m) (m + (n : Int)) := by
  unfold laws_heldRow.f
  exact evb (ev_heldIntS n m hn h0 hm) (evn (by omega) (evs _))
theorem in_spec (a lo hi : Int) : spec_l1In.f a lo hi = some (decide (lo ≤ a ∧ a ≤ hi)) := by
  unfold spec_l1In.f
  split
  · congr 1; simp; omega
  · congr 1; simp; omega
theorem rising_loop (l : List Int) (m : Int) (hl : l.length ≤ 1048576) : ∀ d j, j + d = l.length → Ev (fun k => spec_l1Rising.l0 k l 0 m (j : Int)) (okFrom m l d j)
  | 0, j, h => by
    apply evshift
    simp only [spec_l1Rising.l0]
    exact evn (by omega) (evs _)
  | d + 1, j, h => by
    have ih := rising_loop l m hl d (j + 1) (by omega)
    apply evshift
    simp only [spec_l1Rising.l0, in_spec, Option.bind_some]
    refine evp (by omega) (evp (by omega) ?_)
    simp only [okFrom, okAt]
    by_cases h1 : 0 ≤ rd l (j : Int) ∧ rd l (j : Int) ≤ m
    · refine evp (by simpa using h1) ?_
      rw [decide_eq_true h1, Bool.true_and]
      by_cases h2 : j = 0
      · refine evn (by omega) ?_
        rw [wnext j (by omega), decide_eq_true h2, Bool.true_or, Bool.true_and]
        exact ih
      · refine evp (by omega) ?_
        rw [w64 (by omega) (by omega)]
        refine evp (by omega) (evp (by omega) ?_)
        by_cases h3 : rd l ((j : Int) - 1) < rd l (j : Int)
        · refine evn (by omega) ?_
          rw [wnext j (by omega)]
          simpa [h3] using ih
        · refine evp (by omega) ?_
          simpa [h2, h3] using evs false
    · refine evn (by simpa using h1) ?_
      simpa [h1] using evs false
theorem ev_rising (l : List Int) (m : Int) (hl : l.length ≤ 1048576) : Ev (fun k => spec_l1Rising.f k l 0 m) (okFrom m l l.length 0) := by
  unfold spec_l1Rising.f
  exact rising_loop l m hl l.length 0 (by omega)
theorem ev_l2Row (n : Int) (ring : Bool) (l : List Int) (hl : l.length ≤ 1048576) : Ev (fun k => spec_l2Row.f k n ring l) (rowB n ring l) := by
  unfold spec_l2Row.f
  simp only [in_spec, Option.bind_some, rowB]
  by_cases h1 : 2 ≤ n ∧ n ≤ 24
  · refine evp (by simpa using h1) ?_
    rw [w64 (by omega) (by omega)]
    cases ring with
    | true =>
      refine evp rfl ?_
      by_cases h2 : n > 2
      · refine evp h2 (evb (ev_rising l _ hl) ?_)
        have h3 : 3 ≤ n := by omega
        simpa [h1, h3] using evs _
      · refine evn h2 ?_
        have h3 : ¬ 3 ≤ n := by omega
        simpa [h3] using evs false
    | false =>
      refine evn (by simp) (evb (ev_rising l _ hl) ?_)
      simpa [h1] using evs _
  · refine evn (by simpa using h1) ?_
    simpa [h1] using evs false
theorem l1Put_loop (l : List Int) (x : Int) (hl : l.length ≤ 1048576) (hp : l.Pairwise (· < ·)) : ∀ d j, j + d = l.length → (∀ y ∈ l.take j, y < x) →
    ∃ R : List Int, Ev (fun k => spec_l1Put.l0 k l x (j : Int)) R ∧ R.Pairwise (· < ·) ∧ (∀ y, y ∈ R ↔ y = x ∨ y ∈ l) ∧ R.length ≤ l.length + 1
  | 0, j, h, hb => by
    obtain rfl : j = l.length := by omega
    rw [List.take_length] at hb
    refine ⟨l ++ [x], ?_, ?_, fun y => by simp [or_comm], by simp⟩
    · apply evshift
      simp only [spec_l1Put.l0, Option.bind_some, Int.toNat_natCast, List.take_length, List.drop_length, List.nil_append, List.length_nil, List.length_append, List.length_singleton, List.append_nil]
      refine evn (by omega) ?_
      repeat (first | exact evs _ | (refine evp ?hc ?_; (case hc => omega)) | (refine evn ?hc ?_; (case hc => omega)))
    · refine List.pairwise_append.2 ⟨hp, List.pairwise_singleton _ _, fun a ha b hb' => ?_⟩
      rw [List.mem_singleton.1 hb']; exact hb a ha
  | d + 1, j, h, hb => by
    have hj : j < l.length := by omega
    by_cases c1 : rd l (j : Int) < x
    · obtain ⟨R, h1, h2⟩ := l1Put_loop l x hl hp d (j + 1) (by omega) (fun y hy => by
        rw [List.take_succ_eq_append_getElem hj, List.mem_append, List.mem_singleton] at hy
        rcases hy with hy | rfl
        · exact hb y hy
        · rw [rd_lt hj] at c1; exact c1)
      refine ⟨R, ?_, h2⟩
      apply evshift
      simp only [spec_l1Put.l0]
      refine evp (by omega) (evp (by omega) (evp c1 ?_))
      rw [wnext j (by omega)]
      exact h1
    · by_cases c2 : rd l (j : Int) = x
      · refine ⟨l, ?_, hp, fun y => ⟨.inr, fun hy => ?_⟩, by omega⟩
        · apply evshift
          simp only [spec_l1Put.l0]
          exact evp (by omega) (evp (by omega) (evn c1 (evp c2 (evs _))))
        · rcases hy with rfl | hy
          · rw [← c2]; exact rd_mem hj
          · exact hy
      · have hd : ∀ y ∈ l.drop j, x < y := fun y hy => by
          rw [drop_cons hj, List.mem_cons] at hy
          rcases hy with rfl | hy
          · omega
          · have := hp.sublist (List.drop_sublist j l)
            rw [drop_cons hj, List.pairwise_cons] at this
            have := this.1 y hy
            omega
        refine ⟨l.take j ++ [x] ++ l.drop j, ?_, ?_, fun y => ?_, by simp; omega⟩
        · apply evshift
          simp only [spec_l1Put.l0, Option.bind_some, Int.toNat_natCast, List.nil_append, List.length_nil, List.length_append, List.length_singleton, List.length_take, List.length_drop]
          refine evp (by omega) (evp (by omega) (evn c1 (evn c2 ?_)))
          repeat (first | exact evs _ | (refine evp ?hc ?_; (case hc => omega)) | (refine evn ?hc ?_; (case hc => omega)))
        · rw [List.append_assoc]
          refine List.pairwise_append.2 ⟨hp.sublist (List.take_sublist j l), ?_, fun a ha b hb' => ?_⟩
          · rw [List.singleton_append, List.pairwise_cons]
            exact ⟨hd, hp.sublist (List.drop_sublist j l)⟩
          · rw [List.singleton_append, List.mem_cons] at hb'
            have := hb a ha
            rcases hb' with rfl | hb'
            · exact this
            · have := hd b hb'; omega
        · have e : y ∈ l ↔ y ∈ l.take j ∨ y ∈ l.drop j := by rw [← List.mem_append, List.take_append_drop]
          rw [e, List.mem_append, List.mem_append, List.mem_singleton]
          constructor
          · rintro ((h | h) | h)
            · exact .inr (.inl h)
            · exact .inl h
            · exact .inr (.inr h)
          · rintro (h | h | h)
            · exact .inl (.inr h)
            · exact .inl (.inl h)
            · exact .inr h
theorem ev_l1Put (l : List Int) (x : Int) (hl : l.length ≤ 1048576) (hp : l.Pairwise (· < ·)) : ∃ R : List Int, Ev (fun k => spec_l1Put.f k l x) R ∧ R.Pairwise (· < ·) ∧ (∀ y, y ∈ R ↔ y = x ∨ y ∈ l) ∧ R.length ≤ l.length + 1 := by
  unfold spec_l1Put.f
  exact l1Put_loop l x hl hp l.length 0 (by omega) (by simp)
theorem ev_l2Kept (n : Int) (ring : Bool) (l : List Int) (hl : l.length ≤ 1048576) : Ev (fun k => spec_l2Kept.f k n ring l) (if rowB n ring l = true then (n, ring, l, true) else (0, false, [], false)) := by
  unfold spec_l2Kept.f
  refine evb (ev_l2Row n ring l hl) ?_
  by_cases h : rowB n ring l = true
  · exact evt h (evp h (evs _))
  · exact evf h (evn h (evs _))
theorem setOf_loop (l : List Int) (hm : ∀ x ∈ l, 0 ≤ x ∧ x < 32) (hl : l.length ≤ 1048576) : ∀ d j (P : Nat → Bool), j + d = l.length →
    Ev (fun k => impl_setOf.l0 k (M P : Int) l (l.length : Int) (j : Int)) (M (fun i => P i || decide ((i : Int) ∈ l.drop j)) : Int)
  | 0, j, P, h => by
    apply evshift
    simp only [impl_setOf.l0]
    refine evn (by omega) ?_
    rw [List.drop_eq_nil_of_le (by omega)]
    simpa using evs _
  | d + 1, j, P, h => by
    apply evshift
    simp only [impl_setOf.l0]
    have hr := hm _ (rd_mem (by omega : j < l.length))
    refine evp (by omega) (evp (by omega) (evp (by omega) (evp (by omega) ?_)))
    obtain ⟨p, hp⟩ : ∃ p : Nat, rd l (j : Int) = (p : Int) := ⟨(rd l (j : Int)).toNat, by omega⟩
    rw [hp] at hr
    rw [hp, M_one (by omega), M_or, wnext j (by omega)]
    refine eve (setOf_loop l hm hl d (j + 1) _ (by omega)) ?_
    rw [drop_cons (by omega : j < l.length), hp]
    refine congrArg _ (M_congr fun i _ => ?_)
    by_cases e : i = p
    · subst e; simp
    · have : ¬ (i : Int) = (p : Int) := by omega
      simp [e, this]
theorem ev_setOf (l : List Int) (hm : ∀ x ∈ l, 0 ≤ x ∧ x < 32) (hl : l.length ≤ 1048576) : Ev (fun k => impl_setOf.f k l) (M (fun i => decide ((i : Int) ∈ l)) : Int) := by
  unfold impl_setOf.f
  have h := setOf_loop l hm hl l.length 0 (fun _ => false) (by omega)
  rw [← M_zero] at h
  simpa using h
theorem ev_taken (n : Int) (ring : Bool) (l : List Int) (hm : ∀ x ∈ l, 0 ≤ x ∧ x < 32) (hl : l.length ≤ 1048576) : Ev (fun k => impl_Row_taken.f k n ring l) (M (fun i => decide ((i : Int) ∈ l)) : Int) := by
  unfold impl_Row_taken.f
  exact evb (ev_setOf l hm hl) (evs _)
theorem in_impl (a lo hi : Int) : impl_within.f a lo hi = some (decide (lo ≤ a ∧ a ≤ hi)) := by
  unfold impl_within.f
  split
  · congr 1; simp; omega
  · congr 1; simp; omega
theorem allWithin_loop (l : List Int) (lo hi : Int) (hl : l.length ≤ 1048576) : ∀ d j, j + d = l.length → Ev (fun k => impl_allWithin.l0 k lo hi l (l.length : Int) (j : Int)) ((l.drop j).all fun x => decide (lo ≤ x ∧ x ≤ hi))
  | 0, j, h => by
    apply evshift
    simp only [impl_allWithin.l0]
    refine evn (by omega) ?_
    rw [List.drop_eq_nil_of_le (by omega)]
    exact evs _
  | d + 1, j, h => by
    have ih := allWithin_loop l lo hi hl d (j + 1) (by omega)
    apply evshift
    simp only [impl_allWithin.l0, in_impl, Option.bind_some]
    refine evp (by omega) (evp (by omega) (evp (by omega) ?_))
    rw [drop_cons (by omega : j < l.length), List.all_cons]
    by_cases h1 : lo ≤ rd l (j : Int) ∧ rd l (j : Int) ≤ hi
    · refine evp (by simpa using h1) ?_
      rw [wnext j (by omega)]
      simpa [h1] using ih
    · refine evn (by simpa using h1) ?_
      simpa [h1] using evs false
theorem ev_allWithin (l : List Int) (lo hi : Int) (hl : l.length ≤ 1048576) : Ev (fun k => impl_allWithin.f k l lo hi) (l.all fun x => decide (lo ≤ x ∧ x ≤ hi)) := by
  unfold impl_allWithin.f
  have h := allWithin_loop l lo hi hl l.length 0 (by omega)
  simpa using h
theorem ev_benchHas (n : Int) (ring : Bool) (l : List Int) (hl : l.length ≤ 1048576) : Ev (fun k => impl_bench_has.f k n ring l) (l.all fun x => decide (0 ≤ x ∧ x ≤ wrap64 (n - 1))) := by
  unfold impl_bench_has.f
  exact evb (ev_allWithin l 0 _ hl) (evs _)
theorem benchValid (n : Int) (ring : Bool) : impl_bench_valid.f n ring = some (decide (2 ≤ n ∧ n ≤ 24) && (!ring || decide (3 ≤ n))) := by
  unfold impl_bench_valid.f
  simp only [in_impl, Option.bind_some]
  by_cases h1 : 2 ≤ n ∧ n ≤ 24
  · rw [if_pos (by simpa using h1)]
    cases ring <;> simp [h1]
  · rw [if_neg (by simpa using h1)]
    simp [h1]
theorem isRow_loop (n : Int) (ring : Bool) (l : List Int) (hl : l.length ≤ 1048576) : ∀ d j, j + d = l.length →
    Ev (fun k => impl_IsRow.l0 k l (l.length : Int) (j : Int) n ring l) (okFrom (wrap64 (n - 1)) l d j && (decide (2 ≤ n ∧ n ≤ 24) && (!ring || decide (3 ≤ n))))
  | 0, j, h => by
    apply evshift
    simp only [impl_IsRow.l0, impl_Row_bench.f, Option.bind_some, benchValid]
    refine evn (by omega) ?_
    simpa [okFrom] using evs _
  | d + 1, j, h => by
    have ih := isRow_loop n ring l hl d (j + 1) (by omega)
    apply evshift
    simp only [impl_IsRow.l0, impl_Row_bench.f, Option.bind_some]
    refine evp (by omega) (evp (by omega) (evp (by omega) ?_))
    refine evb (ev_benchHas n ring [rd l (j : Int)] (by simp)) ?_
    simp only [okFrom, okAt, List.all_cons, List.all_nil, Bool.and_true]
    by_cases h1 : 0 ≤ rd l (j : Int) ∧ rd l (j : Int) ≤ wrap64 (n - 1)
    · refine evp (by simpa using h1) ?_
      rw [decide_eq_true h1, Bool.true_and]
      by_cases h2 : j = 0
      · refine evn (by omega) ?_
        rw [wnext j (by omega), decide_eq_true h2, Bool.true_or, Bool.true_and]
        exact ih
      · refine evp (by omega) ?_
        rw [w64 (by omega) (by omega)]
        refine evp (by omega) (evp (by omega) ?_)
        by_cases h3 : rd l ((j : Int) - 1) < rd l (j : Int)
        · refine evn (by omega) ?_
          rw [wnext j (by omega)]
          simpa [h3] using ih
        · refine evp (by omega) ?_
          simpa [h2, h3] using evs false
    · refine evn (by simpa using h1) ?_
      simpa [h1] using evs false
theorem ev_isRow (n : Int) (ring : Bool) (l : List Int) (hl : l.length ≤ 1048576) : Ev (fun k => impl_IsRow.f k n ring l) (rowB n ring l) := by
  unfold impl_IsRow.f
  refine eve (isRow_loop n ring l hl l.length 0 (by omega)) ?_
  unfold rowB
  by_cases h1 : 2 ≤ n ∧ n ≤ 24
  · rw [w64 (by omega) (by omega)]
    cases okFrom (n - 1) l l.length 0 <;> simp [h1]
  · simp [h1]
theorem tz_table : ∀ t : Nat, t < 32 → (0 ≤ ((((2 ^ t : Nat) : Int) * 125613361) % 4294967296) / 134217728) ∧ ((((2 ^ t : Nat) : Int) * 125613361) % 4294967296) / 134217728 < 32 ∧ wrap64 (rd xtab0 (((((2 ^ t : Nat) : Int) * 125613361) % 4294967296) / 134217728)) = (t : Int) := by decide +kernel
theorem tz_at {P : Nat → Bool} {t : Nat} (h32 : t < 32) (ht : P t = true) (hl : ∀ i, i < t → P i = false) : bits_TrailingZeros32.f (M P : Int) = some (t : Int) := by
  have h0 : ¬ ((M P : Nat) : Int) = 0 := fun h => by have := M_eq_zero.1 h t h32; rw [this] at ht; cases ht
  obtain ⟨h1, h2, h3⟩ := tz_table t h32
  unfold bits_TrailingZeros32.f
  rw [if_neg h0, (M_low h32 ht hl).1, if_pos h1, if_pos h2, h3]
theorem list_loop : ∀ (d : Nat) (P : Nat → Bool) (acc : List Int), (sel 32 P).length = d → acc.length + d ≤ 1048576 → Ev (fun k => impl_set_list.l0 k (M P : Int) acc) (acc ++ sel 32 P)
  | 0, P, acc, h, _ => by
    have hn : sel 32 P = [] := List.eq_nil_of_length_eq_zero h
    have hz : ∀ i, i < 32 → P i = false := fun i hi => by
      cases hp : P i with
      | false => rfl
      | true =>
        have : (i : Int) ∈ sel 32 P := mem_sel.2 ⟨i, hi, hp, rfl⟩
        rw [hn] at this; cases this
    apply evshift
    simp only [impl_set_list.l0]
    refine evp (M_eq_zero.2 hz) ?_
    rw [hn, List.append_nil]
    exact evs _
  | d + 1, P, acc, h, hb => by
    have hex : ∃ i, i < 32 ∧ P i = true := by
      rcases Classical.em (∃ i, i < 32 ∧ P i = true) with h1 | h1
      · exact h1
      · have : sel 32 P = [] := sel_none fun i hi => by
          cases hp : P i with
          | false => rfl
          | true => exact absurd ⟨i, hi, hp⟩ h1
        rw [this] at h; cases h
    obtain ⟨t, h1, h2, h3⟩ := least_of hex
    have hs := sel_low h1 h2 h3
    have h0 : ¬ ((M P : Nat) : Int) = 0 := fun h => by have := M_eq_zero.1 h t h1; rw [this] at h2; cases h2
    apply evshift
    simp only [impl_set_list.l0, tz_at h1 h2 h3, Option.bind_some, (M_low h1 h2 h3).2]
    refine evn h0 (evp (by omega) ?_)
    rw [hs, List.length_cons] at h
    refine eve (list_loop d _ (acc ++ [(t : Int)]) (by omega) (by rw [List.length_append, List.length_singleton]; omega)) ?_
    rw [hs, List.append_assoc]; rfl
theorem ev_list (P : Nat → Bool) : Ev (fun k => impl_set_list.f k (M P : Int)) (sel 32 P) := by
  unfold impl_set_list.f
  have h := list_loop _ P [] rfl (by have := sel_len_le 32 P; simp; omega)
  simpa using h
theorem ev_benchRow (n : Int) (ring : Bool) (P : Nat → Bool) : Ev (fun k => impl_bench_row.f k n ring (M P : Int)) (n, ring, sel 32 P) := by
  unfold impl_bench_row.f
  exact evb (ev_list P) (evs _)
def shF (p x : Int) : Int := if x ≥ p then x + 1 else x
theorem shF_lt {p x y : Int} (h : x < y) : shF p x < shF p y := by unfold shF; repeat' split <;> omega
theorem specIns_loop (n : Int) (ring : Bool) (l : List Int) (p : Int) (b : Bool) (hl : l.length ≤ 1048575) (hm : ∀ x ∈ l, 0 ≤ x ∧ x < 32) (r : Int × Bool × List Int × Bool) (n' : Int)
    (hr : Ev (fun k => spec_InsertSeat.l0 k p b (l.length : Int) n ring l n' ring (l.map (shF p))) r) : ∀ d j, j + d = l.length → Ev (fun k => spec_InsertSeat.l0 k p b (j : Int) n ring l n' ring ((l.take j).map (shF p))) r
  | 0, j, h => by
    obtain rfl : j = l.length := by omega
    rw [List.take_length]
    exact hr
  | d + 1, j, h => by
    have ih := specIns_loop n ring l p b hl hm r n' hr d (j + 1) (by omega)
    have hj : j < l.length := by omega
    have hx := hm _ (rd_mem hj)
    rw [List.take_succ_eq_append_getElem hj, List.map_append, ← rd_lt hj] at ih
    have hs : ((l.take j).map (shF p)).length ≤ j := by simp; omega
    apply evshift
    simp only [spec_InsertSeat.l0]
    refine evp (by omega) (evp (by omega) ?_)
    rw [wnext j (by omega)]
    by_cases c : rd l (j : Int) ≥ p
    · refine evp c (evp (by omega) ?_)
      rw [w64 (by omega) (by omega)]
      simpa [shF, c] using ih
    · refine evn c (evp (by omega) ?_)
      simpa [shF, c] using ih
theorem insNo (n : Int) (ring : Bool) (l : List Int) (p : Int) (b : Bool) : Ev (fun k => spec_InsertSeat.j0 k p b true n ring l) (0, false, [], false) ∧ Ev (fun k => impl_InsertSeat.j0 k p b true n ring l) (0, false, [], false) := by
  constructor
  · apply evshift; simp only [spec_InsertSeat.j0]; exact evp (by simp) (evs _)
  · apply evshift; simp only [impl_InsertSeat.j0]; exact evp (by simp) (evs _)
/-- What the reference makes of the row: a list R that ascends and holds the shifted seats, and the new one if it is taken. -/
theorem specIns (n : Int) (ring : Bool) (l : List Int) (p : Int) (b : Bool) (ok : RowOK n ring l) (hl : l.length ≤ 1048575) : ∃ R : List Int, Ev (fun k => spec_InsertSeat.j0 k p b false n ring l) (if rowB (n + 1) ring R = true then (n + 1, ring, R, true) else (0, false, [], false)) ∧ R.Pairwise (· < ·) ∧ (∀ y, y ∈ R ↔ (b = true ∧ y = p) ∨ ∃ x ∈ l, y = shF p x) ∧ R.length ≤ 1048576 := by
  have hp : (l.map (shF p)).Pairwise (· < ·) := ok.inc.map _ fun a b h => shF_lt h
  have hn : wrap64 (n + 1) = n + 1 := w64 (by have := ok.lo; omega) (by have := ok.hi; omega)
  have hx : ∀ y, y ∈ l.map (shF p) ↔ ∃ x ∈ l, y = shF p x := fun y => by
    rw [List.mem_map]
    constructor
    · rintro ⟨x, h, rfl⟩; exact ⟨x, h, rfl⟩
    · rintro ⟨x, h, rfl⟩; exact ⟨x, h, rfl⟩
  have start : ∀ r, Ev (fun k => spec_InsertSeat.l0 k p b (l.length : Int) n ring l (n + 1) ring (l.map (shF p))) r → Ev (fun k => spec_InsertSeat.j0 k p b false n ring l) r := fun r hr => by
    apply evshift
    simp only [spec_InsertSeat.j0]
    refine evn (by simp) ?_
    rw [hn]
    have h := specIns_loop n ring l p b hl ok.m32 r (n + 1) hr l.length 0 (by omega)
    simpa using h
  cases b with
  | true =>
    obtain ⟨R, h1, h2, h3, h4⟩ := ev_l1Put (l.map (shF p)) p (by simp; omega) hp
    rw [List.length_map] at h4
    refine ⟨R, start _ ?_, h2, fun y => by rw [h3, hx]; simp, by omega⟩
    apply evshift
    simp only [spec_InsertSeat.l0]
    refine evn (by omega) (evp (by simp) (evb h1 (evb (ev_l2Kept (n + 1) ring R (by omega)) ?_)))
    exact evs _
  | false =>
    refine ⟨l.map (shF p), start _ ?_, hp, fun y => by rw [hx]; simp, by simp; omega⟩
    apply evshift
    simp only [spec_InsertSeat.l0]
    refine evn (by omega) (evn (by simp) (evb (ev_l2Kept (n + 1) ring _ (by simp; omega)) ?_))
    exact evs _
theorem bothInsertSeat (n : Int) (ring : Bool) (l : List Int) (p : Int) (b : Bool) (hl : l.length ≤ 1048576) : ∃ n' b' R ok, Ev (fun k => spec_InsertSeat.f k n ring l p b) (n', b', R, ok) ∧ Ev (fun k => impl_InsertSeat.f k n ring l p b) (n', b', R, ok) ∧ R.length ≤ 1048576 := by
  have hS := ev_l2Row n ring l hl
  have hI := ev_isRow n ring l hl
  have no := insNo n ring l p b
  unfold spec_InsertSeat.f impl_InsertSeat.f
  cases hb : rowB n ring l with
  | false =>
    rw [hb] at hS hI
    exact ⟨0, false, [], false, evb hS (evn (by simp) no.1), evb hI (evn (by simp) no.2), by simp⟩
  | true =>
    rw [hb] at hS hI
    have ok := rowB_ok hb
    have := ok.lo; have := ok.hi; have := ok.len
    by_cases hw : 0 ≤ p ∧ p ≤ n
    · obtain ⟨q, rfl⟩ : ∃ q : Nat, p = q := ⟨p.toNat, by omega⟩
      obtain ⟨R, h1, h2, h3, h4⟩ := specIns n ring l q b ok (by omega)
      have hs : Ev (fun k => (spec_l1In.f (q : Int) 0 n).bind fun t => spec_InsertSeat.j0 k (q : Int) b (!t) n ring l) (if rowB (n + 1) ring R = true then (n + 1, ring, R, true) else (0, false, [], false)) := by
        refine evc (in_spec _ _ _) ?_
        rw [decide_eq_true hw]
        exact h1
      by_cases h24 : n = 24
      · have hf : ¬ rowB (n + 1) ring R = true := fun h => by have := (rowB_ok h).hi; omega
        rw [if_neg hf] at hs
        refine ⟨0, false, [], false, evb hS (evp rfl hs), evb hI (evp rfl (evc (in_impl _ _ _) (evp (by simpa using hw) ?_))), by simp⟩
        rw [show (n == 24) = true by simpa using h24]
        exact no.2
      · have hmem : ∀ y ∈ R, 0 ≤ y ∧ y < n + 1 := fun y hy => by
          rcases (h3 y).1 hy with ⟨_, rfl⟩ | ⟨x, hx, rfl⟩
          · omega
          · have := ok.mem x hx
            unfold shF; split <;> omega
        have ok' : RowOK (n + 1) ring R := ⟨by omega, by omega, fun h => by have := ok.ring3 h; omega, hmem, h2⟩
        rw [if_pos (rowB_mk ok')] at hs
        have hT := ev_taken n ring l ok.m32 hl
        -- the set of the shifted seats
        have hset : ∀ i : Nat, i < 32 → (((decide ((i : Int) ∈ l) && decide (i < q)) || (decide (0 < i) && (decide (((i - 1 : Nat) : Int) ∈ l) && !(decide (((i - 1 : Nat) : Int) ∈ l) && decide (i - 1 < q))))) = true ↔ ∃ x ∈ l, (i : Int) = shF q x) := fun i _ => by
          simp only [Bool.or_eq_true, Bool.and_eq_true, decide_eq_true_eq, Bool.not_eq_true', Bool.and_eq_false_iff, decide_eq_false_iff_not]
          constructor
          · rintro (⟨h5, h6⟩ | ⟨h5, h6, h7⟩)
            · exact ⟨i, h5, by unfold shF; rw [if_neg (by omega)]⟩
            · have h8 : ¬ i - 1 < q := by
                rcases h7 with h7 | h7
                · exact absurd h6 h7
                · exact h7
              exact ⟨_, h6, by unfold shF; rw [if_pos (by omega)]; omega⟩
          · rintro ⟨x, hx, e⟩
            have hx0 := ok.mem x hx
            unfold shF at e
            by_cases c : x ≥ (q : Int)
            · rw [if_pos c] at e
              have e2 : ((i - 1 : Nat) : Int) = x := by omega
              exact .inr ⟨by omega, by rw [e2]; exact hx, .inr (by omega)⟩
            · rw [if_neg c] at e
              exact .inl ⟨by rw [e]; exact hx, by omega⟩
        have hsel : ∀ Q : Nat → Bool, (∀ i, i < 32 → (Q i = true ↔ ((b = true ∧ i = q) ∨ ∃ x ∈ l, (i : Int) = shF q x))) → sel 32 Q = R := fun Q hQ => by
          refine sel_is h2 fun y => ?_
          constructor
          · intro hy
            have hy0 := hmem y hy
            refine ⟨y.toNat, by omega, (hQ _ (by omega)).2 ?_, by omega⟩
            rcases (h3 y).1 hy with ⟨h5, h6⟩ | h5
            · exact .inl ⟨h5, by omega⟩
            · rw [Int.toNat_of_nonneg hy0.1]; exact .inr h5
          · rintro ⟨i, h5, h6, rfl⟩
            rcases (hQ i h5).1 h6 with ⟨h7, h8⟩ | h7
            · exact (h3 _).2 (.inl ⟨h7, by omega⟩)
            · exact (h3 _).2 (.inr h7)
        refine ⟨n + 1, ring, R, true, evb hS (evp rfl hs), evb hI (evp rfl (evc (in_impl _ _ _) (evp (by simpa using hw) ?_))), by omega⟩
        rw [show (n == 24) = false by simpa using h24]
        apply evshift
        simp only [impl_InsertSeat.j0]
        refine evn (by simp) (evb hT (evp (by omega) (evb hT ?_)))
        rw [M_all (by omega : q < 32), M_and, M_andNot, M_twice, M_or, M_one (by omega : q < 32), M_or, w64 (by omega) (by omega)]
        cases b with
        | true =>
          have hr := ev_benchRow (n + 1) ring fun i => ((decide ((i : Int) ∈ l) && decide (i < q)) || (decide (0 < i) && (decide (((i - 1 : Nat) : Int) ∈ l) && !(decide (((i - 1 : Nat) : Int) ∈ l) && decide (i - 1 < q))))) || decide (i = q)
          rw [hsel _ fun i hi => by rw [Bool.or_eq_true, hset i hi, decide_eq_true_eq, or_comm]; simp] at hr
          exact evp (by simp) (evb hr (evs _))
        | false =>
          have hr := ev_benchRow (n + 1) ring fun i => (decide ((i : Int) ∈ l) && decide (i < q)) || (decide (0 < i) && (decide (((i - 1 : Nat) : Int) ∈ l) && !(decide (((i - 1 : Nat) : Int) ∈ l) && decide (i - 1 < q))))
          rw [hsel _ fun i hi => by rw [hset i hi]; simp] at hr
          exact evn (by simp) (evb hr (evs _))
    · refine ⟨0, false, [], false, evb hS (evp rfl (evc (in_spec _ _ _) ?_)), evb hI (evp rfl (evc (in_impl _ _ _) (evn (by simpa using hw) no.2))), by simp⟩
      rw [decide_eq_false hw]
      exact no.1
theorem FnExactInsertSeat : laws_FnExactInsertSeat.Pure := by
  intro n ring l a b _ hm _ _
  refine Ev.rounds (g := fun k => laws_FnExactInsertSeat.f k n ring l a b) ?_
  unfold laws_FnExactInsertSeat.f
  by_cases hl : l.length ≤ 1048576
  · obtain ⟨n', b', R, ok, hS, hI, hR⟩ := bothInsertSeat n ring l a b hl
    refine evc (szRow_ok (by omega) (by omega)) ?_
    repeat (first
      | exact evs true
      | (with_reducible refine evb hS ?_)
      | (with_reducible refine evb hI ?_)
      | (with_reducible refine evb (ev_toIntS _ (by assumption)) ?_)
      | (with_reducible refine evb (ev_toRow _ _ _ (by assumption)) ?_)
      | (with_reducible refine evb (ev_eqIntS _ (by assumption)) ?_)
      | (with_reducible refine evb (ev_eqRow _ _ _ (by assumption)) ?_)
      | (with_reducible refine evb (ev_markIntS _ _ (by assumption) (by omega) (by omega)) ?_)
      | (with_reducible refine evb (ev_markRow _ _ _ _ (by assumption) (by omega) (by omega)) ?_)
      | (with_reducible refine evb (ev_heldIntS _ _ (by assumption) (by omega) (by omega)) ?_)
      | (with_reducible refine evb (ev_heldRow _ _ _ _ (by assumption) (by omega) (by omega)) ?_)
      | (with_reducible show Ev (fun k => laws_FnExactInsertSeat.j0 k _ _ _ _ _ _ _ _ _ _ _ _ _ _ _ _ _) _; apply evshift; simp only [laws_FnExactInsertSeat.j0])
      | (with_reducible show Ev (fun k => laws_FnExactInsertSeat.j1 k _ _ _ _ _ _ _ _ _ _ _ _ _) _; apply evshift; simp only [laws_FnExactInsertSeat.j1])
      | (with_reducible show Ev (fun k => laws_FnExactInsertSeat.j2 k _ _ _ _ _) _; apply evshift; simp only [laws_FnExactInsertSeat.j2])
      | (refine evp ?hc ?_; (case hc => first | omega | (simp; done)))
      | (refine evn ?hc ?_; (case hc => first | omega | (simp; done)))
      | dsimp only)
  · exact evc (szRow_big (by omega) hm) (evp (by omega) (evs _))

end Go.Proofs.YtpbpknfmhnjgcaaDoor.Pure
