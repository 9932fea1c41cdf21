/- The law laws.FnExactTurnSeats, told as plain Lean functions of numbers, lists and strings, answers true for every input, if enough rounds are given: the program's TurnSeats answers what the reference's answers. Conditions: none but the kinds' own (each number one of its kind, each length one that the model reads). -/
import Derived.Test.YtdbdmdegnmoblaaDoorPFnExactTurnSeatsx6
import Derived.Test.YtdbdmdegnmoblaaDoorBase
namespace Go.Proofs.YtdbdmdegnmoblaaDoor.Pure
open Go.RowKit Go.Proofs.YtdbdmdegnmoblaaDoor.PFnExactTurnSeats Go.Proofs.YtdbdmdegnmoblaaDoorW.PrintWords Go.Proofs.YtdbdmdegnmoblaaDoorW.PrintLast Go.Proofs.YtdbdmdegnmoblaaDoorW.PrintMore Go.Proofs.YtdbdmdegnmoblaaDoor.Base

theorem sz_big {l : List Int} (h : 1048576 < l.length) (hm : l.length ≤ maxLen) : laws_szIntS.f l 1048576 = some (-1) := by
  unfold maxLen at hm
  unfold laws_szIntS.f
  rw [w64 (by omega) (by omega), if_pos (by omega)]
theorem sz_ok {l : List Int} {m : Int} (h : (l.length : Int) ≤ m) (hm : m ≤ 1048576) : laws_szIntS.f l m = some (m - l.length) := by
  unfold laws_szIntS.f
  rw [w64 (by omega) (by omega), if_neg (by omega)]
theorem szRow_big {a : Int} {b : Bool} {l : List Int} (h : 1048576 < l.length) (hm : l.length ≤ maxLen) : laws_szRow.f a b l 1048576 = some (-1) := by
  unfold laws_szRow.f
  rw [sz_big h hm]
  rfl
theorem szRow_ok {a : Int} {b : Bool} {l : List Int} {m : Int} (h : (l.length : Int) ≤ m) (hm : m ≤ 1048576) : laws_szRow.f a b l m = some (m - l.length) := by
  unfold laws_szRow.f
  rw [sz_ok h hm]
  simp only [Option.bind_some]
  rw [if_neg (by omega)]
theorem toIntS_loop (l : List Int) (hl : l.length ≤ 1048576) : ∀ d j, j + d = l.length → Ev (fun k => laws_toIntS.l0 k l (l.take j ++ List.replicate (l.length - j) 0) (j : Int)) l
  | 0, j, h => by
    apply evshift
    simp only [laws_toIntS.l0]
    refine evn (by omega) ?_
    have e : l.take j ++ List.replicate (l.length - j) 0 = l := by rw [show j = l.length by omega]; simp
    rw [e]
    exact evs _
  | d + 1, j, h => by
    have ih := toIntS_loop l hl d (j + 1) (by omega)
    apply evshift
    simp only [laws_toIntS.l0]
    refine evp (by omega) (evp (by omega) (evp (by simp; omega) ?_))
    rw [Int.toNat_natCast, set_copy l j (by omega), wnext j (by omega)]
    exact ih
theorem ev_toIntS (l : List Int) (hl : l.length ≤ 1048576) : Ev (fun k => laws_toIntS.f k l) l := by
  unfold laws_toIntS.f
  refine evp (by omega) (evp (by omega) ?_)
  have h := toIntS_loop l hl l.length 0 (by omega)
  simpa using h
theorem ev_toRow (a : Int) (b : Bool) (l : List Int) (hl : l.length ≤ 1048576) : Ev (fun k => laws_toRow.f k a b l) (a, b, l) := by
  unfold laws_toRow.f
  exact evb (ev_toIntS l hl) (evs _)
theorem eqIntS_loop (l : List Int) (hl : l.length ≤ 1048576) : ∀ d j, j + d = l.length → Ev (fun k => laws_eqIntS.l0 k l l (j : Int)) true
  | 0, j, h => by
    apply evshift
    simp only [laws_eqIntS.l0]
    exact evn (by omega) (evs _)
  | d + 1, j, h => by
    have ih := eqIntS_loop l hl d (j + 1) (by omega)
    apply evshift
    simp only [laws_eqIntS.l0]
    refine evp (by omega) (evp (by omega) (evp (by omega) (evp (by trivial) ?_)))
    rw [wnext j (by omega)]
    exact ih
theorem ev_eqIntS (l : List Int) (hl : l.length ≤ 1048576) : Ev (fun k => laws_eqIntS.f k l l) true := by
  unfold laws_eqIntS.f
  exact evp (by trivial) (eqIntS_loop l hl l.length 0 (by omega))
theorem ev_eqRow (a : Int) (b : Bool) (l : List Int) (hl : l.length ≤ 1048576) : Ev (fun k => laws_eqRow.f k a b l a b l) true := by
  unfold laws_eqRow.f
  refine evp (by simp) (evn (by simp) ?_)
  exact evb (ev_eqIntS l hl) (evp (by trivial) (evs _))
theorem markIntS_loop (l : List Int) (m : Int) (hl : l.length ≤ 1048576) (h0 : 0 ≤ m) (hm : m ≤ 1099511627776) : ∀ d j, j + d = l.length → Ev (fun k => laws_markIntS.l0 k (marks m j ++ l.drop j) (m + (j : Int)) (j : Int)) (m + (l.length : Int), marks m l.length)
  | 0, j, h => by
    obtain rfl : j = l.length := by omega
    apply evshift
    simp only [laws_markIntS.l0]
    refine evn (by simp [marks_len]) ?_
    simp only [List.drop_length, List.append_nil]
    exact evs _
  | d + 1, j, h => by
    have ih := markIntS_loop l m hl h0 hm d (j + 1) (by omega)
    apply evshift
    simp only [laws_markIntS.l0]
    refine evp (by simp [marks_len]; omega) (evp (by omega) ?_)
    rw [Int.toNat_natCast, set_marks m l j (by omega), wnext j (by omega), w64 (by omega) (by omega), show m + (j : Int) + 1 = m + ((j + 1 : Nat) : Int) by omega]
    exact ih
theorem ev_markIntS (l : List Int) (m : Int) (hl : l.length ≤ 1048576) (h0 : 0 ≤ m) (hm : m ≤ 1099511627776) : Ev (fun k => laws_markIntS.f k l m) (m + (l.length : Int), marks m l.length) := by
  unfold laws_markIntS.f
  have h := markIntS_loop l m hl h0 hm l.length 0 (by omega)
  simpa [marks] using h
theorem ev_markRow (a : Int) (b : Bool) (l : List Int) (m : Int) (hl : l.length ≤ 1048576) (h0 : 0 ≤ m) (hm : m ≤ 1099511627776) : Ev (fun k => laws_markRow.f k a b l m) (m + (l.length : Int), marks m l.length) := by
  unfold laws_markRow.f
  exact evb (ev_markIntS l m hl h0 hm) (evs _)
theorem heldIntS_loop (n : Nat) (m : Int) (hn : n ≤ 1048576) (h0 : 0 ≤ m) (hm : m ≤ 1099511627776) : ∀ d j, j + d = n → Ev (fun k => laws_heldIntS.l0 k (marks m n) (m + (j : Int)) (j : Int)) (m + (n : Int))
  | 0, j, h => by
    obtain rfl : j = n := by omega
    apply evshift
    simp only [laws_heldIntS.l0]
    exact evn (by rw [marks_len]; omega) (evs _)
  | d + 1, j, h => by
    have ih := heldIntS_loop n m hn h0 hm d (j + 1) (by omega)
    apply evshift
    simp only [laws_heldIntS.l0]
    refine evp (by rw [marks_len]; omega) (evp (by omega) (evp (rd_marks (by omega)) ?_))
    rw [wnext j (by omega), w64 (by omega) (by omega), show m + (j : Int) + 1 = m + ((j + 1 : Nat) : Int) by omega]
    exact ih
theorem ev_heldIntS (n : Nat) (m : Int) (hn : n ≤ 1048576) (h0 : 0 ≤ m) (hm : m ≤ 1099511627776) : Ev (fun k => laws_heldIntS.f k (marks m n) m) (m + (n : Int)) := by
  unfold laws_heldIntS.f
  have h := heldIntS_loop n m hn h0 hm n 0 (by omega)
  simpa using h
theorem ev_heldRow (a : Int) (b : Bool) (n : Nat) (m : Int) (hn : n ≤ 1048576) (h0 : 0 ≤ m) (hm : m ≤ 1099511627776) : Ev (fun k => laws_heldRow.f k a b (marks m n) m) (m + (n : Int)) := by
  unfold laws_heldRow.f
  exact evb (ev_heldIntS n m hn h0 hm) (evn (by omega) (evs _))
theorem in_spec (a lo hi : Int) : spec_l1In.f a lo hi = some (decide (lo ≤ a ∧ a ≤ hi)) := by
  unfold spec_l1In.f
  split
  · congr 1; simp; omega
  · congr 1; simp; omega
theorem rising_loop (l : List Int) (m : Int) (hl : l.length ≤ 1048576) : ∀ d j, j + d = l.length → Ev (fun k => spec_l1Rising.l0 k l 0 m (j : Int)) (okFrom m l d j)
  | 0, j, h => by
    apply evshift
    simp only [spec_l1Rising.l0]
    exact evn (by omega) (evs _)
  | d + 1, j, h => by
    have ih := rising_loop l m hl d (j + 1) (by omega)
    apply evshift
    simp only [spec_l1Rising.l0, in_spec, Option.bind_some]
    refine evp (by omega) (evp (by omega) ?_)
    simp only [okFrom, okAt]
    by_cases h1 : 0 ≤ rd l (j : Int) ∧ rd l (j : Int) ≤ m
    · refine evp (by simpa using h1) ?_
      rw [decide_eq_true h1, Bool.true_and]
      by_cases h2 : j = 0
      · refine evn (by omega) ?_
        rw [wnext j (by omega), decide_eq_true h2, Bool.true_or, Bool.true_and]
        exact ih
      · refine evp (by omega) ?_
        rw [w64 (by omega) (by omega)]
        refine evp (by omega) (evp (by omega) ?_)
        by_cases h3 : rd l ((j : Int) - 1) < rd l (j : Int)
        · refine evn (by omega) ?_
          rw [wnext j (by omega)]
          simpa [h3] using ih
        · refine evp (by omega) ?_
          simpa [h2, h3] using evs false
    · refine evn (by simpa using h1) ?_
      simpa [h1] using evs false
theorem ev_rising (l : List Int) (m : Int) (hl : l.length ≤ 1048576) : Ev (fun k => spec_l1Rising.f k l 0 m) (okFrom m l l.length 0) := by
  unfold spec_l1Rising.f
  exact rising_loop l m hl l.length 0 (by omega)
theorem ev_l2Row (n : Int) (ring : Bool) (l : List Int) (hl : l.length ≤ 1048576) : Ev (fun k => spec_l2Row.f k n ring l) (rowB n ring l) := by
  unfold spec_l2Row.f
  simp only [in_spec, Option.bind_some, rowB]
  by_cases h1 : 2 ≤ n ∧ n ≤ 24
  · refine evp (by simpa using h1) ?_
    rw [w64 (by omega) (by omega)]
    cases ring with
    | true =>
      refine evp rfl ?_
      by_cases h2 : n > 2
      · refine evp h2 (evb (ev_rising l _ hl) ?_)
        have h3 : 3 ≤ n := by omega
        simpa [h1, h3] using evs _
      · refine evn h2 ?_
        have h3 : ¬ 3 ≤ n := by omega
        simpa [h3] using evs false
    | false =>
      refine evn (by simp) (evb (ev_rising l _ hl) ?_)
      simpa [h1] using evs _
  · refine evn (by simpa using h1) ?_
    simpa [h1] using evs false
theorem l1Put_loop (l : List Int) (x : Int) (hl : l.length ≤ 1048576) (hp : l.Pairwise (· < ·)) : ∀ d j, j + d = l.length → (∀ y ∈ l.take j, y < x) →
    ∃ R : List Int, Ev (fun k => spec_l1Put.l0 k l x (j : Int)) R ∧ R.Pairwise (· < ·) ∧ (∀ y, y ∈ R ↔ y = x ∨ y ∈ l) ∧ R.length ≤ l.length + 1
  | 0, j, h, hb => by
    obtain rfl : j = l.length := by omega
    rw [List.take_length] at hb
    refine ⟨l ++ [x], ?_, ?_, fun y => by simp [or_comm], by simp⟩
    · apply evshift
      simp only [spec_l1Put.l0, Option.bind_some, Int.toNat_natCast, List.take_length, List.drop_length, List.nil_append, List.length_nil, List.length_append, List.length_singleton, List.append_nil]
      refine evn (by omega) ?_
      repeat (first | exact evs _ | (refine evp ?hc ?_; (case hc => omega)) | (refine evn ?hc ?_; (case hc => omega)))
    · refine List.pairwise_append.2 ⟨hp, List.pairwise_singleton _ _, fun a ha b hb' => ?_⟩
      rw [List.mem_singleton.1 hb']; exact hb a ha
  | d + 1, j, h, hb => by
    have hj : j < l.length := by omega
    by_cases c1 : rd l (j : Int) < x
    · obtain ⟨R, h1, h2⟩ := l1Put_loop l x hl hp d (j + 1) (by omega) (fun y hy => by
        rw [List.take_succ_eq_append_getElem hj, List.mem_append, List.mem_singleton] at hy
        rcases hy with hy | rfl
        · exact hb y hy
        · rw [rd_lt hj] at c1; exact c1)
      refine ⟨R, ?_, h2⟩
      apply evshift
      simp only [spec_l1Put.l0]
      refine evp (by omega) (evp (by omega) (evp c1 ?_))
      rw [wnext j (by omega)]
      exact h1
    · by_cases c2 : rd l (j : Int) = x
      · refine ⟨l, ?_, hp, fun y => ⟨.inr, fun hy => ?_⟩, by omega⟩
        · apply evshift
          simp only [spec_l1Put.l0]
          exact evp (by omega) (evp (by omega) (evn c1 (evp c2 (evs _))))
        · rcases hy with rfl | hy
          · rw [← c2]; exact rd_mem hj
          · exact hy
      · have hd : ∀ y ∈ l.drop j, x < y := fun y hy => by
          rw [drop_cons hj, List.mem_cons] at hy
          rcases hy with rfl | hy
          · omega
          · have := hp.sublist (List.drop_sublist j l)
            rw [drop_cons hj, List.pairwise_cons] at this
            have := this.1 y hy
            omega
        refine ⟨l.take j ++ [x] ++ l.drop j, ?_, ?_, fun y => ?_, by simp; omega⟩
        · apply evshift
          simp only [spec_l1Put.l0, Option.bind_some, Int.toNat_natCast, List.nil_append, List.length_nil, List.length_append, List.length_singleton, List.length_take, List.length_drop]
          refine evp (by omega) (evp (by omega) (evn c1 (evn c2 ?_)))
          repeat (first | exact evs _ | (refine evp ?hc ?_; (case hc => omega)) | (refine evn ?hc ?_; (case hc => omega)))
        · rw [List.append_assoc]
          refine List.pairwise_append.2 ⟨hp.sublist (List.take_sublist j l), ?_, fun a ha b hb' => ?_⟩
          · rw [List.singleton_append, List.pairwise_cons]
            exact ⟨hd, hp.sublist (List.drop_sublist j l)⟩
          · rw [List.singleton_append, List.mem_cons] at hb'
            have := hb a ha
            rcases hb' with rfl | hb'
            · exact this
            · have := hd b hb'; omega
        · have e : y ∈ l ↔ y ∈ l.take j ∨ y ∈ l.drop j := by rw [← List.mem_append, List.take_append_drop]
          rw [e, List.mem_append, List.mem_append, List.mem_singleton]
          constructor
          · rintro ((h | h) | h)
            · exact .inr (.inl h)
            · exact .inl h
            · exact .inr (.inr h)
          · rintro (h | h | h)
            · exact .inl (.inr h)
            · exact .inl (.inl h)
            · exact .inr h
theorem ev_l1Put (l : List Int) (x : Int) (hl : l.length ≤ 1048576) (hp : l.Pairwise (· < ·)) : ∃ R : List Int, Ev (fun k => spec_l1Put.f k l x) R ∧ R.Pairwise (· < ·) ∧ (∀ y, y ∈ R ↔ y = x ∨ y ∈ l) ∧ R.length ≤ l.length + 1 := by
  unfold spec_l1Put.f
  exact l1Put_loop l x hl hp l.length 0 (by omega) (by simp)
theorem in_impl (a lo hi : Int) : impl_within.f a lo hi = some (decide (lo ≤ a ∧ a ≤ hi)) := by
  unfold impl_within.f
  split
  · congr 1; simp; omega
  · congr 1; simp; omega
theorem allWithin_loop (l : List Int) (lo hi : Int) (hl : l.length ≤ 1048576) : ∀ d j, j + d = l.length → Ev (fun k => impl_allWithin.l0 k lo hi l (l.length : Int) (j : Int)) ((l.drop j).all fun x => decide (lo ≤ x ∧ x ≤ hi))
  | 0, j, h => by
    apply evshift
    simp only [impl_allWithin.l0]
    refine evn (by omega) ?_
    rw [List.drop_eq_nil_of_le (by omega)]
    exact evs _
  | d + 1, j, h => by
    have ih := allWithin_loop l lo hi hl d (j + 1) (by omega)
    apply evshift
    simp only [impl_allWithin.l0, in_impl, Option.bind_some]
    refine evp (by omega) (evp (by omega) (evp (by omega) ?_))
    rw [drop_cons (by omega : j < l.length), List.all_cons]
    by_cases h1 : lo ≤ rd l (j : Int) ∧ rd l (j : Int) ≤ hi
    · refine evp (by simpa using h1) ?_
      rw [wnext j (by omega)]
      simpa [h1] using ih
    · refine evn (by simpa using h1) ?_
      simpa [h1] using evs false
theorem ev_allWithin (l : List Int) (lo hi : Int) (hl : l.length ≤ 1048576) : Ev (fun k => impl_allWithin.f k l lo hi) (l.all fun x => decide (lo ≤ x ∧ x ≤ hi)) := by
  unfold impl_allWithin.f
  have h := allWithin_loop l lo hi hl l.length 0 (by omega)
  simpa using h
theorem ev_benchHas (n : Int) (ring : Bool) (l : List Int) (hl : l.length ≤ 1048576) : Ev (fun k => impl_bench_has.f k n ring l) (l.all fun x => decide (0 ≤ x ∧ x ≤ wrap64 (n - 1))) := by
  unfold impl_bench_has.f
  exact evb (ev_allWithin l 0 _ hl) (evs _)
theorem benchValid (n : Int) (ring : Bool) : impl_bench_valid.f n ring = some (decide (2 ≤ n ∧ n ≤ 24) && (!ring || decide (3 ≤ n))) := by
  unfold impl_bench_valid.f
  simp only [in_impl, Option.bind_some]
  by_cases h1 : 2 ≤ n ∧ n ≤ 24
  · rw [if_pos (by simpa using h1)]
    cases ring <;> simp [h1]
  · rw [if_neg (by simpa using h1)]
    simp [h1]
theorem isRow_loop (n : Int) (ring : Bool) (l : List Int) (hl : l.length ≤ 1048576) : ∀ d j, j + d = l.length →
    Ev (fun k => impl_IsRow.l0 k l (l.length : Int) (j : Int) n ring l) (okFrom (wrap64 (n - 1)) l d j && (decide (2 ≤ n ∧ n ≤ 24) && (!ring || decide (3 ≤ n))))
  | 0, j, h => by
    apply evshift
    simp only [impl_IsRow.l0, impl_Row_bench.f, Option.bind_some, benchValid]
    refine evn (by omega) ?_
    simpa [okFrom] using evs _
  | d + 1, j, h => by
    have ih := isRow_loop n ring l hl d (j + 1) (by omega)
    apply evshift
    simp only [impl_IsRow.l0, impl_Row_bench.f, Option.bind_some]
    refine evp (by omega) (evp (by omega) (evp (by omega) ?_))
    refine evb (ev_benchHas n ring [rd l (j : Int)] (by simp)) ?_
    simp only [okFrom, okAt, List.all_cons, List.all_nil, Bool.and_true]
    by_cases h1 : 0 ≤ rd l (j : Int) ∧ rd l (j : Int) ≤ wrap64 (n - 1)
    · refine evp (by simpa using h1) ?_
      rw [decide_eq_true h1, Bool.true_and]
      by_cases h2 : j = 0
      · refine evn (by omega) ?_
        rw [wnext j (by omega), decide_eq_true h2, Bool.true_or, Bool.true_and]
        exact ih
      · refine evp (by omega) ?_
        rw [w64 (by omega) (by omega)]
        refine evp (by omega) (evp (by omega) ?_)
        by_cases h3 : rd l ((j : Int) - 1) < rd l (j : Int)
        · refine evn (by omega) ?_
          rw [wnext j (by omega)]
          simpa [h3] using ih
        · refine evp (by omega) ?_
          simpa [h2, h3] using evs false
    · refine evn (by simpa using h1) ?_
      simpa [h1] using evs false
theorem ev_isRow (n : Int) (ring : Bool) (l : List Int) (hl : l.length ≤ 1048576) : Ev (fun k => impl_IsRow.f k n ring l) (rowB n ring l) := by
  unfold impl_IsRow.f
  refine eve (isRow_loop n ring l hl l.length 0 (by omega)) ?_
  unfold rowB
  by_cases h1 : 2 ≤ n ∧ n ≤ 24
  · rw [w64 (by omega) (by omega)]
    cases okFrom (n - 1) l l.length 0 <;> simp [h1]
  · simp [h1]
theorem ev_isSeat (n : Int) (ring : Bool) (l ps : List Int) (hl : l.length ≤ 1048576) (hp : ps.length ≤ 1048576) : Ev (fun k => impl_isSeat.f k n ring l ps) (rowB n ring l && ps.all fun p => decide (0 ≤ p ∧ p ≤ n - 1)) := by
  unfold impl_isSeat.f
  refine evb (ev_isRow n ring l hl) ?_
  by_cases h : rowB n ring l = true
  · have ok := rowB_ok h
    have := ok.lo; have := ok.hi
    refine evp h ?_
    simp only [impl_Row_bench.f, Option.bind_some]
    refine evb (ev_benchHas n ring ps hp) ?_
    rw [w64 (by omega) (by omega), h, Bool.true_and]
    exact evs _
  · refine evn h ?_
    rw [Bool.not_eq_true] at h
    rw [h, Bool.false_and]
    exact evs _
theorem tz_table : ∀ t : Nat, t < 32 → (0 ≤ ((((2 ^ t : Nat) : Int) * 125613361) % 4294967296) / 134217728) ∧ ((((2 ^ t : Nat) : Int) * 125613361) % 4294967296) / 134217728 < 32 ∧ wrap64 (rd xtab0 (((((2 ^ t : Nat) : Int) * 125613361) % 4294967296) / 134217728)) = (t : Int) := by decide +kernel
theorem tz_at {P : Nat → Bool} {t : Nat} (h32 : t < 32) (ht : P t = true) (hl : ∀ i, i < t → P i = false) : bits_TrailingZeros32.f (M P : Int) = some (t : Int) := by
  have h0 : ¬ ((M P : Nat) : Int) = 0 := fun h => by have := M_eq_zero.1 h t h32; rw [this] at ht; cases ht
  obtain ⟨h1, h2, h3⟩ := tz_table t h32
  unfold bits_TrailingZeros32.f
  rw [if_neg h0, (M_low h32 ht hl).1, if_pos h1, if_pos h2, h3]
theorem list_loop : ∀ (d : Nat) (P : Nat → Bool) (acc : List Int), (sel 32 P).length = d → acc.length + d ≤ 1048576 → Ev (fun k => impl_set_list.l0 k (M P : Int) acc) (acc ++ sel 32 P)
  | 0, P, acc, h, _ => by
    have hn : sel 32 P = [] := List.eq_nil_of_length_eq_zero h
    have hz : ∀ i, i < 32 → P i = false := fun i hi => by
      cases hp : P i with
      | false => rfl
      | true =>
        have : (i : Int) ∈ sel 32 P := mem_sel.2 ⟨i, hi, hp, rfl⟩
        rw [hn] at this; cases this
    apply evshift
    simp only [impl_set_list.l0]
    refine evp (M_eq_zero.2 hz) ?_
    rw [hn, List.append_nil]
    exact evs _
  | d + 1, P, acc, h, hb => by
    have hex : ∃ i, i < 32 ∧ P i = true := by
      rcases Classical.em (∃ i, i < 32 ∧ P i = true) with h1 | h1
      · exact h1
      · have : sel 32 P = [] := sel_none fun i hi => by
          cases hp : P i with
          | false => rfl
          | true => exact absurd ⟨i, hi, hp⟩ h1
        rw [this] at h; cases h
    obtain ⟨t, h1, h2, h3⟩ := least_of hex
    have hs := sel_low h1 h2 h3
    have h0 : ¬ ((M P : Nat) : Int) = 0 := fun h => by have := M_eq_zero.1 h t h1; rw [this] at h2; cases h2
    apply evshift
    simp only [impl_set_list.l0, tz_at h1 h2 h3, Option.bind_some, (M_low h1 h2 h3).2]
    refine evn h0 (evp (by omega) ?_)
    rw [hs, List.length_cons] at h
    refine eve (list_loop d _ (acc ++ [(t : Int)]) (by omega) (by rw [List.length_append, List.length_singleton]; omega)) ?_
    rw [hs, List.append_assoc]; rfl
theorem ev_list (P : Nat → Bool) : Ev (fun k => impl_set_list.f k (M P : Int)) (sel 32 P) := by
  unfold impl_set_list.f
  have h := list_loop _ P [] rfl (by have := sel_len_le 32 P; simp; omega)
  simpa using h
theorem ev_benchRow (n : Int) (ring : Bool) (P : Nat → Bool) : Ev (fun k => impl_bench_row.f k n ring (M P : Int)) (n, ring, sel 32 P) := by
  unfold impl_bench_row.f
  exact evb (ev_list P) (evs _)
theorem set_fold (tw : Int → Int) (ht : ∀ x, 0 ≤ tw x → tw x < 32 → ∃ p : Nat, p < 32 ∧ tw x = (p : Int)) : ∀ (l : List Int) (P : Nat → Bool), (∀ x ∈ l, 0 ≤ tw x ∧ tw x < 32) →
    l.foldl (fun o p => Go.bits .or .u32 o (shl .u32 1 (tw p))) (M P : Int) = (M (fun i => P i || l.any fun x => decide ((i : Int) = tw x)) : Int)
  | [], P, _ => by simp
  | x :: l, P, h => by
    obtain ⟨h1, h2⟩ := h x (by simp)
    obtain ⟨p, hp, e⟩ := ht x h1 h2
    rw [List.foldl_cons, e, M_one hp, M_or, set_fold tw ht l _ fun y hy => h y (by simp [hy])]
    refine congrArg _ (M_congr fun i _ => ?_)
    rw [List.any_cons, ← Bool.or_assoc, e]
    congr 2
    exact decide_eq_decide.2 (by omega)
theorem set_all (tw : Int → Int) (l : List Int) (h : ∀ x ∈ l, 0 ≤ tw x ∧ tw x < 32) : l.foldl (fun o p => Go.bits .or .u32 o (shl .u32 1 (tw p))) 0 = (M (fun i => l.any fun x => decide ((i : Int) = tw x)) : Int) := by
  rw [M_zero, set_fold tw (fun x h1 h2 => ⟨(tw x).toNat, by omega, by omega⟩) l _ h]
  simp
theorem turn_loop (n : Nat) (b : Bool) (l : List Int) (s : Int) (hn : n ≤ 24) (h0 : 0 < n) (hs : 0 ≤ s) (hs2 : s < n) (hl : l.length ≤ 1048576) (hm : ∀ x ∈ l, 0 ≤ x ∧ x < (n : Int)) : ∀ d j (R : List Int), j + d = l.length → R.length ≤ j → R.Pairwise (· < ·) →
    (∀ y, y ∈ R ↔ ∃ x ∈ l.take j, y = Int.tmod (x + s) n) → ∃ R' : List Int, Ev (fun k => spec_TurnSeats.l0 k s R (j : Int) (n : Int) b l) ((n : Int), b, R', true) ∧ R'.length ≤ l.length ∧ R'.Pairwise (· < ·) ∧ (∀ y, y ∈ R' ↔ ∃ x ∈ l, y = Int.tmod (x + s) n)
  | 0, j, R, h, hR, hp, hy => by
    obtain rfl : j = l.length := by omega
    rw [List.take_length] at hy
    refine ⟨R, ?_, hR, hp, hy⟩
    apply evshift
    simp only [spec_TurnSeats.l0]
    refine evn (by omega) ?_
    simp only [spec_l2Made.f, Option.bind_some]
    exact evs _
  | d + 1, j, R, h, hR, hp, hy => by
    have hj : j < l.length := by omega
    have hx := hm _ (rd_mem hj)
    obtain ⟨R1, e1, hp1, hy1, hl1⟩ := ev_l1Put R (Int.tmod (rd l (j : Int) + s) (n : Int)) (by omega) hp
    obtain ⟨R', e2, h2⟩ := turn_loop n b l s hn h0 hs hs2 hl hm d (j + 1) R1 (by omega) (by omega) hp1 (fun y => by
      rw [hy1, hy, List.take_succ_eq_append_getElem hj, ← rd_lt hj]
      constructor
      · rintro (rfl | ⟨x, hx, rfl⟩)
        · exact ⟨_, List.mem_append.2 (.inr (List.mem_singleton.2 rfl)), rfl⟩
        · exact ⟨x, List.mem_append.2 (.inl hx), rfl⟩
      · rintro ⟨x, hx, rfl⟩
        rcases List.mem_append.1 hx with hx | hx
        · exact .inr ⟨x, hx, rfl⟩
        · exact .inl (by rw [List.mem_singleton.1 hx]))
    refine ⟨R', ?_, h2⟩
    apply evshift
    simp only [spec_TurnSeats.l0]
    rw [w64 (x := rd l (j : Int) + s) (by omega) (by omega), wnext j (by omega)]
    exact evp (by omega) (evp (by omega) (evn (by omega) (evb e1 e2)))
theorem bothTurnSeats (n : Int) (b : Bool) (l : List Int) (s : Int) (hl : l.length ≤ 1048576) : ∃ n' b' R ok, Ev (fun k => spec_TurnSeats.f k n b l s) (n', b', R, ok) ∧ Ev (fun k => impl_TurnSeats.f k n b l s) (n', b', R, ok) ∧ R.length ≤ 1048576 := by
  have hS := ev_l2Row n b l hl
  have hI := ev_isSeat n b l [s] hl (by simp)
  unfold spec_TurnSeats.f impl_TurnSeats.f
  have out : Ev (fun k => spec_TurnSeats.j0 k s true n b l) (0, false, [], false) := by
    apply evshift
    simp only [spec_TurnSeats.j0]
    exact evp trivial (evs _)
  cases hb : rowB n b l with
  | false =>
    rw [hb] at hS hI
    exact ⟨0, false, [], false, evb hS (evn (by simp) out), evb hI (evn (by simp) (evs _)), by simp⟩
  | true =>
    rw [hb] at hS hI
    have ok := rowB_ok hb
    have := ok.lo; have := ok.hi
    obtain ⟨m, rfl⟩ : ∃ m : Nat, n = m := ⟨n.toNat, by omega⟩
    cases b with
    | false =>
      refine ⟨0, false, [], false, evb hS (evp rfl (evn (by simp) out)), ?_, by simp⟩
      refine evb hI ?_
      by_cases hc : (true && [s].all fun p => decide (0 ≤ p ∧ p ≤ (m : Int) - 1)) = true
      · exact evp hc (evn (by decide) (evs _))
      · exact evn hc (evs _)
    | true =>
      by_cases hr : 0 ≤ s ∧ s ≤ (m : Int) - 1
      · obtain ⟨R, e1, hl1, hp1, hy1⟩ := turn_loop m true l s (by omega) (by omega) hr.1 (by omega) hl ok.mem l.length 0 [] (by omega) (by simp) (by simp) (by simp)
        have hset : impl_TurnSeats_set s (m : Int) l = (M (fun i => l.any fun x => decide ((i : Int) = Int.tmod (x + s) m)) : Int) := set_all (impl_TurnSeats_to s (m : Int)) l fun x hx => by
          have := ok.mem x hx; unfold impl_TurnSeats_to
          have := Int.tmod_nonneg (m : Int) (show 0 ≤ x + s by omega); have := Int.tmod_lt_of_pos (x + s) (show 0 < (m : Int) by omega)
          omega
        have hrow := ev_benchRow (m : Int) true fun i => l.any fun x => decide ((i : Int) = Int.tmod (x + s) m)
        rw [sel_is (m := 32) hp1 fun x => ?_] at hrow
        · refine ⟨(m : Int), true, R, true, evb hS (evp rfl (evp rfl ?_)), evb hI (evp ?_ (evp rfl (evp ⟨⟨by omega, by omega⟩, ok.mem⟩ ?_))), by omega⟩
          · simp only [in_spec, Option.bind_some]
            apply evshift
            simp only [spec_TurnSeats.j0]
            rw [w64 (by omega) (by omega)]
            exact evn (by simp [hr]) e1
          · simp [hr]
          · rw [hset]; exact evb hrow (evs _)
        · rw [hy1]
          constructor
          · rintro ⟨y, hy, rfl⟩
            have := ok.mem y hy
            have h1 := Int.tmod_nonneg (m : Int) (show 0 ≤ y + s by omega); have := Int.tmod_lt_of_pos (y + s) (show 0 < (m : Int) by omega)
            exact ⟨(Int.tmod (y + s) m).toNat, by omega, by rw [List.any_eq_true]; exact ⟨y, hy, by rw [Int.toNat_of_nonneg h1]; simp⟩, by rw [Int.toNat_of_nonneg h1]⟩
          · rintro ⟨i, hi, hP, rfl⟩
            rw [List.any_eq_true] at hP
            obtain ⟨y, hy, e⟩ := hP
            exact ⟨y, hy, of_decide_eq_true e⟩
      · refine ⟨0, false, [], false, evb hS (evp rfl (evp rfl ?_)), evb hI (evn ?_ (evs _)), by simp⟩
        · simp only [in_spec, Option.bind_some]
          rw [w64 (by omega) (by omega), decide_eq_false hr]
          exact out
        · simp; omega
theorem FnExactTurnSeats : laws_FnExactTurnSeats.Pure := by
  intro n b l s _ hm _ _
  refine Ev.rounds (g := fun k => laws_FnExactTurnSeats.f k n b l s) ?_
  unfold laws_FnExactTurnSeats.f
  by_cases hl : l.length ≤ 1048576
  · obtain ⟨n', b', R, ok, hS, hI, hR⟩ := bothTurnSeats n b l s hl
    refine evc (szRow_ok (by omega) (by omega)) ?_
    repeat (first
      | exact evs true
      | (with_reducible refine evb hS ?_)
      | (with_reducible refine evb hI ?_)
      | (with_reducible refine evb (ev_toIntS _ (by assumption)) ?_)
      | (with_reducible refine evb (ev_toRow _ _ _ (by assumption)) ?_)
      | (with_reducible refine evb (ev_eqIntS _ (by assumption)) ?_)
      | (with_reducible refine evb (ev_eqRow _ _ _ (by assumption)) ?_)
      | (with_reducible refine evb (ev_markIntS _ _ (by assumption) (by omega) (by omega)) ?_)
      | (with_reducible refine evb (ev_markRow _ _ _ _ (by assumption) (by omega) (by omega)) ?_)
      | (with_reducible refine evb (ev_heldIntS _ _ (by assumption) (by omega) (by omega)) ?_)
      | (with_reducible refine evb (ev_heldRow _ _ _ _ (by assumption) (by omega) (by omega)) ?_)
      | (with_reducible show Ev (fun k => laws_FnExactTurnSeats.j0 k _ _ _ _ _ _ _ _ _ _ _ _ _ _ _ _) _; apply evshift; simp only [laws_FnExactTurnSeats.j0])
      | (with_reducible show Ev (fun k => laws_FnExactTurnSeats.j1 k _ _ _ _ _ _ _ _ _ _ _ _) _; apply evshift; simp only [laws_FnExactTurnSeats.j1])
      | (with_reducible show Ev (fun k => laws_FnExactTurnSeats.j2 k _ _ _ _ _) _; apply evshift; simp only [laws_FnExactTurnSeats.j2])
      | (refine evp ?hc ?_; (case hc => first | omega | (simp; done)))
      | (refine evn ?hc ?_; (case hc => first | omega | (simp; done)))
      | dsimp only)
  · exact evc (szRow_big (by omega) hm) (evp (by omega) (evs _))

end Go.Proofs.YtdbdmdegnmoblaaDoor.Pure
