/- The law laws.FnExactParseRow, told as plain Lean functions of numbers, lists and strings, answers true for every input, if enough rounds are given: the program's ParseRow answers what the reference's answers. Conditions: none but the kinds' own (each number one of its kind, each length one that the model reads). -/
import Derived.Test.YtajmlbpchfakcaaPFnExactParseRowx5
import Derived.Test.YtajmlbpchfakcaaBase
import Derived.Lib.IndexMore
namespace Go.Proofs.Ytajmlbpchfakcaa.Pure
open Go.RowKit Go.Proofs.Ytajmlbpchfakcaa.PFnExactParseRow Go.Proofs.YtajmlbpchfakcaaW.PrintWords Go.Proofs.YtajmlbpchfakcaaW.PrintLast Go.Proofs.YtajmlbpchfakcaaW.PrintMore Go.Proofs.Ytajmlbpchfakcaa.Base

theorem bt_list (x : ByteArray) (j : Nat) : bt x (j : Int) = ((x.data.toList.getD j 0).toNat : Int) := by
  unfold bt
  simp only [Int.toNat_natCast]
  by_cases h : j < x.size
  · have h' : j < x.data.toList.length := by simpa using h
    rw [dif_pos h, List.getD, List.getElem?_eq_getElem h']
    rfl
  · have h' : x.data.toList.length ≤ j := by
      have : x.data.toList.length = x.size := by simp
      omega
    rw [dif_neg h, List.getD, List.getElem?_eq_none h']
    rfl
theorem size_list (x : ByteArray) : x.data.toList.length = x.size := by simp
theorem bytes_same {a b : ByteArray} (h : a.data.toList = b.data.toList) : a = b := by
  cases a with
  | mk a => cases b with
    | mk b => simpa using h
theorem in_spec (a lo hi : Int) : spec_l1In.f a lo hi = some (decide (lo ≤ a ∧ a ≤ hi)) := by
  unfold spec_l1In.f
  split
  · congr 1; simp; omega
  · congr 1; simp; omega
theorem rising_loop (l : List Int) (m : Int) (hl : l.length ≤ 1048576) : ∀ d j, j + d = l.length → Ev (fun k => spec_l1Rising.l0 k l 0 m (j : Int)) (okFrom m l d j)
  | 0, j, h => by
    apply evshift
    simp only [spec_l1Rising.l0]
    exact evn (by omega) (evs _)
  | d + 1, j, h => by
    have ih := rising_loop l m hl d (j + 1) (by omega)
    apply evshift
    simp only [spec_l1Rising.l0, in_spec, Option.bind_some]
    refine evp (by omega) (evp (by omega) ?_)
    simp only [okFrom, okAt]
    by_cases h1 : 0 ≤ rd l (j : Int) ∧ rd l (j : Int) ≤ m
    · refine evp (by simpa using h1) ?_
      rw [decide_eq_true h1, Bool.true_and]
      by_cases h2 : j = 0
      · refine evn (by omega) ?_
        rw [wnext j (by omega), decide_eq_true h2, Bool.true_or, Bool.true_and]
        exact ih
      · refine evp (by omega) ?_
        rw [w64 (by omega) (by omega)]
        refine evp (by omega) (evp (by omega) ?_)
        by_cases h3 : rd l ((j : Int) - 1) < rd l (j : Int)
        · refine evn (by omega) ?_
          rw [wnext j (by omega)]
          simpa [h3] using ih
        · refine evp (by omega) ?_
          simpa [h2, h3] using evs false
    · refine evn (by simpa using h1) ?_
      simpa [h1] using evs false
theorem ev_rising (l : List Int) (m : Int) (hl : l.length ≤ 1048576) : Ev (fun k => spec_l1Rising.f k l 0 m) (okFrom m l l.length 0) := by
  unfold spec_l1Rising.f
  exact rising_loop l m hl l.length 0 (by omega)
theorem ev_l2Row (n : Int) (ring : Bool) (l : List Int) (hl : l.length ≤ 1048576) : Ev (fun k => spec_l2Row.f k n ring l) (rowB n ring l) := by
  unfold spec_l2Row.f
  simp only [in_spec, Option.bind_some, rowB]
  by_cases h1 : 2 ≤ n ∧ n ≤ 24
  · refine evp (by simpa using h1) ?_
    rw [w64 (by omega) (by omega)]
    cases ring with
    | true =>
      refine evp rfl ?_
      by_cases h2 : n > 2
      · refine evp h2 (evb (ev_rising l _ hl) ?_)
        have h3 : 3 ≤ n := by omega
        simpa [h1, h3] using evs _
      · refine evn h2 ?_
        have h3 : ¬ 3 ≤ n := by omega
        simpa [h3] using evs false
    | false =>
      refine evn (by simp) (evb (ev_rising l _ hl) ?_)
      simpa [h1] using evs _
  · refine evn (by simpa using h1) ?_
    simpa [h1] using evs false
theorem l1Has_loop (l : List Int) (x : Int) (hl : l.length ≤ 1048576) : ∀ d j, j + d = l.length → Ev (fun k => spec_l1Has.l0 k l x (j : Int)) (decide (x ∈ l.drop j))
  | 0, j, h => by
    apply evshift
    simp only [spec_l1Has.l0]
    refine evn (by omega) ?_
    rw [List.drop_eq_nil_of_le (by omega)]
    simpa using evs false
  | d + 1, j, h => by
    have ih := l1Has_loop l x hl d (j + 1) (by omega)
    apply evshift
    simp only [spec_l1Has.l0]
    refine evp (by omega) (evp (by omega) ?_)
    rw [drop_cons (by omega : j < l.length)]
    by_cases h1 : rd l (j : Int) = x
    · refine evp h1 ?_
      simpa [h1] using evs true
    · refine evn h1 ?_
      have h2 : ¬ x = rd l (j : Int) := fun h => h1 h.symm
      rw [wnext j (by omega)]
      simpa [h2] using ih
theorem ev_l1Has (l : List Int) (x : Int) (hl : l.length ≤ 1048576) : Ev (fun k => spec_l1Has.f k l x) (decide (x ∈ l)) := by
  unfold spec_l1Has.f
  have h := l1Has_loop l x hl l.length 0 (by omega)
  simpa using h
theorem ev_l2Is (n : Int) (ring : Bool) (l : List Int) (x : Int) (hl : l.length ≤ 1048576) : Ev (fun k => spec_l2Is.f k n ring l x) (decide (x ∈ l)) := by
  unfold spec_l2Is.f
  exact evb (ev_l1Has l x hl) (evs _)
/-- The text of the seats from j on, d of them. -/
def txtF (l : List Int) : Nat → Nat → ByteArray → ByteArray
  | 0, _, acc => acc
  | d + 1, j, acc => txtF l d (j + 1) (acc ++ (if (j : Int) ∈ l then (⟨#[120]⟩ : ByteArray) else (⟨#[46]⟩ : ByteArray)))
def headF (ring : Bool) : ByteArray := if ring = true then (⟨#[114, 105, 110, 103, 32]⟩ : ByteArray) else (⟨#[108, 105, 110, 101, 32]⟩ : ByteArray)
theorem txt_one (l : List Int) (j : Nat) : (if (j : Int) ∈ l then (⟨#[120]⟩ : ByteArray) else (⟨#[46]⟩ : ByteArray)).size = 1 := by split <;> rfl
theorem l2Text_loop (n : Nat) (ring : Bool) (l : List Int) (hl : l.length ≤ 1048576) (hn : n ≤ 1048576) : ∀ d j (acc : ByteArray), j + d = n → acc.size ≤ 5 + j → Ev (fun k => spec_l2Text.l0 k acc (j : Int) (n : Int) ring l) (txtF l d j acc)
  | 0, j, acc, h, _ => by
    apply evshift
    simp only [spec_l2Text.l0]
    exact evn (by omega) (evs _)
  | d + 1, j, acc, h, ha => by
    have ih := l2Text_loop n ring l hl hn d (j + 1) (acc ++ (if (j : Int) ∈ l then (⟨#[120]⟩ : ByteArray) else (⟨#[46]⟩ : ByteArray))) (by omega) (by rw [ByteArray.size_append, txt_one]; omega)
    apply evshift
    simp only [spec_l2Text.l0]
    refine evp (by omega) (evb (ev_l2Is (n : Int) ring l (j : Int) hl) ?_)
    rw [wnext j (by omega)]
    by_cases h1 : (j : Int) ∈ l
    · refine evp (by simpa using h1) (evp (by omega) ?_)
      rw [if_pos h1] at ih
      simpa [txtF, h1] using ih
    · refine evn (by simpa using h1) (evp (by omega) ?_)
      rw [if_neg h1] at ih
      simpa [txtF, h1] using ih
theorem ev_l2Text (n : Nat) (ring : Bool) (l : List Int) (hl : l.length ≤ 1048576) (hn : n ≤ 1048576) : Ev (fun k => spec_l2Text.f k (n : Int) ring l) (txtF l n 0 (headF ring)) := by
  unfold spec_l2Text.f headF
  cases ring with
  | true =>
    refine evp rfl (evshift ?_)
    simp only [spec_l2Text.j0]
    exact l2Text_loop n true l hl hn n 0 _ (by omega) (by decide)
  | false =>
    refine evn (by simp) (evshift ?_)
    simp only [spec_l2Text.j0]
    exact l2Text_loop n false l hl hn n 0 _ (by omega) (by decide)
theorem in_impl (a lo hi : Int) : impl_within.f a lo hi = some (decide (lo ≤ a ∧ a ≤ hi)) := by
  unfold impl_within.f
  split
  · congr 1; simp; omega
  · congr 1; simp; omega
theorem allWithin_loop (l : List Int) (lo hi : Int) (hl : l.length ≤ 1048576) : ∀ d j, j + d = l.length → Ev (fun k => impl_allWithin.l0 k lo hi l (l.length : Int) (j : Int)) ((l.drop j).all fun x => decide (lo ≤ x ∧ x ≤ hi))
  | 0, j, h => by
    apply evshift
    simp only [impl_allWithin.l0]
    refine evn (by omega) ?_
    rw [List.drop_eq_nil_of_le (by omega)]
    exact evs _
  | d + 1, j, h => by
    have ih := allWithin_loop l lo hi hl d (j + 1) (by omega)
    apply evshift
    simp only [impl_allWithin.l0, in_impl, Option.bind_some]
    refine evp (by omega) (evp (by omega) (evp (by omega) ?_))
    rw [drop_cons (by omega : j < l.length), List.all_cons]
    by_cases h1 : lo ≤ rd l (j : Int) ∧ rd l (j : Int) ≤ hi
    · refine evp (by simpa using h1) ?_
      rw [wnext j (by omega)]
      simpa [h1] using ih
    · refine evn (by simpa using h1) ?_
      simpa [h1] using evs false
theorem ev_allWithin (l : List Int) (lo hi : Int) (hl : l.length ≤ 1048576) : Ev (fun k => impl_allWithin.f k l lo hi) (l.all fun x => decide (lo ≤ x ∧ x ≤ hi)) := by
  unfold impl_allWithin.f
  have h := allWithin_loop l lo hi hl l.length 0 (by omega)
  simpa using h
theorem ev_benchHas (n : Int) (ring : Bool) (l : List Int) (hl : l.length ≤ 1048576) : Ev (fun k => impl_bench_has.f k n ring l) (l.all fun x => decide (0 ≤ x ∧ x ≤ wrap64 (n - 1))) := by
  unfold impl_bench_has.f
  exact evb (ev_allWithin l 0 _ hl) (evs _)
theorem benchValid (n : Int) (ring : Bool) : impl_bench_valid.f n ring = some (decide (2 ≤ n ∧ n ≤ 24) && (!ring || decide (3 ≤ n))) := by
  unfold impl_bench_valid.f
  simp only [in_impl, Option.bind_some]
  by_cases h1 : 2 ≤ n ∧ n ≤ 24
  · rw [if_pos (by simpa using h1)]
    cases ring <;> simp [h1]
  · rw [if_neg (by simpa using h1)]
    simp [h1]
theorem isRow_loop (n : Int) (ring : Bool) (l : List Int) (hl : l.length ≤ 1048576) : ∀ d j, j + d = l.length →
    Ev (fun k => impl_IsRow.l0 k l (l.length : Int) (j : Int) n ring l) (okFrom (wrap64 (n - 1)) l d j && (decide (2 ≤ n ∧ n ≤ 24) && (!ring || decide (3 ≤ n))))
  | 0, j, h => by
    apply evshift
    simp only [impl_IsRow.l0, impl_Row_bench.f, Option.bind_some, benchValid]
    refine evn (by omega) ?_
    simpa [okFrom] using evs _
  | d + 1, j, h => by
    have ih := isRow_loop n ring l hl d (j + 1) (by omega)
    apply evshift
    simp only [impl_IsRow.l0, impl_Row_bench.f, Option.bind_some]
    refine evp (by omega) (evp (by omega) (evp (by omega) ?_))
    refine evb (ev_benchHas n ring [rd l (j : Int)] (by simp)) ?_
    simp only [okFrom, okAt, List.all_cons, List.all_nil, Bool.and_true]
    by_cases h1 : 0 ≤ rd l (j : Int) ∧ rd l (j : Int) ≤ wrap64 (n - 1)
    · refine evp (by simpa using h1) ?_
      rw [decide_eq_true h1, Bool.true_and]
      by_cases h2 : j = 0
      · refine evn (by omega) ?_
        rw [wnext j (by omega), decide_eq_true h2, Bool.true_or, Bool.true_and]
        exact ih
      · refine evp (by omega) ?_
        rw [w64 (by omega) (by omega)]
        refine evp (by omega) (evp (by omega) ?_)
        by_cases h3 : rd l ((j : Int) - 1) < rd l (j : Int)
        · refine evn (by omega) ?_
          rw [wnext j (by omega)]
          simpa [h3] using ih
        · refine evp (by omega) ?_
          simpa [h2, h3] using evs false
    · refine evn (by simpa using h1) ?_
      simpa [h1] using evs false
theorem ev_isRow (n : Int) (ring : Bool) (l : List Int) (hl : l.length ≤ 1048576) : Ev (fun k => impl_IsRow.f k n ring l) (rowB n ring l) := by
  unfold impl_IsRow.f
  refine eve (isRow_loop n ring l hl l.length 0 (by omega)) ?_
  unfold rowB
  by_cases h1 : 2 ≤ n ∧ n ≤ 24
  · rw [w64 (by omega) (by omega)]
    cases okFrom (n - 1) l l.length 0 <;> simp [h1]
  · simp [h1]
theorem setOf_loop (l : List Int) (hm : ∀ x ∈ l, 0 ≤ x ∧ x < 32) (hl : l.length ≤ 1048576) : ∀ d j (P : Nat → Bool), j + d = l.length →
    Ev (fun k => impl_setOf.l0 k (M P : Int) l (l.length : Int) (j : Int)) (M (fun i => P i || decide ((i : Int) ∈ l.drop j)) : Int)
  | 0, j, P, h => by
    apply evshift
    simp only [impl_setOf.l0]
    refine evn (by omega) ?_
    rw [List.drop_eq_nil_of_le (by omega)]
    simpa using evs _
  | d + 1, j, P, h => by
    apply evshift
    simp only [impl_setOf.l0]
    have hr := hm _ (rd_mem (by omega : j < l.length))
    refine evp (by omega) (evp (by omega) (evp (by omega) (evp (by omega) ?_)))
    obtain ⟨p, hp⟩ : ∃ p : Nat, rd l (j : Int) = (p : Int) := ⟨(rd l (j : Int)).toNat, by omega⟩
    rw [hp] at hr
    rw [hp, M_one (by omega), M_or, wnext j (by omega)]
    refine eve (setOf_loop l hm hl d (j + 1) _ (by omega)) ?_
    rw [drop_cons (by omega : j < l.length), hp]
    refine congrArg _ (M_congr fun i _ => ?_)
    by_cases e : i = p
    · subst e; simp
    · have : ¬ (i : Int) = (p : Int) := by omega
      simp [e, this]
theorem ev_setOf (l : List Int) (hm : ∀ x ∈ l, 0 ≤ x ∧ x < 32) (hl : l.length ≤ 1048576) : Ev (fun k => impl_setOf.f k l) (M (fun i => decide ((i : Int) ∈ l)) : Int) := by
  unfold impl_setOf.f
  have h := setOf_loop l hm hl l.length 0 (fun _ => false) (by omega)
  rw [← M_zero] at h
  simpa using h
theorem ev_taken (n : Int) (ring : Bool) (l : List Int) (hm : ∀ x ∈ l, 0 ≤ x ∧ x < 32) (hl : l.length ≤ 1048576) : Ev (fun k => impl_Row_taken.f k n ring l) (M (fun i => decide ((i : Int) ∈ l)) : Int) := by
  unfold impl_Row_taken.f
  exact evb (ev_setOf l hm hl) (evs _)
theorem setHas {P : Nat → Bool} {p : Nat} (h : p < 32) : impl_set_has.f (M P : Int) (p : Int) = some (P p) := by
  unfold impl_set_has.f
  rw [if_pos (by omega), M_has h]
  cases P p <;> rfl
theorem rowText_loop (n : Nat) (ring : Bool) (l : List Int) (hl : l.length ≤ 1048576) (hm : ∀ x ∈ l, 0 ≤ x ∧ x < 32) (hn : n ≤ 32) : ∀ d j (acc : ByteArray), j + d = n → acc.size ≤ 5 + j → Ev (fun k => impl_rowText.l0 k acc (n : Int) (j : Int) (n : Int) ring l) (txtF l d j acc)
  | 0, j, acc, h, _ => by
    apply evshift
    simp only [impl_rowText.l0]
    exact evn (by omega) (evs _)
  | d + 1, j, acc, h, ha => by
    have ih := rowText_loop n ring l hl hm hn d (j + 1) (acc ++ (if (j : Int) ∈ l then (⟨#[120]⟩ : ByteArray) else (⟨#[46]⟩ : ByteArray))) (by omega) (by rw [ByteArray.size_append, txt_one]; omega)
    apply evshift
    simp only [impl_rowText.l0]
    refine evp (by omega) (evb (ev_taken (n : Int) ring l hm hl) (evc (setHas (by omega : j < 32)) ?_))
    rw [wnext j (by omega)]
    by_cases h1 : (j : Int) ∈ l
    · refine evp (by simpa using h1) (evp (by omega) ?_)
      rw [if_pos h1] at ih
      simpa [txtF, h1] using ih
    · refine evn (by simpa using h1) (evp (by omega) ?_)
      rw [if_neg h1] at ih
      simpa [txtF, h1] using ih
theorem ev_rowText (n : Nat) (ring : Bool) (l : List Int) (hl : l.length ≤ 1048576) (hm : ∀ x ∈ l, 0 ≤ x ∧ x < 32) (hn : n ≤ 32) : Ev (fun k => impl_rowText.f k (n : Int) ring l) (txtF l n 0 (headF ring)) := by
  unfold impl_rowText.f headF
  cases ring with
  | true =>
    refine evp rfl (evshift ?_)
    simp only [impl_rowText.j0]
    exact rowText_loop n true l hl hm hn n 0 _ (by omega) (by decide)
  | false =>
    refine evn (by simp) (evshift ?_)
    simp only [impl_rowText.j0]
    exact rowText_loop n false l hl hm hn n 0 _ (by omega) (by decide)
theorem eqIntS_loop (l : List Int) (hl : l.length ≤ 1048576) : ∀ d j, j + d = l.length → Ev (fun k => laws_eqIntS.l0 k l l (j : Int)) true
  | 0, j, h => by
    apply evshift
    simp only [laws_eqIntS.l0]
    exact evn (by omega) (evs _)
  | d + 1, j, h => by
    have ih := eqIntS_loop l hl d (j + 1) (by omega)
    apply evshift
    simp only [laws_eqIntS.l0]
    refine evp (by omega) (evp (by omega) (evp (by omega) (evp (by trivial) ?_)))
    rw [wnext j (by omega)]
    exact ih
theorem ev_eqIntS (l : List Int) (hl : l.length ≤ 1048576) : Ev (fun k => laws_eqIntS.f k l l) true := by
  unfold laws_eqIntS.f
  exact evp (by trivial) (eqIntS_loop l hl l.length 0 (by omega))
theorem ev_eqRow (a : Int) (b : Bool) (l : List Int) (hl : l.length ≤ 1048576) : Ev (fun k => laws_eqRow.f k a b l a b l) true := by
  unfold laws_eqRow.f
  refine evp (by simp) (evn (by simp) ?_)
  exact evb (ev_eqIntS l hl) (evp (by trivial) (evs _))
theorem markIntS_loop (l : List Int) (m : Int) (hl : l.length ≤ 1048576) (h0 : 0 ≤ m) (hm : m ≤ 1099511627776) : ∀ d j, j + d = l.length → Ev (fun k => laws_markIntS.l0 k (marks m j ++ l.drop j) (m + (j : Int)) (j : Int)) (m + (l.length : Int), marks m l.length)
  | 0, j, h => by
    obtain rfl : j = l.length := by omega
    apply evshift
    simp only [laws_markIntS.l0]
    refine evn (by simp [marks_len]) ?_
    simp only [List.drop_length, List.append_nil]
    exact evs _
  | d + 1, j, h => by
    have ih := markIntS_loop l m hl h0 hm d (j + 1) (by omega)
    apply evshift
    simp only [laws_markIntS.l0]
    refine evp (by simp [marks_len]; omega) (evp (by omega) ?_)
    rw [Int.toNat_natCast, set_marks m l j (by omega), wnext j (by omega), w64 (by omega) (by omega), show m + (j : Int) + 1 = m + ((j + 1 : Nat) : Int) by omega]
    exact ih
theorem ev_markIntS (l : List Int) (m : Int) (hl : l.length ≤ 1048576) (h0 : 0 ≤ m) (hm : m ≤ 1099511627776) : Ev (fun k => laws_markIntS.f k l m) (m + (l.length : Int), marks m l.length) := by
  unfold laws_markIntS.f
  have h := markIntS_loop l m hl h0 hm l.length 0 (by omega)
  simpa [marks] using h
theorem ev_markRow (a : Int) (b : Bool) (l : List Int) (m : Int) (hl : l.length ≤ 1048576) (h0 : 0 ≤ m) (hm : m ≤ 1099511627776) : Ev (fun k => laws_markRow.f k a b l m) (m + (l.length : Int), marks m l.length) := by
  unfold laws_markRow.f
  exact evb (ev_markIntS l m hl h0 hm) (evs _)
theorem heldIntS_loop (n : Nat) (m : Int) (hn : n ≤ 1048576) (h0 : 0 ≤ m) (hm : m ≤ 1099511627776) : ∀ d j, j + d = n → Ev (fun k => laws_heldIntS.l0 k (marks m n) (m + (j : Int)) (j : Int)) (m + (n : Int))
  | 0, j, h => by
    obtain rfl : j = n := by omega
    apply evshift
    simp only [laws_heldIntS.l0]
    exact evn (by rw [marks_len]; omega) (evs _)
  | d + 1, j, h => by
    have ih := heldIntS_loop n m hn h0 hm d (j + 1) (by omega)
    apply evshift
    simp only [laws_heldIntS.l0]
    refine evp (by rw [marks_len]; omega) (evp (by omega) (evp (rd_marks (by omega)) ?_))
    rw [wnext j (by omega), w64 (by omega) (by omega), show m + (j : Int) + 1 = m + ((j + 1 : Nat) : Int) by omega]
    exact ih
theorem ev_heldIntS (n : Nat) (m : Int) (hn : n ≤ 1048576) (h0 : 0 ≤ m) (hm : m ≤ 1099511627776) : Ev (fun k => laws_heldIntS.f k (marks m n) m) (m + (n : Int)) := by
  unfold laws_heldIntS.f
  have h := heldIntS_loop n m hn h0 hm n 0 (by omega)
  simpa using h
theorem ev_heldRow (a : Int) (b : Bool) (n : Nat) (m : Int) (hn : n ≤ 1048576) (h0 : 0 ≤ m) (hm : m ≤ 1099511627776) : Ev (fun k => laws_heldRow.f k a b (marks m n) m) (m + (n : Int)) := by
  unfold laws_heldRow.f
  exact evb (ev_heldIntS n m hn h0 hm) (evn (by omega) (evs _))
theorem txtF_head (l : List Int) : ∀ d j (acc : ByteArray), ∃ rest, (txtF l d j acc).data.toList = acc.data.toList ++ rest
  | 0, j, acc => ⟨[], by simp [txtF]⟩
  | d + 1, j, acc => by
    obtain ⟨rest, h⟩ := txtF_head l d (j + 1) (acc ++ (if (j : Int) ∈ l then (⟨#[120]⟩ : ByteArray) else (⟨#[46]⟩ : ByteArray)))
    refine ⟨(if (j : Int) ∈ l then (⟨#[120]⟩ : ByteArray) else (⟨#[46]⟩ : ByteArray)).data.toList ++ rest, ?_⟩
    rw [txtF, h, ByteArray.data_append, Array.toList_append, List.append_assoc]
/-- What a reading of m seats answers. -/
def parseR (x : ByteArray) (m : Nat) (ring : Bool) (l : List Int) : Int × Bool × List Int × Bool := if rowB (m : Int) ring l = true ∧ (txtF l m 0 (headF ring)).toList = x.toList then ((m : Int), ring, l, true) else (0, false, [], false)
theorem specParse_loop (x : ByteArray) (m : Nat) (ring : Bool) (hm : x.size = 5 + m) (hm2 : m ≤ 24) : ∀ d j, j + d = m → Ev (fun k => spec_ParseRow.l0 k x (j : Int) (m : Int) ring (sel j fun i => decide (bt x ((5 + i : Nat) : Int) = 120))) (parseR x m ring (sel m fun i => decide (bt x ((5 + i : Nat) : Int) = 120)))
  | 0, j, h => by
    obtain rfl : j = m := by omega
    have hs := sel_len_le j fun i => decide (bt x ((5 + i : Nat) : Int) = 120)
    apply evshift
    simp only [spec_ParseRow.l0]
    refine evn (by omega) (evb (ev_l2Row _ ring _ (by omega)) ?_)
    unfold parseR
    by_cases c : rowB (j : Int) ring (sel j fun i => decide (bt x ((5 + i : Nat) : Int) = 120)) = true
    · refine evp c (evb (ev_l2Text j ring _ (by omega) (by omega)) ?_)
      by_cases c2 : (txtF (sel j fun i => decide (bt x ((5 + i : Nat) : Int) = 120)) j 0 (headF ring)).toList = x.toList
      · exact evt ⟨c, c2⟩ (evp c2 (evs _))
      · exact evf (fun h => c2 h.2) (evn c2 (evs _))
    · exact evf (fun h => c h.1) (evn c (evs _))
  | d + 1, j, h => by
    have ih := specParse_loop x m ring hm hm2 d (j + 1) (by omega)
    have hs := sel_len_le j fun i => decide (bt x ((5 + i : Nat) : Int) = 120)
    rw [sel_succ] at ih
    apply evshift
    simp only [spec_ParseRow.l0]
    rw [w64 (x := 5 + (j : Int)) (by omega) (by omega), show (5 : Int) + (j : Int) = ((5 + j : Nat) : Int) by omega, wnext j (by omega)]
    refine evp (by omega) (evp (by omega) (evp (by omega) ?_))
    by_cases c : bt x ((5 + j : Nat) : Int) = 120
    · rw [if_pos (by simpa using c)] at ih
      exact evp c (evp (by omega) ih)
    · rw [if_neg (by simpa using c), List.append_nil] at ih
      exact evn c ih
theorem implParse_loop (x y : ByteArray) (m : Nat) (ring : Bool) (hm : y.size = m) (hm2 : m ≤ 24) : ∀ d j, j + d = m → Ev (fun k => impl_ParseRow.l0 k x y (m : Int) (j : Int) (m : Int) ring (sel j fun i => decide (bt y (i : Int) = 120))) (parseR x m ring (sel m fun i => decide (bt y (i : Int) = 120)))
  | 0, j, h => by
    obtain rfl : j = m := by omega
    have hs := sel_len_le j fun i => decide (bt y (i : Int) = 120)
    apply evshift
    simp only [impl_ParseRow.l0]
    refine evn (by omega) (evb (ev_isRow _ ring _ (by omega)) ?_)
    unfold parseR
    by_cases c : rowB (j : Int) ring (sel j fun i => decide (bt y (i : Int) = 120)) = true
    · refine evp c (evb (ev_rowText j ring _ (by omega) (fun z hz => by
        obtain ⟨i, h1, _, rfl⟩ := mem_sel.1 hz
        omega) (by omega)) ?_)
      by_cases c2 : (txtF (sel j fun i => decide (bt y (i : Int) = 120)) j 0 (headF ring)).toList = x.toList
      · exact evt ⟨c, c2⟩ (evp c2 (evs _))
      · exact evf (fun h => c2 h.2) (evn c2 (evs _))
    · exact evf (fun h => c h.1) (evn c (evs _))
  | d + 1, j, h => by
    have ih := implParse_loop x y m ring hm hm2 d (j + 1) (by omega)
    have hs := sel_len_le j fun i => decide (bt y (i : Int) = 120)
    rw [sel_succ] at ih
    apply evshift
    simp only [impl_ParseRow.l0]
    rw [wnext j (by omega)]
    refine evp (by omega) (evp (by omega) (evp (by omega) ?_))
    by_cases c : bt y (j : Int) = 120
    · rw [if_pos (by simpa using c)] at ih
      exact evp c (evp (by omega) ih)
    · rw [if_neg (by simpa using c), List.append_nil] at ih
      exact evn c ih
theorem specParse (x : ByteArray) (hx : x.size ≤ 1048576) : Ev (fun k => spec_ParseRow.f k x) (if 5 ≤ x.size ∧ x.size ≤ 29 then parseR x (x.size - 5) (x.data.toList.take 5 == [114, 105, 110, 103, 32]) (sel (x.size - 5) fun i => decide (bt x ((5 + i : Nat) : Int) = 120)) else (0, false, [], false)) := by
  have no : Ev (fun k => spec_ParseRow.j0 k x true) (0, false, [], false) := by
    apply evshift
    simp only [spec_ParseRow.j0]
    exact evp (by simp) (evs _)
  unfold spec_ParseRow.f
  by_cases h1 : (x.size : Int) < 5
  · exact evf (by omega) (evp h1 no)
  · refine evn h1 ?_
    by_cases h2 : (x.size : Int) > 29
    · rw [decide_eq_true h2]
      exact evf (by omega) no
    · rw [decide_eq_false h2]
      refine evt (by omega) ?_
      obtain ⟨m, hm⟩ : ∃ m, x.size = 5 + m := ⟨x.size - 5, by omega⟩
      have h := specParse_loop x m (x.data.toList.take 5 == [114, 105, 110, 103, 32]) hm (by omega) m 0 (by omega)
      apply evshift
      simp only [spec_ParseRow.j0]
      refine evn (by simp) (evp (by omega) (evp (by omega) ?_))
      have e1 : wrap64 ((x.size : Int) - 5) = (m : Int) := by rw [w64 (by omega) (by omega)]; omega
      have e2 : ((x.extract 0 5).toList == ([114, 105, 110, 103, 32] : List UInt8)) = (x.data.toList.take 5 == [114, 105, 110, 103, 32]) := by
        rw [ByteArray.toList_eq, ByteArray.data_extract, Array.toList_extract]
        simp
      rw [e1, e2, show x.size - 5 = m by omega]
      exact h
theorem implParse (x y z : ByteArray) (b : Bool) (hc : strings_Cut.f x (⟨#[32]⟩ : ByteArray) = some (z, y, b)) : Ev (fun k => impl_ParseRow.f k x) (if y.size ≤ 24 then parseR x y.size (z.data.toList == [114, 105, 110, 103]) (sel y.size fun i => decide (bt y (i : Int) = 120)) else (0, false, [], false)) := by
  unfold impl_ParseRow.f
  refine evc hc ?_
  by_cases h : (y.size : Int) > 24
  · exact evf (by omega) (evp h (evs _))
  · refine evt (by omega) (evn h ?_)
    dsimp only
    rw [ByteArray.toList_eq]
    exact implParse_loop x y y.size _ rfl (by omega) y.size 0 (by omega)
theorem parseR_no {x : ByteArray} {m : Nat} {ring : Bool} {l : List Int} (h : ¬ ∃ b rest, x.data.toList = (headF b).data.toList ++ rest) : parseR x m ring l = (0, false, [], false) := by
  unfold parseR
  rw [if_neg]
  rintro ⟨_, h2⟩
  rw [ByteArray.toList_eq, ByteArray.toList_eq] at h2
  obtain ⟨rest, h3⟩ := txtF_head l m 0 (headF ring)
  exact h ⟨ring, rest, by rw [← h2, h3]⟩
theorem cut_head (b : Bool) (rest : List UInt8) : Lib.cut ((headF b).data.toList ++ rest) [32] = ((headF b).data.toList.take 4, rest, true) := by
  have hi : Lib.index ((headF b).data.toList ++ rest) [32] = 4 := by
    cases b <;> simp [headF, Lib.index, List.isPrefixOf]
  unfold Lib.cut
  rw [hi]
  cases b <;> simp [headF]
theorem bothParseRow (x : ByteArray) (hx : x.size ≤ 1048576) : ∃ n' b' R ok, Ev (fun k => spec_ParseRow.f k x) (n', b', R, ok) ∧ Ev (fun k => impl_ParseRow.f k x) (n', b', R, ok) ∧ R.length ≤ 1048576 := by
  have hS := specParse x hx
  have hc : strings_Cut.f x (⟨#[32]⟩ : ByteArray) = some ((⟨(Lib.cut x.data.toList [32]).1.toArray⟩ : ByteArray), (⟨(Lib.cut x.data.toList [32]).2.1.toArray⟩ : ByteArray), (Lib.cut x.data.toList [32]).2.2) := by
    unfold strings_Cut.f
    rw [if_pos (by omega)]
  have hI := implParse x _ _ _ hc
  by_cases h : ∃ b rest, x.data.toList = (headF b).data.toList ++ rest
  · obtain ⟨b, rest, hr⟩ := h
    have hsz : x.size = 5 + rest.length := by
      have e : x.data.toList.length = x.size := by simp
      rw [← e, hr, List.length_append]
      cases b <;> rfl
    rw [hr, cut_head] at hI
    have e1 : (x.data.toList.take 5 == [114, 105, 110, 103, 32]) = b := by
      rw [hr]
      cases b <;> simp [headF]
    have e2 : ((⟨((headF b).data.toList.take 4).toArray⟩ : ByteArray).data.toList == [114, 105, 110, 103]) = b := by
      cases b <;> simp [headF]
    have e3 : (⟨rest.toArray⟩ : ByteArray).size = rest.length := by
      show rest.toArray.size = _
      simp
    have e4 : (sel (x.size - 5) fun i => decide (bt x ((5 + i : Nat) : Int) = 120)) = sel rest.length fun i => decide (bt (⟨rest.toArray⟩ : ByteArray) (i : Int) = 120) := by
      rw [show x.size - 5 = rest.length by omega]
      refine sel_congr fun i _ => ?_
      rw [bt_list, bt_list, hr]
      have e5 : ((headF b).data.toList ++ rest).getD (5 + i) 0 = rest.getD i 0 := by
        cases b <;> simp [headF, List.getD, Nat.add_comm 5 i]
      rw [e5]
    dsimp only at hI
    rw [e2, e3] at hI
    rw [e1, e4, show x.size - 5 = rest.length by omega] at hS
    have hsl := sel_len_le rest.length fun i => decide (bt (⟨rest.toArray⟩ : ByteArray) (i : Int) = 120)
    by_cases hq : rest.length ≤ 24
    · rw [if_pos (by omega)] at hS
      rw [if_pos hq] at hI
      unfold parseR at hS hI
      by_cases hp : rowB (rest.length : Int) b (sel rest.length fun i => decide (bt (⟨rest.toArray⟩ : ByteArray) (i : Int) = 120)) = true ∧ (txtF (sel rest.length fun i => decide (bt (⟨rest.toArray⟩ : ByteArray) (i : Int) = 120)) rest.length 0 (headF b)).toList = x.toList
      · rw [if_pos hp] at hS hI
        exact ⟨_, _, _, _, hS, hI, by omega⟩
      · rw [if_neg hp] at hS hI
        exact ⟨_, _, _, _, hS, hI, by simp⟩
    · rw [if_neg (by omega)] at hS
      rw [if_neg hq] at hI
      exact ⟨_, _, _, _, hS, hI, by simp⟩
  · refine ⟨0, false, [], false, ?_, ?_, by simp⟩
    · refine eve hS ?_
      split
      · exact parseR_no h
      · rfl
    · refine eve hI ?_
      split
      · exact parseR_no h
      · rfl
theorem FnExactParseRow : laws_FnExactParseRow.Pure := by
  intro x _
  refine Ev.rounds (g := fun k => laws_FnExactParseRow.f k x) ?_
  unfold laws_FnExactParseRow.f
  by_cases hx : (x.size : Int) > 1048576
  · exact evp hx (evs _)
  refine evn hx ?_
  obtain ⟨n', b', R, ok, hS, hI, hR⟩ := bothParseRow x (by omega)
  repeat (first
    | exact evs true
    | (with_reducible refine evb hS ?_)
    | (with_reducible refine evb hI ?_)
    | (with_reducible refine evb (ev_eqIntS _ (by assumption)) ?_)
    | (with_reducible refine evb (ev_eqRow _ _ _ (by assumption)) ?_)
    | (with_reducible refine evb (ev_markIntS _ _ (by assumption) (by omega) (by omega)) ?_)
    | (with_reducible refine evb (ev_markRow _ _ _ _ (by assumption) (by omega) (by omega)) ?_)
    | (with_reducible refine evb (ev_heldIntS _ _ (by assumption) (by omega) (by omega)) ?_)
    | (with_reducible refine evb (ev_heldRow _ _ _ _ (by assumption) (by omega) (by omega)) ?_)
    | (with_reducible show Ev (fun k => laws_FnExactParseRow.j0 k _ _ _ _ _ _ _ _ _) _; apply evshift; simp only [laws_FnExactParseRow.j0])
    | (with_reducible show Ev (fun k => laws_FnExactParseRow.j1 k _ _ _ _ _) _; apply evshift; simp only [laws_FnExactParseRow.j1])
    | (refine evp ?hc ?_; (case hc => first | omega | (simp; done)))
    | (refine evn ?hc ?_; (case hc => first | omega | (simp; done)))
    | dsimp only)

end Go.Proofs.Ytajmlbpchfakcaa.Pure
