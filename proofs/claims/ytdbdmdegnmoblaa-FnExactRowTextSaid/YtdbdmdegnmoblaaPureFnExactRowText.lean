/- The law laws.FnExactRowText, told as plain Lean functions of numbers, lists and strings, answers true for every input, if enough rounds are given: the program's RowText answers what the reference's answers. Conditions: none but the kinds' own (each number one of its kind, each length one that the model reads). -/
import Derived.Test.YtdbdmdegnmoblaaPFnExactRowTextx4
import Derived.Test.YtdbdmdegnmoblaaBase
namespace Go.Proofs.Ytdbdmdegnmoblaa.Pure
open Go.RowKit Go.Proofs.Ytdbdmdegnmoblaa.PFnExactRowText Go.Proofs.YtdbdmdegnmoblaaW.PrintWords Go.Proofs.YtdbdmdegnmoblaaW.PrintLast Go.Proofs.YtdbdmdegnmoblaaW.PrintMore Go.Proofs.Ytdbdmdegnmoblaa.Base

theorem sz_big {l : List Int} (h : 1048576 < l.length) (hm : l.length ≤ maxLen) : laws_szIntS.f l 1048576 = some (-1) := by
  unfold maxLen at hm
  unfold laws_szIntS.f
  rw [w64 (by omega) (by omega), if_pos (by omega)]
theorem sz_ok {l : List Int} {m : Int} (h : (l.length : Int) ≤ m) (hm : m ≤ 1048576) : laws_szIntS.f l m = some (m - l.length) := by
  unfold laws_szIntS.f
  rw [w64 (by omega) (by omega), if_neg (by omega)]
theorem szRow_big {a : Int} {b : Bool} {l : List Int} (h : 1048576 < l.length) (hm : l.length ≤ maxLen) : laws_szRow.f a b l 1048576 = some (-1) := by
  unfold laws_szRow.f
  rw [sz_big h hm]
  rfl
theorem szRow_ok {a : Int} {b : Bool} {l : List Int} {m : Int} (h : (l.length : Int) ≤ m) (hm : m ≤ 1048576) : laws_szRow.f a b l m = some (m - l.length) := by
  unfold laws_szRow.f
  rw [sz_ok h hm]
  simp only [Option.bind_some]
  rw [if_neg (by omega)]
theorem toIntS_loop (l : List Int) (hl : l.length ≤ 1048576) : ∀ d j, j + d = l.length → Ev (fun k => laws_toIntS.l0 k l (l.take j ++ List.replicate (l.length - j) 0) (j : Int)) l
  | 0, j, h => by
    apply evshift
    simp only [laws_toIntS.l0]
    refine evn (by omega) ?_
    have e : l.take j ++ List.replicate (l.length - j) 0 = l := by rw [show j = l.length by omega]; simp
    rw [e]
    exact evs _
  | d + 1, j, h => by
    have ih := toIntS_loop l hl d (j + 1) (by omega)
    apply evshift
    simp only [laws_toIntS.l0]
    refine evp (by omega) (evp (by omega) (evp (by simp; omega) ?_))
    rw [Int.toNat_natCast, set_copy l j (by omega), wnext j (by omega)]
    exact ih
theorem ev_toIntS (l : List Int) (hl : l.length ≤ 1048576) : Ev (fun k => laws_toIntS.f k l) l := by
  unfold laws_toIntS.f
  refine evp (by omega) (evp (by omega) ?_)
  have h := toIntS_loop l hl l.length 0 (by omega)
  simpa using h
theorem ev_toRow (a : Int) (b : Bool) (l : List Int) (hl : l.length ≤ 1048576) : Ev (fun k => laws_toRow.f k a b l) (a, b, l) := by
  unfold laws_toRow.f
  exact evb (ev_toIntS l hl) (evs _)
theorem eqIntS_loop (l : List Int) (hl : l.length ≤ 1048576) : ∀ d j, j + d = l.length → Ev (fun k => laws_eqIntS.l0 k l l (j : Int)) true
  | 0, j, h => by
    apply evshift
    simp only [laws_eqIntS.l0]
    exact evn (by omega) (evs _)
  | d + 1, j, h => by
    have ih := eqIntS_loop l hl d (j + 1) (by omega)
    apply evshift
    simp only [laws_eqIntS.l0]
    refine evp (by omega) (evp (by omega) (evp (by omega) (evp (by trivial) ?_)))
    rw [wnext j (by omega)]
    exact ih
theorem ev_eqIntS (l : List Int) (hl : l.length ≤ 1048576) : Ev (fun k => laws_eqIntS.f k l l) true := by
  unfold laws_eqIntS.f
  exact evp (by trivial) (eqIntS_loop l hl l.length 0 (by omega))
theorem ev_eqRow (a : Int) (b : Bool) (l : List Int) (hl : l.length ≤ 1048576) : Ev (fun k => laws_eqRow.f k a b l a b l) true := by
  unfold laws_eqRow.f
  refine evp (by simp) (evn (by simp) ?_)
  exact evb (ev_eqIntS l hl) (evp (by trivial) (evs _))
theorem in_spec (a lo hi : Int) : spec_l1In.f a lo hi = some (decide (lo ≤ a ∧ a ≤ hi)) := by
  unfold spec_l1In.f
  split
  · congr 1; simp; omega
  · congr 1; simp; omega
theorem rising_loop (l : List Int) (m : Int) (hl : l.length ≤ 1048576) : ∀ d j, j + d = l.length → Ev (fun k => spec_l1Rising.l0 k l 0 m (j : Int)) (okFrom m l d j)
  | 0, j, h => by
    apply evshift
    simp only [spec_l1Rising.l0]
    exact evn (by omega) (evs _)
  | d + 1, j, h => by
    have ih := rising_loop l m hl d (j + 1) (by omega)
    apply evshift
    simp only [spec_l1Rising.l0, in_spec, Option.bind_some]
    refine evp (by omega) (evp (by omega) ?_)
    simp only [okFrom, okAt]
    by_cases h1 : 0 ≤ rd l (j : Int) ∧ rd l (j : Int) ≤ m
    · refine evp (by simpa using h1) ?_
      rw [decide_eq_true h1, Bool.true_and]
      by_cases h2 : j = 0
      · refine evn (by omega) ?_
        rw [wnext j (by omega), decide_eq_true h2, Bool.true_or, Bool.true_and]
        exact ih
      · refine evp (by omega) ?_
        rw [w64 (by omega) (by omega)]
        refine evp (by omega) (evp (by omega) ?_)
        by_cases h3 : rd l ((j : Int) - 1) < rd l (j : Int)
        · refine evn (by omega) ?_
          rw [wnext j (by omega)]
          simpa [h3] using ih
        · refine evp (by omega) ?_
          simpa [h2, h3] using evs false
    · refine evn (by simpa using h1) ?_
      simpa [h1] using evs false
theorem ev_rising (l : List Int) (m : Int) (hl : l.length ≤ 1048576) : Ev (fun k => spec_l1Rising.f k l 0 m) (okFrom m l l.length 0) := by
  unfold spec_l1Rising.f
  exact rising_loop l m hl l.length 0 (by omega)
theorem ev_l2Row (n : Int) (ring : Bool) (l : List Int) (hl : l.length ≤ 1048576) : Ev (fun k => spec_l2Row.f k n ring l) (rowB n ring l) := by
  unfold spec_l2Row.f
  simp only [in_spec, Option.bind_some, rowB]
  by_cases h1 : 2 ≤ n ∧ n ≤ 24
  · refine evp (by simpa using h1) ?_
    rw [w64 (by omega) (by omega)]
    cases ring with
    | true =>
      refine evp rfl ?_
      by_cases h2 : n > 2
      · refine evp h2 (evb (ev_rising l _ hl) ?_)
        have h3 : 3 ≤ n := by omega
        simpa [h1, h3] using evs _
      · refine evn h2 ?_
        have h3 : ¬ 3 ≤ n := by omega
        simpa [h3] using evs false
    | false =>
      refine evn (by simp) (evb (ev_rising l _ hl) ?_)
      simpa [h1] using evs _
  · refine evn (by simpa using h1) ?_
    simpa [h1] using evs false
theorem l1Has_loop (l : List Int) (x : Int) (hl : l.length ≤ 1048576) : ∀ d j, j + d = l.length → Ev (fun k => spec_l1Has.l0 k l x (j : Int)) (decide (x ∈ l.drop j))
  | 0, j, h => by
    apply evshift
    simp only [spec_l1Has.l0]
    refine evn (by omega) ?_
    rw [List.drop_eq_nil_of_le (by omega)]
    simpa using evs false
  | d + 1, j, h => by
    have ih := l1Has_loop l x hl d (j + 1) (by omega)
    apply evshift
    simp only [spec_l1Has.l0]
    refine evp (by omega) (evp (by omega) ?_)
    rw [drop_cons (by omega : j < l.length)]
    by_cases h1 : rd l (j : Int) = x
    · refine evp h1 ?_
      simpa [h1] using evs true
    · refine evn h1 ?_
      have h2 : ¬ x = rd l (j : Int) := fun h => h1 h.symm
      rw [wnext j (by omega)]
      simpa [h2] using ih
theorem ev_l1Has (l : List Int) (x : Int) (hl : l.length ≤ 1048576) : Ev (fun k => spec_l1Has.f k l x) (decide (x ∈ l)) := by
  unfold spec_l1Has.f
  have h := l1Has_loop l x hl l.length 0 (by omega)
  simpa using h
theorem ev_l2Is (n : Int) (ring : Bool) (l : List Int) (x : Int) (hl : l.length ≤ 1048576) : Ev (fun k => spec_l2Is.f k n ring l x) (decide (x ∈ l)) := by
  unfold spec_l2Is.f
  exact evb (ev_l1Has l x hl) (evs _)
/-- The text of the seats from j on, d of them. -/
def txtF (l : List Int) : Nat → Nat → ByteArray → ByteArray
  | 0, _, acc => acc
  | d + 1, j, acc => txtF l d (j + 1) (acc ++ (if (j : Int) ∈ l then (⟨#[120]⟩ : ByteArray) else (⟨#[46]⟩ : ByteArray)))
def headF (ring : Bool) : ByteArray := if ring = true then (⟨#[114, 105, 110, 103, 32]⟩ : ByteArray) else (⟨#[108, 105, 110, 101, 32]⟩ : ByteArray)
theorem txt_one (l : List Int) (j : Nat) : (if (j : Int) ∈ l then (⟨#[120]⟩ : ByteArray) else (⟨#[46]⟩ : ByteArray)).size = 1 := by split <;> rfl
theorem l2Text_loop (n : Nat) (ring : Bool) (l : List Int) (hl : l.length ≤ 1048576) (hn : n ≤ 1048576) : ∀ d j (acc : ByteArray), j + d = n → acc.size ≤ 5 + j → Ev (fun k => spec_l2Text.l0 k acc (j : Int) (n : Int) ring l) (txtF l d j acc)
  | 0, j, acc, h, _ => by
    apply evshift
    simp only [spec_l2Text.l0]
    exact evn (by omega) (evs _)
  | d + 1, j, acc, h, ha => by
    have ih := l2Text_loop n ring l hl hn d (j + 1) (acc ++ (if (j : Int) ∈ l then (⟨#[120]⟩ : ByteArray) else (⟨#[46]⟩ : ByteArray))) (by omega) (by rw [ByteArray.size_append, txt_one]; omega)
    apply evshift
    simp only [spec_l2Text.l0]
    refine evp (by omega) (evb (ev_l2Is (n : Int) ring l (j : Int) hl) ?_)
    rw [wnext j (by omega)]
    by_cases h1 : (j : Int) ∈ l
    · refine evp (by simpa using h1) (evp (by omega) ?_)
      rw [if_pos h1] at ih
      simpa [txtF, h1] using ih
    · refine evn (by simpa using h1) (evp (by omega) ?_)
      rw [if_neg h1] at ih
      simpa [txtF, h1] using ih
theorem ev_l2Text (n : Nat) (ring : Bool) (l : List Int) (hl : l.length ≤ 1048576) (hn : n ≤ 1048576) : Ev (fun k => spec_l2Text.f k (n : Int) ring l) (txtF l n 0 (headF ring)) := by
  unfold spec_l2Text.f headF
  cases ring with
  | true =>
    refine evp rfl (evshift ?_)
    simp only [spec_l2Text.j0]
    exact l2Text_loop n true l hl hn n 0 _ (by omega) (by decide)
  | false =>
    refine evn (by simp) (evshift ?_)
    simp only [spec_l2Text.j0]
    exact l2Text_loop n false l hl hn n 0 _ (by omega) (by decide)
theorem in_impl (a lo hi : Int) : impl_within.f a lo hi = some (decide (lo ≤ a ∧ a ≤ hi)) := by
  unfold impl_within.f
  split
  · congr 1; simp; omega
  · congr 1; simp; omega
theorem allWithin_loop (l : List Int) (lo hi : Int) (hl : l.length ≤ 1048576) : ∀ d j, j + d = l.length → Ev (fun k => impl_allWithin.l0 k lo hi l (l.length : Int) (j : Int)) ((l.drop j).all fun x => decide (lo ≤ x ∧ x ≤ hi))
  | 0, j, h => by
    apply evshift
    simp only [impl_allWithin.l0]
    refine evn (by omega) ?_
    rw [List.drop_eq_nil_of_le (by omega)]
    exact evs _
  | d + 1, j, h => by
    have ih := allWithin_loop l lo hi hl d (j + 1) (by omega)
    apply evshift
    simp only [impl_allWithin.l0, in_impl, Option.bind_some]
    refine evp (by omega) (evp (by omega) (evp (by omega) ?_))
    rw [drop_cons (by omega : j < l.length), List.all_cons]
    by_cases h1 : lo ≤ rd l (j : Int) ∧ rd l (j : Int) ≤ hi
    · refine evp (by simpa using h1) ?_
      rw [wnext j (by omega)]
      simpa [h1] using ih
    · refine evn (by simpa using h1) ?_
      simpa [h1] using evs false
theorem ev_allWithin (l : List Int) (lo hi : Int) (hl : l.length ≤ 1048576) : Ev (fun k => impl_allWithin.f k l lo hi) (l.all fun x => decide (lo ≤ x ∧ x ≤ hi)) := by
  unfold impl_allWithin.f
  have h := allWithin_loop l lo hi hl l.length 0 (by omega)
  simpa using h
theorem ev_benchHas (n : Int) (ring : Bool) (l : List Int) (hl : l.length ≤ 1048576) : Ev (fun k => impl_bench_has.f k n ring l) (l.all fun x => decide (0 ≤ x ∧ x ≤ wrap64 (n - 1))) := by
  unfold impl_bench_has.f
  exact evb (ev_allWithin l 0 _ hl) (evs _)
theorem benchValid (n : Int) (ring : Bool) : impl_bench_valid.f n ring = some (decide (2 ≤ n ∧ n ≤ 24) && (!ring || decide (3 ≤ n))) := by
  unfold impl_bench_valid.f
  simp only [in_impl, Option.bind_some]
  by_cases h1 : 2 ≤ n ∧ n ≤ 24
  · rw [if_pos (by simpa using h1)]
    cases ring <;> simp [h1]
  · rw [if_neg (by simpa using h1)]
    simp [h1]
theorem isRow_loop (n : Int) (ring : Bool) (l : List Int) (hl : l.length ≤ 1048576) : ∀ d j, j + d = l.length →
    Ev (fun k => impl_IsRow.l0 k l (l.length : Int) (j : Int) n ring l) (okFrom (wrap64 (n - 1)) l d j && (decide (2 ≤ n ∧ n ≤ 24) && (!ring || decide (3 ≤ n))))
  | 0, j, h => by
    apply evshift
    simp only [impl_IsRow.l0, impl_Row_bench.f, Option.bind_some, benchValid]
    refine evn (by omega) ?_
    simpa [okFrom] using evs _
  | d + 1, j, h => by
    have ih := isRow_loop n ring l hl d (j + 1) (by omega)
    apply evshift
    simp only [impl_IsRow.l0, impl_Row_bench.f, Option.bind_some]
    refine evp (by omega) (evp (by omega) (evp (by omega) ?_))
    refine evb (ev_benchHas n ring [rd l (j : Int)] (by simp)) ?_
    simp only [okFrom, okAt, List.all_cons, List.all_nil, Bool.and_true]
    by_cases h1 : 0 ≤ rd l (j : Int) ∧ rd l (j : Int) ≤ wrap64 (n - 1)
    · refine evp (by simpa using h1) ?_
      rw [decide_eq_true h1, Bool.true_and]
      by_cases h2 : j = 0
      · refine evn (by omega) ?_
        rw [wnext j (by omega), decide_eq_true h2, Bool.true_or, Bool.true_and]
        exact ih
      · refine evp (by omega) ?_
        rw [w64 (by omega) (by omega)]
        refine evp (by omega) (evp (by omega) ?_)
        by_cases h3 : rd l ((j : Int) - 1) < rd l (j : Int)
        · refine evn (by omega) ?_
          rw [wnext j (by omega)]
          simpa [h3] using ih
        · refine evp (by omega) ?_
          simpa [h2, h3] using evs false
    · refine evn (by simpa using h1) ?_
      simpa [h1] using evs false
theorem ev_isRow (n : Int) (ring : Bool) (l : List Int) (hl : l.length ≤ 1048576) : Ev (fun k => impl_IsRow.f k n ring l) (rowB n ring l) := by
  unfold impl_IsRow.f
  refine eve (isRow_loop n ring l hl l.length 0 (by omega)) ?_
  unfold rowB
  by_cases h1 : 2 ≤ n ∧ n ≤ 24
  · rw [w64 (by omega) (by omega)]
    cases okFrom (n - 1) l l.length 0 <;> simp [h1]
  · simp [h1]
theorem setOf_loop (l : List Int) (hm : ∀ x ∈ l, 0 ≤ x ∧ x < 32) (hl : l.length ≤ 1048576) : ∀ d j (P : Nat → Bool), j + d = l.length →
    Ev (fun k => impl_setOf.l0 k (M P : Int) l (l.length : Int) (j : Int)) (M (fun i => P i || decide ((i : Int) ∈ l.drop j)) : Int)
  | 0, j, P, h => by
    apply evshift
    simp only [impl_setOf.l0]
    refine evn (by omega) ?_
    rw [List.drop_eq_nil_of_le (by omega)]
    simpa using evs _
  | d + 1, j, P, h => by
    apply evshift
    simp only [impl_setOf.l0]
    have hr := hm _ (rd_mem (by omega : j < l.length))
    refine evp (by omega) (evp (by omega) (evp (by omega) (evp (by omega) ?_)))
    obtain ⟨p, hp⟩ : ∃ p : Nat, rd l (j : Int) = (p : Int) := ⟨(rd l (j : Int)).toNat, by omega⟩
    rw [hp] at hr
    rw [hp, M_one (by omega), M_or, wnext j (by omega)]
    refine eve (setOf_loop l hm hl d (j + 1) _ (by omega)) ?_
    rw [drop_cons (by omega : j < l.length), hp]
    refine congrArg _ (M_congr fun i _ => ?_)
    by_cases e : i = p
    · subst e; simp
    · have : ¬ (i : Int) = (p : Int) := by omega
      simp [e, this]
theorem ev_setOf (l : List Int) (hm : ∀ x ∈ l, 0 ≤ x ∧ x < 32) (hl : l.length ≤ 1048576) : Ev (fun k => impl_setOf.f k l) (M (fun i => decide ((i : Int) ∈ l)) : Int) := by
  unfold impl_setOf.f
  have h := setOf_loop l hm hl l.length 0 (fun _ => false) (by omega)
  rw [← M_zero] at h
  simpa using h
theorem ev_taken (n : Int) (ring : Bool) (l : List Int) (hm : ∀ x ∈ l, 0 ≤ x ∧ x < 32) (hl : l.length ≤ 1048576) : Ev (fun k => impl_Row_taken.f k n ring l) (M (fun i => decide ((i : Int) ∈ l)) : Int) := by
  unfold impl_Row_taken.f
  exact evb (ev_setOf l hm hl) (evs _)
theorem setHas {P : Nat → Bool} {p : Nat} (h : p < 32) : impl_set_has.f (M P : Int) (p : Int) = some (P p) := by
  unfold impl_set_has.f
  rw [if_pos (by omega), M_has h]
  cases P p <;> rfl
theorem rowText_loop (n : Nat) (ring : Bool) (l : List Int) (hl : l.length ≤ 1048576) (hm : ∀ x ∈ l, 0 ≤ x ∧ x < 32) (hn : n ≤ 32) : ∀ d j (acc : ByteArray), j + d = n → acc.size ≤ 5 + j → Ev (fun k => impl_rowText.l0 k acc (n : Int) (j : Int) (n : Int) ring l) (txtF l d j acc)
  | 0, j, acc, h, _ => by
    apply evshift
    simp only [impl_rowText.l0]
    exact evn (by omega) (evs _)
  | d + 1, j, acc, h, ha => by
    have ih := rowText_loop n ring l hl hm hn d (j + 1) (acc ++ (if (j : Int) ∈ l then (⟨#[120]⟩ : ByteArray) else (⟨#[46]⟩ : ByteArray))) (by omega) (by rw [ByteArray.size_append, txt_one]; omega)
    apply evshift
    simp only [impl_rowText.l0]
    refine evp (by omega) (evb (ev_taken (n : Int) ring l hm hl) (evc (setHas (by omega : j < 32)) ?_))
    rw [wnext j (by omega)]
    by_cases h1 : (j : Int) ∈ l
    · refine evp (by simpa using h1) (evp (by omega) ?_)
      rw [if_pos h1] at ih
      simpa [txtF, h1] using ih
    · refine evn (by simpa using h1) (evp (by omega) ?_)
      rw [if_neg h1] at ih
      simpa [txtF, h1] using ih
theorem ev_rowText (n : Nat) (ring : Bool) (l : List Int) (hl : l.length ≤ 1048576) (hm : ∀ x ∈ l, 0 ≤ x ∧ x < 32) (hn : n ≤ 32) : Ev (fun k => impl_rowText.f k (n : Int) ring l) (txtF l n 0 (headF ring)) := by
  unfold impl_rowText.f headF
  cases ring with
  | true =>
    refine evp rfl (evshift ?_)
    simp only [impl_rowText.j0]
    exact rowText_loop n true l hl hm hn n 0 _ (by omega) (by decide)
  | false =>
    refine evn (by simp) (evshift ?_)
    simp only [impl_rowText.j0]
    exact rowText_loop n false l hl hm hn n 0 _ (by omega) (by decide)
theorem ev_specRowText (n : Int) (ring : Bool) (l : List Int) (hl : l.length ≤ 1048576) : Ev (fun k => spec_RowText.f k n ring l) (if rowB n ring l = true then (txtF l n.toNat 0 (headF ring), true) else ((⟨#[]⟩ : ByteArray), false)) := by
  unfold spec_RowText.f
  refine evb (ev_l2Row n ring l hl) ?_
  by_cases h : rowB n ring l = true
  · have ok := rowB_ok h
    obtain ⟨m, rfl⟩ : ∃ m : Nat, n = m := ⟨n.toNat, by have := ok.lo; omega⟩
    have := ok.hi
    rw [if_pos h]
    exact evp h (evb (ev_l2Text m ring l hl (by omega)) (evs _))
  · rw [if_neg h]
    exact evn h (evs _)
theorem ev_implRowText (n : Int) (ring : Bool) (l : List Int) (hl : l.length ≤ 1048576) : Ev (fun k => impl_RowText.f k n ring l) (if rowB n ring l = true then (txtF l n.toNat 0 (headF ring), true) else ((⟨#[]⟩ : ByteArray), false)) := by
  unfold impl_RowText.f
  refine evb (ev_isRow n ring l hl) ?_
  by_cases h : rowB n ring l = true
  · have ok := rowB_ok h
    obtain ⟨m, rfl⟩ : ∃ m : Nat, n = m := ⟨n.toNat, by have := ok.lo; omega⟩
    have := ok.hi
    rw [if_pos h]
    exact evp h (evb (ev_rowText m ring l hl (fun x hx => by have := ok.mem x hx; omega) (by omega)) (evs _))
  · rw [if_neg h]
    exact evn h (evs _)
theorem FnExactRowText : laws_FnExactRowText.Pure := by
  intro n ring l _ hm _
  refine Ev.rounds (g := fun k => laws_FnExactRowText.f k n ring l) ?_
  unfold laws_FnExactRowText.f
  by_cases hl : l.length ≤ 1048576
  · obtain ⟨⟨R, ok⟩, hS, hI⟩ : ∃ r, Ev (fun k => spec_RowText.f k n ring l) r ∧ Ev (fun k => impl_RowText.f k n ring l) r := ⟨_, ev_specRowText n ring l hl, ev_implRowText n ring l hl⟩
    refine evc (szRow_ok (by omega) (by omega)) ?_
    repeat (first
      | exact evs true
      | (with_reducible refine evb hS ?_)
      | (with_reducible refine evb hI ?_)
      | (with_reducible refine evb (ev_toIntS _ (by assumption)) ?_)
      | (with_reducible refine evb (ev_toRow _ _ _ (by assumption)) ?_)
      | (with_reducible refine evb (ev_eqIntS _ (by assumption)) ?_)
      | (with_reducible refine evb (ev_eqRow _ _ _ (by assumption)) ?_)
      | (with_reducible show Ev (fun k => laws_FnExactRowText.j0 k _ _ _ _ _ _ _) _; apply evshift; simp only [laws_FnExactRowText.j0])
      | (refine evp ?hc ?_; (case hc => first | omega | (simp; done)))
      | (refine evn ?hc ?_; (case hc => first | omega | (simp; done)))
      | dsimp only)
  · exact evc (szRow_big (by omega) hm) (evp (by omega) (evs _))

end Go.Proofs.Ytdbdmdegnmoblaa.Pure
