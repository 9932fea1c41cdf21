/- The law laws.FnExactFewestFilled, told as plain Lean functions of numbers, lists and strings, answers true for every input, if enough rounds are given: the program's FewestFilled answers what the reference's answers. Conditions: none but the kinds' own (each number one of its kind, each length one that the model reads). -/
import Derived.Test.YtoodiahlofeikaaPFnExactFewestFilledx9
import Derived.Test.YtoodiahlofeikaaBase
namespace Go.Proofs.Ytoodiahlofeikaa.Pure
open Go.RowKit Go.Proofs.Ytoodiahlofeikaa.PFnExactFewestFilled Go.Proofs.YtoodiahlofeikaaW.PrintWords Go.Proofs.YtoodiahlofeikaaW.PrintLast Go.Proofs.YtoodiahlofeikaaW.PrintMore Go.Proofs.Ytoodiahlofeikaa.Base

/-- Is no one of l beside x? -/
def loneB (m : Nat) (ring : Bool) (l : List Int) (x : Int) : Bool := (Base.sel m fun i => decide (gapF m ring x (i : Int) = 1)).all fun y => !decide (y ∈ l)
theorem sz_big {l : List Int} (h : 1048576 < l.length) (hm : l.length ≤ maxLen) : laws_szIntS.f l 1048576 = some (-1) := by
  unfold maxLen at hm
  unfold laws_szIntS.f
  rw [w64 (by omega) (by omega), if_pos (by omega)]
theorem sz_ok {l : List Int} {m : Int} (h : (l.length : Int) ≤ m) (hm : m ≤ 1048576) : laws_szIntS.f l m = some (m - l.length) := by
  unfold laws_szIntS.f
  rw [w64 (by omega) (by omega), if_neg (by omega)]
theorem szRow_big {a : Int} {b : Bool} {l : List Int} (h : 1048576 < l.length) (hm : l.length ≤ maxLen) : laws_szRow.f a b l 1048576 = some (-1) := by
  unfold laws_szRow.f
  rw [sz_big h hm]
  rfl
theorem szRow_ok {a : Int} {b : Bool} {l : List Int} {m : Int} (h : (l.length : Int) ≤ m) (hm : m ≤ 1048576) : laws_szRow.f a b l m = some (m - l.length) := by
  unfold laws_szRow.f
  rw [sz_ok h hm]
  simp only [Option.bind_some]
  rw [if_neg (by omega)]
theorem toIntS_loop (l : List Int) (hl : l.length ≤ 1048576) : ∀ d j, j + d = l.length → Ev (fun k => laws_toIntS.l0 k l (l.take j ++ List.replicate (l.length - j) 0) (j : Int)) l
  | 0, j, h => by
    apply evshift
    simp only [laws_toIntS.l0]
    refine evn (by omega) ?_
    have e : l.take j ++ List.replicate (l.length - j) 0 = l := by rw [show j = l.length by omega]; simp
    rw [e]
    exact evs _
  | d + 1, j, h => by
    have ih := toIntS_loop l hl d (j + 1) (by omega)
    apply evshift
    simp only [laws_toIntS.l0]
    refine evp (by omega) (evp (by omega) (evp (by simp; omega) ?_))
    rw [Int.toNat_natCast, set_copy l j (by omega), wnext j (by omega)]
    exact ih
theorem ev_toIntS (l : List Int) (hl : l.length ≤ 1048576) : Ev (fun k => laws_toIntS.f k l) l := by
  unfold laws_toIntS.f
  refine evp (by omega) (evp (by omega) ?_)
  have h := toIntS_loop l hl l.length 0 (by omega)
  simpa using h
theorem ev_toRow (a : Int) (b : Bool) (l : List Int) (hl : l.length ≤ 1048576) : Ev (fun k => laws_toRow.f k a b l) (a, b, l) := by
  unfold laws_toRow.f
  exact evb (ev_toIntS l hl) (evs _)
theorem eqIntS_loop (l : List Int) (hl : l.length ≤ 1048576) : ∀ d j, j + d = l.length → Ev (fun k => laws_eqIntS.l0 k l l (j : Int)) true
  | 0, j, h => by
    apply evshift
    simp only [laws_eqIntS.l0]
    exact evn (by omega) (evs _)
  | d + 1, j, h => by
    have ih := eqIntS_loop l hl d (j + 1) (by omega)
    apply evshift
    simp only [laws_eqIntS.l0]
    refine evp (by omega) (evp (by omega) (evp (by omega) (evp (by trivial) ?_)))
    rw [wnext j (by omega)]
    exact ih
theorem ev_eqIntS (l : List Int) (hl : l.length ≤ 1048576) : Ev (fun k => laws_eqIntS.f k l l) true := by
  unfold laws_eqIntS.f
  exact evp (by trivial) (eqIntS_loop l hl l.length 0 (by omega))
theorem ev_eqRow (a : Int) (b : Bool) (l : List Int) (hl : l.length ≤ 1048576) : Ev (fun k => laws_eqRow.f k a b l a b l) true := by
  unfold laws_eqRow.f
  refine evp (by simp) (evn (by simp) ?_)
  exact evb (ev_eqIntS l hl) (evp (by trivial) (evs _))
theorem in_spec (a lo hi : Int) : spec_l1In.f a lo hi = some (decide (lo ≤ a ∧ a ≤ hi)) := by
  unfold spec_l1In.f
  split
  · congr 1; simp; omega
  · congr 1; simp; omega
theorem rising_loop (l : List Int) (m : Int) (hl : l.length ≤ 1048576) : ∀ d j, j + d = l.length → Ev (fun k => spec_l1Rising.l0 k l 0 m (j : Int)) (okFrom m l d j)
  | 0, j, h => by
    apply evshift
    simp only [spec_l1Rising.l0]
    exact evn (by omega) (evs _)
  | d + 1, j, h => by
    have ih := rising_loop l m hl d (j + 1) (by omega)
    apply evshift
    simp only [spec_l1Rising.l0, in_spec, Option.bind_some]
    refine evp (by omega) (evp (by omega) ?_)
    simp only [okFrom, okAt]
    by_cases h1 : 0 ≤ rd l (j : Int) ∧ rd l (j : Int) ≤ m
    · refine evp (by simpa using h1) ?_
      rw [decide_eq_true h1, Bool.true_and]
      by_cases h2 : j = 0
      · refine evn (by omega) ?_
        rw [wnext j (by omega), decide_eq_true h2, Bool.true_or, Bool.true_and]
        exact ih
      · refine evp (by omega) ?_
        rw [w64 (by omega) (by omega)]
        refine evp (by omega) (evp (by omega) ?_)
        by_cases h3 : rd l ((j : Int) - 1) < rd l (j : Int)
        · refine evn (by omega) ?_
          rw [wnext j (by omega)]
          simpa [h3] using ih
        · refine evp (by omega) ?_
          simpa [h2, h3] using evs false
    · refine evn (by simpa using h1) ?_
      simpa [h1] using evs false
theorem ev_rising (l : List Int) (m : Int) (hl : l.length ≤ 1048576) : Ev (fun k => spec_l1Rising.f k l 0 m) (okFrom m l l.length 0) := by
  unfold spec_l1Rising.f
  exact rising_loop l m hl l.length 0 (by omega)
theorem ev_l2Row (n : Int) (ring : Bool) (l : List Int) (hl : l.length ≤ 1048576) : Ev (fun k => spec_l2Row.f k n ring l) (rowB n ring l) := by
  unfold spec_l2Row.f
  simp only [in_spec, Option.bind_some, rowB]
  by_cases h1 : 2 ≤ n ∧ n ≤ 24
  · refine evp (by simpa using h1) ?_
    rw [w64 (by omega) (by omega)]
    cases ring with
    | true =>
      refine evp rfl ?_
      by_cases h2 : n > 2
      · refine evp h2 (evb (ev_rising l _ hl) ?_)
        have h3 : 3 ≤ n := by omega
        simpa [h1, h3] using evs _
      · refine evn h2 ?_
        have h3 : ¬ 3 ≤ n := by omega
        simpa [h3] using evs false
    | false =>
      refine evn (by simp) (evb (ev_rising l _ hl) ?_)
      simpa [h1] using evs _
  · refine evn (by simpa using h1) ?_
    simpa [h1] using evs false
theorem l1Has_loop (l : List Int) (x : Int) (hl : l.length ≤ 1048576) : ∀ d j, j + d = l.length → Ev (fun k => spec_l1Has.l0 k l x (j : Int)) (decide (x ∈ l.drop j))
  | 0, j, h => by
    apply evshift
    simp only [spec_l1Has.l0]
    refine evn (by omega) ?_
    rw [List.drop_eq_nil_of_le (by omega)]
    simpa using evs false
  | d + 1, j, h => by
    have ih := l1Has_loop l x hl d (j + 1) (by omega)
    apply evshift
    simp only [spec_l1Has.l0]
    refine evp (by omega) (evp (by omega) ?_)
    rw [drop_cons (by omega : j < l.length)]
    by_cases h1 : rd l (j : Int) = x
    · refine evp h1 ?_
      simpa [h1] using evs true
    · refine evn h1 ?_
      have h2 : ¬ x = rd l (j : Int) := fun h => h1 h.symm
      rw [wnext j (by omega)]
      simpa [h2] using ih
theorem ev_l1Has (l : List Int) (x : Int) (hl : l.length ≤ 1048576) : Ev (fun k => spec_l1Has.f k l x) (decide (x ∈ l)) := by
  unfold spec_l1Has.f
  have h := l1Has_loop l x hl l.length 0 (by omega)
  simpa using h
theorem ev_l2Is (n : Int) (ring : Bool) (l : List Int) (x : Int) (hl : l.length ≤ 1048576) : Ev (fun k => spec_l2Is.f k n ring l x) (decide (x ∈ l)) := by
  unfold spec_l2Is.f
  exact evb (ev_l1Has l x hl) (evs _)
theorem l2Free_loop (n : Nat) (ring : Bool) (l : List Int) (hl : l.length ≤ 1048576) (hn : n ≤ 1048576) : ∀ d j, j + d = n → Ev (fun k => spec_l2Free.l0 k (sel j fun i => !decide ((i : Int) ∈ l)) (j : Int) (n : Int) ring l) (sel n fun i => !decide ((i : Int) ∈ l))
  | 0, j, h => by
    obtain rfl : j = n := by omega
    apply evshift
    simp only [spec_l2Free.l0]
    exact evn (by omega) (evs _)
  | d + 1, j, h => by
    have ih := l2Free_loop n ring l hl hn d (j + 1) (by omega)
    have hs := sel_len_le j fun i => !decide ((i : Int) ∈ l)
    rw [sel_succ] at ih
    apply evshift
    simp only [spec_l2Free.l0]
    refine evp (by omega) (evb (ev_l2Is (n : Int) ring l (j : Int) hl) ?_)
    by_cases h1 : (j : Int) ∈ l
    · refine evp (by simpa using h1) ?_
      rw [wnext j (by omega)]
      simpa [h1] using ih
    · refine evn (by simpa using h1) (evp (by omega) ?_)
      rw [wnext j (by omega)]
      simpa [h1] using ih
theorem ev_l2Free (n : Nat) (ring : Bool) (l : List Int) (hl : l.length ≤ 1048576) (hn : n ≤ 1048576) : Ev (fun k => spec_l2Free.f k (n : Int) ring l) (sel n fun i => !decide ((i : Int) ∈ l)) := by
  unfold spec_l2Free.f
  have h := l2Free_loop n ring l hl hn n 0 (by omega)
  simpa [sel] using h
theorem l1Most (a b : Int) : spec_l1Most.f a b = some (mx a b) := mx_spec a b
theorem l1Least (a b : Int) : spec_l1Least.f a b = some (mn a b) := mn_spec a b
theorem l2Gap {n a b : Int} {ring : Bool} {l : List Int} (h1 : 0 ≤ a) (h2 : a ≤ 1048576) (h3 : 0 ≤ b) (h4 : b ≤ 1048576) (h5 : 0 ≤ n) (h6 : n ≤ 1048576) : spec_l2Gap.f n ring l a b = some (gapF n ring a b) := by
  have hb := mx_bd (a := a - b) (b := b - a) (B := 1048576) (by omega) (by omega) (by omega) (by omega)
  unfold spec_l2Gap.f gapF
  rw [w64 (by omega) (by omega), w64 (by omega) (by omega)]
  simp only [l1Most, l1Least, Option.bind_some]
  rw [w64 (by omega) (by omega)]
  split <;> rfl
theorem l2Near_loop (n : Nat) (ring : Bool) (l : List Int) (p : Int) (h1 : 0 ≤ p) (h2 : p ≤ 1048576) (hn : n ≤ 1048576) : ∀ d j, j + d = n → Ev (fun k => spec_l2Near.l0 k p (sel j fun i => decide (gapF n ring p (i : Int) = 1)) (j : Int) (n : Int) ring l) (sel n fun i => decide (gapF n ring p (i : Int) = 1))
  | 0, j, h => by
    obtain rfl : j = n := by omega
    apply evshift
    simp only [spec_l2Near.l0]
    exact evn (by omega) (evs _)
  | d + 1, j, h => by
    have ih := l2Near_loop n ring l p h1 h2 hn d (j + 1) (by omega)
    have hs := sel_len_le j fun i => decide (gapF n ring p (i : Int) = 1)
    rw [sel_succ] at ih
    apply evshift
    simp only [spec_l2Near.l0]
    refine evp (by omega) (evc (l2Gap h1 h2 (by omega) (by omega) (by omega) (by omega)) ?_)
    rw [wnext j (by omega)]
    by_cases c : gapF n ring p (j : Int) = 1
    · refine evp c (evp (by omega) ?_)
      simpa [c] using ih
    · refine evn c ?_
      simpa [c] using ih
theorem ev_l2Near (n : Nat) (ring : Bool) (l : List Int) (p : Int) (h1 : 0 ≤ p) (h2 : p ≤ 1048576) (hn : n ≤ 1048576) : Ev (fun k => spec_l2Near.f k (n : Int) ring l p) (sel n fun i => decide (gapF n ring p (i : Int) = 1)) := by
  unfold spec_l2Near.f
  have h := l2Near_loop n ring l p h1 h2 hn n 0 (by omega)
  simpa [sel] using h
theorem l2Lonely_inner (n : Nat) (ring : Bool) (l acc F near : List Int) (i : Nat) (r : List Int) (hl : l.length ≤ 1048576) (hn : near.length ≤ 1048576) (hi : i < F.length) (hF : F.length ≤ 1048576) (ha : acc.length ≤ 1048576) : ∀ d j (flag : Bool), j + d = near.length →
    Ev (fun k => spec_l2Lonely.l0 k (if (flag && (near.drop j).all fun y => !decide (y ∈ l)) = true then acc ++ [rd F (i : Int)] else acc) F ((i + 1 : Nat) : Int) (n : Int) ring l) r →
    Ev (fun k => spec_l2Lonely.l1 k acc F (i : Int) near flag (j : Int) (n : Int) ring l) r
  | 0, j, flag, h, H => by
    obtain rfl : j = near.length := by omega
    rw [List.drop_length, List.all_nil, Bool.and_true] at H
    apply evshift
    simp only [spec_l2Lonely.l1]
    refine evn (by omega) ?_
    rw [wnext i (by omega)]
    cases flag with
    | false => rw [if_neg (by simp)] at H; exact evn (by simp) H
    | true => rw [if_pos rfl] at H; exact evp rfl (evp (by omega) (evp (by omega) (evp (by omega) H)))
  | d + 1, j, flag, h, H => by
    rw [drop_cons (by omega : j < near.length), List.all_cons] at H
    apply evshift
    simp only [spec_l2Lonely.l1]
    refine evp (by omega) ?_
    rw [wnext j (by omega)]
    cases flag with
    | false =>
      exact evn (by simp) (l2Lonely_inner n ring l acc F near i r hl hn hi hF ha d (j + 1) false (by omega) (by simpa using H))
    | true =>
      refine evp rfl (evp (by omega) (evb (ev_l2Is n ring l _ hl) ?_))
      exact l2Lonely_inner n ring l acc F near i r hl hn hi hF ha d (j + 1) _ (by omega) (by simpa using H)
theorem l2Lonely_outer (n : Nat) (ring : Bool) (l F : List Int) (hl : l.length ≤ 1048576) (hF : F.length ≤ 1048576) (hm : ∀ x ∈ F, 0 ≤ x ∧ x < (n : Int)) (hn : n ≤ 1048576) : ∀ d i (acc : List Int), i + d = F.length → acc.length ≤ i →
    Ev (fun k => spec_l2Lonely.l0 k acc F (i : Int) (n : Int) ring l) (acc ++ (F.drop i).filter (loneB n ring l))
  | 0, i, acc, h, _ => by
    apply evshift
    simp only [spec_l2Lonely.l0]
    refine evn (by omega) ?_
    rw [List.drop_eq_nil_of_le (by omega), List.filter_nil, List.append_nil]
    exact evs _
  | d + 1, i, acc, h, ha => by
    have r := rd_bd hm (by omega : i < F.length)
    apply evshift
    simp only [spec_l2Lonely.l0]
    refine evp (by omega) (evp (by omega) (evb (ev_l2Near n ring l _ (by omega) (by omega) hn) ?_))
    have hs := sel_len_le n fun j => decide (gapF n ring (rd F (i : Int)) (j : Int) = 1)
    refine l2Lonely_inner n ring l acc F _ i _ hl (by omega) (by omega) hF (by omega) _ 0 true (by rw [Nat.zero_add]) ?_
    rw [List.drop_zero, Bool.true_and, drop_cons (by omega : i < F.length), List.filter_cons]
    show Ev (fun k => spec_l2Lonely.l0 k (if loneB n ring l (rd F (i : Int)) = true then _ else acc) F ((i + 1 : Nat) : Int) (n : Int) ring l) _
    by_cases c : loneB n ring l (rd F (i : Int)) = true
    · rw [if_pos c, if_pos c]
      have ih := l2Lonely_outer n ring l F hl hF hm hn d (i + 1) (acc ++ [rd F (i : Int)]) (by omega) (by simp; omega)
      simpa using ih
    · rw [if_neg c, if_neg c]
      exact l2Lonely_outer n ring l F hl hF hm hn d (i + 1) acc (by omega) (by omega)
theorem ev_l2Lonely (n : Nat) (ring : Bool) (l : List Int) (hl : l.length ≤ 1048576) (hn : n ≤ 1048576) : Ev (fun k => spec_l2Lonely.f k (n : Int) ring l) ((sel n fun i => !decide ((i : Int) ∈ l)).filter (loneB n ring l)) := by
  unfold spec_l2Lonely.f
  refine evb (ev_l2Free n ring l hl hn) ?_
  have hs := sel_len_le n fun i => !decide ((i : Int) ∈ l)
  have h := l2Lonely_outer n ring l (sel n fun i => !decide ((i : Int) ∈ l)) hl (by omega) (fun x hx => by
    obtain ⟨i, h1, _, rfl⟩ := mem_sel.1 hx
    omega) hn _ 0 [] (by rw [Nat.zero_add]) (by simp)
  simpa using h
theorem setOf_loop (l : List Int) (hm : ∀ x ∈ l, 0 ≤ x ∧ x < 32) (hl : l.length ≤ 1048576) : ∀ d j (P : Nat → Bool), j + d = l.length →
    Ev (fun k => impl_setOf.l0 k (M P : Int) l (l.length : Int) (j : Int)) (M (fun i => P i || decide ((i : Int) ∈ l.drop j)) : Int)
  | 0, j, P, h => by
    apply evshift
    simp only [impl_setOf.l0]
    refine evn (by omega) ?_
    rw [List.drop_eq_nil_of_le (by omega)]
    simpa using evs _
  | d + 1, j, P, h => by
    apply evshift
    simp only [impl_setOf.l0]
    have hr := hm _ (rd_mem (by omega : j < l.length))
    refine evp (by omega) (evp (by omega) (evp (by omega) (evp (by omega) ?_)))
    obtain ⟨p, hp⟩ : ∃ p : Nat, rd l (j : Int) = (p : Int) := ⟨(rd l (j : Int)).toNat, by omega⟩
    rw [hp] at hr
    rw [hp, M_one (by omega), M_or, wnext j (by omega)]
    refine eve (setOf_loop l hm hl d (j + 1) _ (by omega)) ?_
    rw [drop_cons (by omega : j < l.length), hp]
    refine congrArg _ (M_congr fun i _ => ?_)
    by_cases e : i = p
    · subst e; simp
    · have : ¬ (i : Int) = (p : Int) := by omega
      simp [e, this]
theorem ev_setOf (l : List Int) (hm : ∀ x ∈ l, 0 ≤ x ∧ x < 32) (hl : l.length ≤ 1048576) : Ev (fun k => impl_setOf.f k l) (M (fun i => decide ((i : Int) ∈ l)) : Int) := by
  unfold impl_setOf.f
  have h := setOf_loop l hm hl l.length 0 (fun _ => false) (by omega)
  rw [← M_zero] at h
  simpa using h
theorem ev_taken (n : Int) (ring : Bool) (l : List Int) (hm : ∀ x ∈ l, 0 ≤ x ∧ x < 32) (hl : l.length ≤ 1048576) : Ev (fun k => impl_Row_taken.f k n ring l) (M (fun i => decide ((i : Int) ∈ l)) : Int) := by
  unfold impl_Row_taken.f
  exact evb (ev_setOf l hm hl) (evs _)
theorem in_impl (a lo hi : Int) : impl_within.f a lo hi = some (decide (lo ≤ a ∧ a ≤ hi)) := by
  unfold impl_within.f
  split
  · congr 1; simp; omega
  · congr 1; simp; omega
theorem allWithin_loop (l : List Int) (lo hi : Int) (hl : l.length ≤ 1048576) : ∀ d j, j + d = l.length → Ev (fun k => impl_allWithin.l0 k lo hi l (l.length : Int) (j : Int)) ((l.drop j).all fun x => decide (lo ≤ x ∧ x ≤ hi))
  | 0, j, h => by
    apply evshift
    simp only [impl_allWithin.l0]
    refine evn (by omega) ?_
    rw [List.drop_eq_nil_of_le (by omega)]
    exact evs _
  | d + 1, j, h => by
    have ih := allWithin_loop l lo hi hl d (j + 1) (by omega)
    apply evshift
    simp only [impl_allWithin.l0, in_impl, Option.bind_some]
    refine evp (by omega) (evp (by omega) (evp (by omega) ?_))
    rw [drop_cons (by omega : j < l.length), List.all_cons]
    by_cases h1 : lo ≤ rd l (j : Int) ∧ rd l (j : Int) ≤ hi
    · refine evp (by simpa using h1) ?_
      rw [wnext j (by omega)]
      simpa [h1] using ih
    · refine evn (by simpa using h1) ?_
      simpa [h1] using evs false
theorem ev_allWithin (l : List Int) (lo hi : Int) (hl : l.length ≤ 1048576) : Ev (fun k => impl_allWithin.f k l lo hi) (l.all fun x => decide (lo ≤ x ∧ x ≤ hi)) := by
  unfold impl_allWithin.f
  have h := allWithin_loop l lo hi hl l.length 0 (by omega)
  simpa using h
theorem ev_benchHas (n : Int) (ring : Bool) (l : List Int) (hl : l.length ≤ 1048576) : Ev (fun k => impl_bench_has.f k n ring l) (l.all fun x => decide (0 ≤ x ∧ x ≤ wrap64 (n - 1))) := by
  unfold impl_bench_has.f
  exact evb (ev_allWithin l 0 _ hl) (evs _)
theorem benchValid (n : Int) (ring : Bool) : impl_bench_valid.f n ring = some (decide (2 ≤ n ∧ n ≤ 24) && (!ring || decide (3 ≤ n))) := by
  unfold impl_bench_valid.f
  simp only [in_impl, Option.bind_some]
  by_cases h1 : 2 ≤ n ∧ n ≤ 24
  · rw [if_pos (by simpa using h1)]
    cases ring <;> simp [h1]
  · rw [if_neg (by simpa using h1)]
    simp [h1]
theorem isRow_loop (n : Int) (ring : Bool) (l : List Int) (hl : l.length ≤ 1048576) : ∀ d j, j + d = l.length →
    Ev (fun k => impl_IsRow.l0 k l (l.length : Int) (j : Int) n ring l) (okFrom (wrap64 (n - 1)) l d j && (decide (2 ≤ n ∧ n ≤ 24) && (!ring || decide (3 ≤ n))))
  | 0, j, h => by
    apply evshift
    simp only [impl_IsRow.l0, impl_Row_bench.f, Option.bind_some, benchValid]
    refine evn (by omega) ?_
    simpa [okFrom] using evs _
  | d + 1, j, h => by
    have ih := isRow_loop n ring l hl d (j + 1) (by omega)
    apply evshift
    simp only [impl_IsRow.l0, impl_Row_bench.f, Option.bind_some]
    refine evp (by omega) (evp (by omega) (evp (by omega) ?_))
    refine evb (ev_benchHas n ring [rd l (j : Int)] (by simp)) ?_
    simp only [okFrom, okAt, List.all_cons, List.all_nil, Bool.and_true]
    by_cases h1 : 0 ≤ rd l (j : Int) ∧ rd l (j : Int) ≤ wrap64 (n - 1)
    · refine evp (by simpa using h1) ?_
      rw [decide_eq_true h1, Bool.true_and]
      by_cases h2 : j = 0
      · refine evn (by omega) ?_
        rw [wnext j (by omega), decide_eq_true h2, Bool.true_or, Bool.true_and]
        exact ih
      · refine evp (by omega) ?_
        rw [w64 (by omega) (by omega)]
        refine evp (by omega) (evp (by omega) ?_)
        by_cases h3 : rd l ((j : Int) - 1) < rd l (j : Int)
        · refine evn (by omega) ?_
          rw [wnext j (by omega)]
          simpa [h3] using ih
        · refine evp (by omega) ?_
          simpa [h2, h3] using evs false
    · refine evn (by simpa using h1) ?_
      simpa [h1] using evs false
theorem ev_isRow (n : Int) (ring : Bool) (l : List Int) (hl : l.length ≤ 1048576) : Ev (fun k => impl_IsRow.f k n ring l) (rowB n ring l) := by
  unfold impl_IsRow.f
  refine eve (isRow_loop n ring l hl l.length 0 (by omega)) ?_
  unfold rowB
  by_cases h1 : 2 ≤ n ∧ n ≤ 24
  · rw [w64 (by omega) (by omega)]
    cases okFrom (n - 1) l l.length 0 <;> simp [h1]
  · simp [h1]
theorem setHas {P : Nat → Bool} {p : Nat} (h : p < 32) : impl_set_has.f (M P : Int) (p : Int) = some (P p) := by
  unfold impl_set_has.f
  rw [if_pos (by omega), M_has h]
  cases P p <;> rfl
theorem benchGap {n a b : Int} {ring : Bool} (h1 : 0 ≤ a) (h2 : a ≤ 1048576) (h3 : 0 ≤ b) (h4 : b ≤ 1048576) (h5 : 0 ≤ n) (h6 : n ≤ 1048576) : impl_bench_gap.f n ring a b = some (gapF n ring a b) := by
  have hb := mx_bd (a := a - b) (b := b - a) (B := 1048576) (by omega) (by omega) (by omega) (by omega)
  unfold impl_bench_gap.f gapF
  rw [w64 (by omega) (by omega), w64 (by omega) (by omega), w64 (by omega) (by omega)]
  split <;> rfl
theorem near_loop (n : Nat) (ring : Bool) (p : Int) (h1 : 0 ≤ p) (h2 : p ≤ 1048576) (hn : n ≤ 32) : ∀ d j, j + d = n → Ev (fun k => impl_bench_near.l0 k p (M (fun i => decide (i < j) && decide (gapF n ring p (i : Int) = 1)) : Int) (n : Int) (j : Int) (n : Int) ring) (M (fun i => decide (i < n) && decide (gapF n ring p (i : Int) = 1)) : Int)
  | 0, j, h => by
    obtain rfl : j = n := by omega
    apply evshift
    simp only [impl_bench_near.l0]
    exact evn (by omega) (evs _)
  | d + 1, j, h => by
    have ih := near_loop n ring p h1 h2 hn d (j + 1) (by omega)
    apply evshift
    simp only [impl_bench_near.l0]
    refine evp (by omega) (evc (benchGap h1 h2 (by omega) (by omega) (by omega) (by omega)) ?_)
    rw [wnext j (by omega)]
    by_cases c : gapF n ring p (j : Int) = 1
    · refine evp c (evp (by omega) ?_)
      rw [M_one (by omega : j < 32), M_or]
      rw [M_congr (Q := fun i => (decide (i < j) && decide (gapF n ring p (i : Int) = 1)) || decide (i = j)) fun i _ => ?_] at ih
      · exact ih
      · by_cases e : i = j
        · subst e; simp [c]
        · simp only [e, decide_false, Bool.or_false]
          congr 1
          simp; omega
    · refine evn c ?_
      rw [M_congr (Q := fun i => decide (i < j) && decide (gapF n ring p (i : Int) = 1)) fun i _ => ?_] at ih
      · exact ih
      · by_cases e : i = j
        · subst e; simp [c]
        · congr 1
          simp; omega
theorem ev_near (n : Nat) (ring : Bool) (p : Int) (h1 : 0 ≤ p) (h2 : p ≤ 1048576) (hn : n ≤ 32) : Ev (fun k => impl_bench_near.f k (n : Int) ring p) (M (fun i => decide (i < n) && decide (gapF n ring p (i : Int) = 1)) : Int) := by
  unfold impl_bench_near.f
  have h := near_loop n ring p h1 h2 hn n 0 (by omega)
  rw [M_congr (Q := fun _ => false) fun i _ => by simp, ← M_zero] at h
  exact h
theorem lone_and (n : Nat) (ring : Bool) (l : List Int) (x : Int) (hn : n ≤ 32) : (M (fun i => (decide (i < n) && decide (gapF n ring x (i : Int) = 1)) && decide ((i : Int) ∈ l)) : Int) = 0 ↔ loneB n ring l x = true := by
  rw [M_eq_zero, loneB, List.all_eq_true]
  constructor
  · intro h y hy
    obtain ⟨i, h1, h2, rfl⟩ := mem_sel.1 hy
    have := h i (by omega)
    simp only [h1, decide_true, Bool.true_and, h2] at this
    simp [this]
  · intro h i hi
    by_cases h1 : i < n
    · by_cases h2 : gapF n ring x (i : Int) = 1
      · have := h _ (mem_sel.2 ⟨i, h1, by simp [h2], rfl⟩)
        simp at this
        simp [this]
      · simp [h2]
    · simp [h1]
theorem lonely_loop (n : Nat) (ring : Bool) (l : List Int) (hn : n ≤ 32) : ∀ d j, j + d = n → Ev (fun k => impl_bench_lonely.l0 k (M (fun i => decide ((i : Int) ∈ l)) : Int) (M (fun i => decide (i < j) && (!decide ((i : Int) ∈ l) && loneB n ring l (i : Int))) : Int) (n : Int) (j : Int) (n : Int) ring) (M (fun i => decide (i < n) && (!decide ((i : Int) ∈ l) && loneB n ring l (i : Int))) : Int)
  | 0, j, h => by
    obtain rfl : j = n := by omega
    apply evshift
    simp only [impl_bench_lonely.l0]
    exact evn (by omega) (evs _)
  | d + 1, j, h => by
    have ih := lonely_loop n ring l hn d (j + 1) (by omega)
    apply evshift
    simp only [impl_bench_lonely.l0]
    refine evp (by omega) (evc (setHas (by omega)) ?_)
    rw [wnext j (by omega)]
    have hno : (decide ((j : Int) ∈ l) = true ∨ loneB n ring l (j : Int) = false) → M (fun i => decide (i < j + 1) && (!decide ((i : Int) ∈ l) && loneB n ring l (i : Int))) = M (fun i => decide (i < j) && (!decide ((i : Int) ∈ l) && loneB n ring l (i : Int))) := fun hc => M_congr fun i _ => by
      by_cases e : i = j
      · subst e; rcases hc with hc | hc <;> simp [hc]
      · congr 1; simp; omega
    by_cases c : (j : Int) ∈ l
    · refine evp (by simp [c]) ?_
      rw [hno (.inl (by simp [c]))] at ih
      exact ih
    · refine evn (by simp [c]) (evb (ev_near n ring j (by omega) (by omega) hn) ?_)
      rw [M_and]
      by_cases c2 : loneB n ring l (j : Int) = true
      · refine evp ((lone_and n ring l j hn).2 c2) (evp (by omega) ?_)
        rw [M_one (by omega : j < 32), M_or]
        rw [M_congr (P := fun i => decide (i < j + 1) && (!decide ((i : Int) ∈ l) && loneB n ring l (i : Int))) (Q := fun i => (decide (i < j) && (!decide ((i : Int) ∈ l) && loneB n ring l (i : Int))) || decide (i = j)) fun i _ => ?_] at ih
        · exact ih
        · by_cases e : i = j
          · subst e; simp [c, c2]
          · simp only [e, decide_false, Bool.or_false]
            congr 1
            simp; omega
      · refine evn (fun h => c2 ((lone_and n ring l j hn).1 h)) ?_
        rw [hno (.inr (by simpa using c2))] at ih
        exact ih
theorem ev_lonely (n : Nat) (ring : Bool) (l : List Int) (hn : n ≤ 32) : Ev (fun k => impl_bench_lonely.f k (n : Int) ring (M (fun i => decide ((i : Int) ∈ l)) : Int)) (M (fun i => decide (i < n) && (!decide ((i : Int) ∈ l) && loneB n ring l (i : Int))) : Int) := by
  unfold impl_bench_lonely.f
  have h := lonely_loop n ring l hn n 0 (by omega)
  rw [M_congr (P := fun i => decide (i < 0) && (!decide ((i : Int) ∈ l) && loneB n ring l (i : Int))) (Q := fun _ => false) fun i _ => by simp, ← M_zero] at h
  exact h
theorem benchAll (n : Nat) (ring : Bool) (h : n < 32) : impl_bench_all.f (n : Int) ring = some (M (fun i => decide (i < n)) : Int) := by
  unfold impl_bench_all.f
  rw [if_pos (by omega), M_all h]
theorem M_inj {P Q : Nat → Bool} : ((M P : Nat) : Int) = ((M Q : Nat) : Int) ↔ ∀ i, i < 32 → P i = Q i := by
  constructor
  · intro h i hi
    have e : M P = M Q := by omega
    have h1 := M_bit P i
    rw [e, M_bit Q i] at h1
    simpa [hi] using h1.symm
  · intro h
    rw [M_congr h]
/-- The free seats of a row, as the program holds them. -/
def FS (m : Nat) (l : List Int) : Nat → Bool := fun i => decide (i < m) && !decide ((i : Int) ∈ l)
def stopB (m : Nat) (ring : Bool) (l : List Int) (i d : Nat) : Bool := decide ((((i + d) % m : Nat) : Int) ∈ l) || (!ring && !decide (i + d < m))
theorem run_at (m i d : Nat) (h : i ≤ 1048576) (h' : d ≤ 1048576) : Int.tmod (wrap64 ((i : Int) + (d : Int))) (m : Int) = (((i + d) % m : Nat) : Int) := by
  rw [w64 (by omega) (by omega)]
  rw [show ((i : Int) + (d : Int)) = ((i + d : Nat) : Int) by omega]
  exact (Int.ofNat_tmod _ _).symm
theorem spec_run (m : Nat) (ring : Bool) (l : List Int) (acc : List S66) (i t : Nat) (r : List S66) (hl : l.length ≤ 1048576) (hm : 0 < m) (hi : i < 64) (ht : t < 64) (ha : acc.length ≤ 64)
    (hs : stopB m ring l i t = true) (hn : ∀ d, d < t → stopB m ring l i d = false)
    (hr : Ev (fun k => spec_l2Runs.l0 k (acc ++ [(⟨i, t⟩ : S66)]) ((i + 1 : Nat) : Int) (m : Int) ring l) r) : ∀ e d, d + e = t → Ev (fun k => spec_l2Runs.l1 k acc (i : Int) (d : Int) (m : Int) ring l) r
  | 0, d, h => by
    obtain rfl : d = t := by omega
    apply evshift
    simp only [spec_l2Runs.l1]
    rw [run_at m i d (by omega) (by omega), wnext i (by omega), w64 (by omega) (by omega)]
    refine evn (by omega) (evb (ev_l2Is _ ring l _ hl) ?_)
    unfold stopB at hs
    by_cases c : (((i + d) % m : Nat) : Int) ∈ l
    · exact evp (by simpa using c) (evp (by omega) hr)
    · simp only [c, decide_false, Bool.false_or, Bool.and_eq_true, Bool.not_eq_true', decide_eq_false_iff_not] at hs
      exact evn (by simpa using c) (evn (by simp [hs.1]) (evn (by first | omega | (rw [w64 (by omega) (by omega)]; omega)) (evp (by omega) hr)))
  | e + 1, d, h => by
    have ih := spec_run m ring l acc i t r hl hm hi ht ha hs hn hr e (d + 1) (by omega)
    have hd := hn d (by omega)
    unfold stopB at hd
    rw [Bool.or_eq_false_iff, decide_eq_false_iff_not] at hd
    apply evshift
    simp only [spec_l2Runs.l1]
    rw [run_at m i d (by omega) (by omega), wnext i (by omega), wnext d (by omega), w64 (by omega) (by omega)]
    refine evn (by omega) (evb (ev_l2Is _ ring l _ hl) (evn (by simpa using hd.1) ?_))
    cases ring with
    | true => exact evp (by simp) ih
    | false =>
      have := hd.2
      simp only [Bool.not_false, Bool.true_and, Bool.not_eq_false', decide_eq_true_eq] at this
      exact evn (by simp) (evp (by omega) ih)
theorem impl_run (m : Nat) (ring : Bool) (l : List Int) (acc : List S66) (i t : Nat) (r : List S66) (hm : 0 < m) (hm2 : m ≤ 32) (hi : i < 64) (ht : t < 64) (ha : acc.length ≤ 64)
    (hs : stopB m ring l i t = true) (hn : ∀ d, d < t → stopB m ring l i d = false)
    (hr : Ev (fun k => impl_bench_runs.l0 k (M (FS m l) : Int) (acc ++ [(⟨i, t⟩ : S66)]) (m : Int) ((i + 1 : Nat) : Int) (m : Int) ring) r) : ∀ e d, d + e = t → Ev (fun k => impl_bench_runs.l1 k (M (FS m l) : Int) acc (i : Int) (d : Int) ((i : Int) + (d : Int)) (m : Int) (i : Int) (m : Int) ring) r
  | 0, d, h => by
    obtain rfl : d = t := by omega
    have hlt : (i + d) % m < m := Nat.mod_lt _ hm
    apply evshift
    simp only [impl_bench_runs.l1]
    rw [wnext i (by omega), show ((i : Int) + (d : Int)) = ((i + d : Nat) : Int) by omega, show Int.tmod ((i + d : Nat) : Int) (m : Int) = (((i + d) % m : Nat) : Int) from (Int.ofNat_tmod _ _).symm]
    refine evn (by omega) (evc (setHas (by omega)) ?_)
    unfold stopB at hs
    by_cases c : (((i + d) % m : Nat) : Int) ∈ l
    · exact evn (by simp only [FS, hlt, c]; simp) (evp (by omega) hr)
    · simp only [c, decide_false, Bool.false_or, Bool.and_eq_true, Bool.not_eq_true', decide_eq_false_iff_not] at hs
      exact evp (by simp only [FS, hlt, c]; simp) (evn (by simp [hs.1]) (evn (by first | omega | (rw [w64 (by omega) (by omega)]; omega)) (evp (by omega) hr)))
  | e + 1, d, h => by
    have ih := impl_run m ring l acc i t r hm hm2 hi ht ha hs hn hr e (d + 1) (by omega)
    have hlt : (i + d) % m < m := Nat.mod_lt _ hm
    have hd := hn d (by omega)
    unfold stopB at hd
    rw [Bool.or_eq_false_iff, decide_eq_false_iff_not] at hd
    apply evshift
    simp only [impl_bench_runs.l1]
    rw [wnext i (by omega), wnext d (by omega), show ((i : Int) + (d : Int)) = ((i + d : Nat) : Int) by omega, wnext (i + d) (by omega), show Int.tmod ((i + d : Nat) : Int) (m : Int) = (((i + d) % m : Nat) : Int) from (Int.ofNat_tmod _ _).symm]
    rw [show ((i : Int) + ((d + 1 : Nat) : Int)) = ((i + d + 1 : Nat) : Int) by omega] at ih
    refine evn (by omega) (evc (setHas (by omega)) (evp (by simp only [FS, hlt, hd.1]; simp) ?_))
    cases ring with
    | true => exact evp (by simp) ih
    | false =>
      have := hd.2
      simp only [Bool.not_false, Bool.true_and, Bool.not_eq_false', decide_eq_true_eq] at this
      exact evn (by simp) (evp (by omega) ih)
theorem run_ends (m : Nat) (ring : Bool) (l : List Int) (i : Nat) (hm : 0 < m) (hm2 : m ≤ 24) (hmem : ∀ x ∈ l, 0 ≤ x ∧ x < (m : Int)) (hi : i < m) (h : ring = true → l ≠ []) : ∃ t, t < 64 ∧ stopB m ring l i t = true ∧ ∀ d, d < t → stopB m ring l i d = false := by
  refine least_of (n := 64) ?_
  cases ring with
  | false => exact ⟨m - i, by omega, by unfold stopB; rw [Bool.or_eq_true]; right; simp; omega⟩
  | true =>
    have hne := h rfl
    obtain ⟨x, hx⟩ := List.exists_mem_of_ne_nil l hne
    have hb := hmem x hx
    refine ⟨(x.toNat + m - i), by omega, ?_⟩
    unfold stopB
    rw [show i + (x.toNat + m - i) = x.toNat + m by omega, Nat.add_mod_right, Nat.mod_eq_of_lt (by omega), Int.toNat_of_nonneg hb.1]
    simp [hx]
theorem runs_loop (m : Nat) (ring : Bool) (l : List Int) (hl : l.length ≤ 1048576) (hm : 0 < m) (hm2 : m ≤ 24) (hmem : ∀ x ∈ l, 0 ≤ x ∧ x < (m : Int)) (hne : ring = true → l ≠ []) : ∀ d i (acc : List S66), i + d = m → acc.length ≤ i → (∀ y ∈ acc, ring = true → y.f1 ≠ (m : Int)) →
    ∃ r, Ev (fun k => spec_l2Runs.l0 k acc (i : Int) (m : Int) ring l) r ∧ Ev (fun k => impl_bench_runs.l0 k (M (FS m l) : Int) acc (m : Int) (i : Int) (m : Int) ring) r ∧ r.length ≤ m ∧ ∀ y ∈ r, ring = true → y.f1 ≠ (m : Int)
  | 0, i, acc, h, ha, hq => by
    refine ⟨acc, ?_, ?_, by omega, hq⟩
    · apply evshift
      simp only [spec_l2Runs.l0]
      exact evn (by omega) (evs _)
    · apply evshift
      simp only [impl_bench_runs.l0]
      exact evn (by omega) (evs _)
  | d + 1, i, acc, h, ha, hq => by
    have hi : i < m := by omega
    -- where the seat before it is, if there is one
    have hcase : ∃ skip : Bool, (∀ r, Ev (fun k => spec_l2Runs.j2 k acc (i : Int) skip (m : Int) ring l) r → Ev (fun k => spec_l2Runs.l0 k acc (i : Int) (m : Int) ring l) r) ∧
        (∀ r, Ev (fun k => impl_bench_runs.j4 k (M (FS m l) : Int) acc (i : Int) (m : Int) (i : Int) skip (m : Int) ring) r → Ev (fun k => impl_bench_runs.l0 k (M (FS m l) : Int) acc (m : Int) (i : Int) (m : Int) ring) r) := by
      have hprev : Int.tmod (wrap64 ((wrap64 ((i : Int) - 1)) + (m : Int))) (m : Int) = (((i + m - 1) % m : Nat) : Int) := by
        rw [w64 (x := (i : Int) - 1) (by omega) (by omega), w64 (by omega) (by omega), show ((i : Int) - 1 + (m : Int)) = ((i + m - 1 : Nat) : Int) by omega]
        exact (Int.ofNat_tmod _ _).symm
      by_cases c : (i : Int) ∈ l
      · refine ⟨true, fun r hr => ?_, fun r hr => ?_⟩
        · apply evshift
          simp only [spec_l2Runs.l0]
          exact evp (by omega) (evn (by omega) (evb (ev_l2Is _ ring l _ hl) (evp (by simpa using c) hr)))
        · have base : ∀ y : Int, Ev (fun k => impl_bench_runs.j3 k (M (FS m l) : Int) acc (i : Int) y (m : Int) (i : Int) (m : Int) ring) r := fun y => by
            apply evshift
            simp only [impl_bench_runs.j3]
            exact evc (setHas (by omega)) (evn (by simp only [FS, hi, c]; simp) hr)
          have base2 : ∀ (y : Int) (b : Bool), Ev (fun k => impl_bench_runs.j2 k (M (FS m l) : Int) acc (i : Int) y (m : Int) (i : Int) b (m : Int) ring) r := fun y b => by
            apply evshift
            simp only [impl_bench_runs.j2]
            by_cases hb : b = true
            · exact evp hb (base _)
            · exact evn hb (base _)
          apply evshift
          simp only [impl_bench_runs.l0]
          refine evp (by omega) ?_
          by_cases hb : ring = true
          · exact evp hb (base2 _ _)
          · exact evn hb (base2 _ _)
      · -- free: what is before it
        have hspec : ∀ r, Ev (fun k => spec_l2Runs.j2 k acc (i : Int) (if (((i + m - 1) % m : Nat) : Int) ∈ l then false else if ring = true then true else decide ((i : Int) > 0)) (m : Int) ring l) r → Ev (fun k => spec_l2Runs.l0 k acc (i : Int) (m : Int) ring l) r := fun r hr => by
          apply evshift
          simp only [spec_l2Runs.l0]
          rw [hprev]
          refine evp (by omega) (evn (by omega) (evb (ev_l2Is _ ring l _ hl) (evn (by simpa using c) (evb (ev_l2Is _ ring l _ hl) ?_))))
          by_cases c2 : (((i + m - 1) % m : Nat) : Int) ∈ l
          · rw [if_pos c2] at hr
            exact evp (by simpa using c2) hr
          · rw [if_neg c2] at hr
            refine evn (by simpa using c2) ?_
            by_cases c3 : ring = true
            · rw [if_pos c3] at hr; exact evp c3 hr
            · rw [if_neg c3] at hr; exact evn c3 hr
        have himpl : ∀ (y : Int) (s : Bool), (0 ≤ y → ∃ q : Nat, y = q ∧ q < m ∧ s = !decide ((q : Int) ∈ l)) → (y < 0 → s = false) → ∀ r, Ev (fun k => impl_bench_runs.j4 k (M (FS m l) : Int) acc (i : Int) (m : Int) (i : Int) s (m : Int) ring) r → Ev (fun k => impl_bench_runs.j3 k (M (FS m l) : Int) acc (i : Int) y (m : Int) (i : Int) (m : Int) ring) r := fun y s h1 h2 r hr => by
          apply evshift
          simp only [impl_bench_runs.j3]
          refine evc (setHas (by omega)) (evp (by simp only [FS, hi, c]; simp) ?_)
          by_cases hy : 0 ≤ y
          · obtain ⟨q, rfl, hq, hs⟩ := h1 hy
            refine evp (by omega) (evc (setHas (by omega)) ?_)
            have e : FS m l q = s := by rw [hs]; simp [FS, hq]
            rw [e]
            exact hr
          · rw [h2 (by omega)] at hr
            exact evn (by omega) hr
        by_cases hr0 : ring = true
        · subst hr0
          refine ⟨_, hspec, fun r hr => ?_⟩
          apply evshift
          simp only [impl_bench_runs.l0]
          refine evp (by omega) (evp (by simp) ?_)
          apply evshift
          simp only [impl_bench_runs.j2]
          have e : (if (((i + m - 1) % m : Nat) : Int) ∈ l then false else if true = true then true else decide ((i : Int) > 0)) = !decide ((((i + m - 1) % m : Nat) : Int) ∈ l) := by
            by_cases c2 : (((i + m - 1) % m : Nat) : Int) ∈ l
            · rw [if_pos c2, decide_eq_true c2]; rfl
            · rw [if_neg c2, decide_eq_false c2]; rfl
          rw [e] at hr
          by_cases h0 : i = 0
          · subst h0
            refine evp (by simp) ?_
            rw [w64 (by omega) (by omega)]
            refine himpl _ _ (fun _ => ⟨m - 1, by omega, by omega, ?_⟩) (fun h => by omega) r hr
            rw [Nat.zero_add, Nat.mod_eq_of_lt (by omega)]
          · refine evn (by simp; omega) ?_
            rw [w64 (by omega) (by omega)]
            refine himpl _ _ (fun _ => ⟨i - 1, by omega, by omega, ?_⟩) (fun h => by omega) r hr
            rw [show i + m - 1 = i - 1 + m by omega, Nat.add_mod_right, Nat.mod_eq_of_lt (by omega)]
        · have hrf : ring = false := by simpa using hr0
          subst hrf
          refine ⟨_, hspec, fun r hr => ?_⟩
          apply evshift
          simp only [impl_bench_runs.l0]
          refine evp (by omega) (evn (by simp) ?_)
          apply evshift
          simp only [impl_bench_runs.j2]
          refine evn (by simp) ?_
          rw [w64 (by omega) (by omega)]
          by_cases h0 : i = 0
          · subst h0
            have e : (if (((0 + m - 1) % m : Nat) : Int) ∈ l then false else if false = true then true else decide (((0 : Nat) : Int) > 0)) = false := by
              split <;> simp
            rw [e] at hr
            exact himpl _ _ (fun h => by omega) (fun _ => rfl) r hr
          · have e : (if (((i + m - 1) % m : Nat) : Int) ∈ l then false else if false = true then true else decide ((i : Int) > 0)) = !decide ((((i + m - 1) % m : Nat) : Int) ∈ l) := by
              by_cases c2 : (((i + m - 1) % m : Nat) : Int) ∈ l
              · rw [if_pos c2, decide_eq_true c2]; rfl
              · rw [if_neg c2, decide_eq_false c2, if_neg (by simp), decide_eq_true (by omega)]; rfl
            rw [e] at hr
            refine himpl _ _ (fun _ => ⟨i - 1, by omega, by omega, ?_⟩) (fun h => by omega) r hr
            rw [show i + m - 1 = i - 1 + m by omega, Nat.add_mod_right, Nat.mod_eq_of_lt (by omega)]
    obtain ⟨skip, hS, hI⟩ := hcase
    cases skip with
    | true =>
      obtain ⟨r, h1, h2, h3⟩ := runs_loop m ring l hl hm hm2 hmem hne d (i + 1) acc (by omega) (by omega) hq
      refine ⟨r, hS _ ?_, hI _ ?_, h3⟩
      · apply evshift
        simp only [spec_l2Runs.j2]
        rw [wnext i (by omega)]
        exact evp (by simp) h1
      · apply evshift
        simp only [impl_bench_runs.j4]
        rw [wnext i (by omega)]
        exact evp (by simp) h2
    | false =>
      obtain ⟨t, ht, hs, hn⟩ := run_ends m ring l i hm hm2 hmem hi hne
      obtain ⟨r, h1, h2, h3⟩ := runs_loop m ring l hl hm hm2 hmem hne d (i + 1) (acc ++ [(⟨i, t⟩ : S66)]) (by omega) (by simp; omega) (fun y hy hr => by
        rw [List.mem_append, List.mem_singleton] at hy
        rcases hy with hy | rfl
        · exact hq y hy hr
        · obtain ⟨x, hx⟩ := List.exists_mem_of_ne_nil l (hne hr)
          have hb := hmem x hx
          have hstop : stopB m ring l i ((x.toNat + m - i) % m) = true := by
            unfold stopB
            rw [Nat.add_mod_mod, show i + (x.toNat + m - i) = x.toNat + m by omega, Nat.add_mod_right, Nat.mod_eq_of_lt (by omega), Int.toNat_of_nonneg hb.1]
            simp [hx]
          have hlt : (x.toNat + m - i) % m < m := Nat.mod_lt _ hm
          have htle : t ≤ (x.toNat + m - i) % m := by
            rcases Nat.lt_or_ge ((x.toNat + m - i) % m) t with h1 | h1
            · rw [hn _ h1] at hstop; simp at hstop
            · exact h1
          show (t : Int) ≠ (m : Int)
          omega)
      refine ⟨r, hS _ ?_, hI _ ?_, h3⟩
      · apply evshift
        simp only [spec_l2Runs.j2]
        exact evn (by simp) (spec_run m ring l acc i t r hl hm (by omega) ht (by omega) hs hn h1 t 0 (by omega))
      · apply evshift
        simp only [impl_bench_runs.j4]
        refine evn (by simp) ?_
        have h := impl_run m ring l acc i t r hm (by omega) (by omega) ht (by omega) hs hn h2 t 0 (by omega)
        simpa using h
/-- A row that is not a ring of free seats alone. -/
theorem runs_go (m : Nat) (ring : Bool) (l : List Int) (hl : l.length ≤ 1048576) (h2 : 2 ≤ m) (hm2 : m ≤ 24) (hmem : ∀ x ∈ l, 0 ≤ x ∧ x < (m : Int)) (hne : ring = true → l ≠ []) :
    ∃ r, Ev (fun k => spec_l2Runs.f k (m : Int) ring l) r ∧ Ev (fun k => impl_bench_runs.f k (m : Int) ring (M (FS m l) : Int)) r ∧ r.length ≤ 1048576 ∧ ∀ y ∈ r, ring = true → y.f1 ≠ (m : Int) := by
  obtain ⟨r, h1, h2', h3, h4⟩ := runs_loop m ring l hl (by omega) (by omega) hmem hne m 0 [] (by omega) (by simp) (by simp)
  have g1 : Ev (fun k => spec_l2Runs.j0 k [] false (m : Int) ring l) r := by
    apply evshift
    simp only [spec_l2Runs.j0]
    exact evn (by simp) h1
  have g2 : Ev (fun k => impl_bench_runs.j0 k (M (FS m l) : Int) [] false (m : Int) ring) r := by
    apply evshift
    simp only [impl_bench_runs.j0]
    exact evn (by simp) h2'
  refine ⟨r, ?_, ?_, by omega, h4⟩
  · unfold spec_l2Runs.f
    simp only [Option.bind_some]
    by_cases hr : ring = true
    · have h0 := hne hr
      have e1 : ((l.length : Int) == 0) = false := by
        have : l.length ≠ 0 := fun h => h0 (List.length_eq_zero_iff.1 h)
        rw [beq_eq_false_iff_ne]; omega
      refine evp hr ?_
      rw [e1]; exact g1
    · exact evn hr g1
  · unfold impl_bench_runs.f
    simp only [Option.bind_some]
    by_cases hr : ring = true
    · have h0 := hne hr
      have e2 : (((M (FS m l) : Nat) : Int) == ((M fun i => decide (i < m) : Nat) : Int)) = false := by
        rw [beq_eq_false_iff_ne, Ne, M_inj]
        intro h
        obtain ⟨x, hx⟩ := List.exists_mem_of_ne_nil l h0
        have hb := hmem x hx
        have := h x.toNat (by omega)
        simp only [FS, Int.toNat_of_nonneg hb.1, hx, show x.toNat < m by omega] at this
        simp at this
      refine evp hr ?_
      simp only [benchAll m ring (by omega), Option.bind_some]
      rw [e2]; exact g2
    · exact evn hr g2
theorem FS_nil (m : Nat) : (M (FS m []) : Int) = (M (fun i => decide (i < m)) : Int) := by
  rw [M_inj]
  intro i _
  simp [FS]
theorem runs_all (m : Nat) (h2 : 2 ≤ m) (hm2 : m ≤ 24) : Ev (fun k => spec_l2Runs.f k (m : Int) true []) [⟨0, m⟩] ∧ Ev (fun k => impl_bench_runs.f k (m : Int) true (M (FS m []) : Int)) [⟨0, m⟩] := by
  constructor
  · unfold spec_l2Runs.f
    simp only [Option.bind_some]
    refine evp (by simp) ?_
    apply evshift
    simp only [spec_l2Runs.j0]
    exact evp (by simp) (evs _)
  · unfold impl_bench_runs.f
    simp only [benchAll m true (by omega), Option.bind_some]
    refine evp (by simp) ?_
    apply evshift
    simp only [impl_bench_runs.j0]
    refine evp ?_ (evp (by simp) (evs _))
    rw [beq_iff_eq, FS_nil]
theorem l4Blocks_loop (m : Nat) (ring : Bool) (l F : List Int) (hF : F.length ≤ 1048576) (hm : m ≤ 1048576) (r : List S66) (hr : Ev (fun k => spec_l2Runs.f k (m : Int) ring (sel m fun i => !decide ((i : Int) ∈ F))) r) : ∀ d j, j + d = m → Ev (fun k => spec_l4Blocks.l0 k (sel j fun i => !decide ((i : Int) ∈ F)) F (j : Int) (m : Int) ring l) r
  | 0, j, h => by
    obtain rfl : j = m := by omega
    apply evshift
    simp only [spec_l4Blocks.l0, spec_l2Made.f, Option.bind_some]
    exact evn (by omega) (evb hr (evs _))
  | d + 1, j, h => by
    have ih := l4Blocks_loop m ring l F hF hm r hr d (j + 1) (by omega)
    have hs := sel_len_le j fun i => !decide ((i : Int) ∈ F)
    rw [sel_succ] at ih
    apply evshift
    simp only [spec_l4Blocks.l0]
    refine evp (by omega) (evb (ev_l1Has F _ hF) ?_)
    rw [wnext j (by omega)]
    by_cases c : (j : Int) ∈ F
    · rw [if_neg (by simp [c]), List.append_nil] at ih
      exact evp (by simpa using c) ih
    · rw [if_pos (by simp [c])] at ih
      exact evn (by simpa using c) (evp (by omega) ih)
theorem ev_l4Row (n : Int) (ring : Bool) (l : List Int) (hl : l.length ≤ 1048576) : Ev (fun k => spec_l4Row.f k n ring l) (rowB n ring l && decide (n ≤ 12)) := by
  unfold spec_l4Row.f
  refine evb (ev_l2Row n ring l hl) ?_
  cases hb : rowB n ring l with
  | false => exact evn (by simp) (evs _)
  | true => exact evp rfl (eve (evs _) (by simp))
theorem ev_isFilled (n : Int) (ring : Bool) (l : List Int) (hl : l.length ≤ 1048576) : Ev (fun k => impl_isFilled.f k n ring l) (rowB n ring l && decide (n ≤ 12)) := by
  unfold impl_isFilled.f
  refine evb (ev_isRow n ring l hl) ?_
  cases hb : rowB n ring l with
  | false => exact evn (by simp) (evs _)
  | true => exact evp rfl (eve (evs _) (by simp))
/-- The seats that aren't lonely: the reference's blocks are its runs, the program holds the others. -/
theorem blocks (m : Nat) (ring : Bool) (l : List Int) (hl : l.length ≤ 1048576) (hm24 : m ≤ 24) : ∃ L : List Int, Ev (fun k => impl_bench_lonely.f k (m : Int) ring (M (fun i => decide ((i : Int) ∈ l)) : Int)) (M (FS m L) : Int) ∧
    (∀ r, Ev (fun k => spec_l2Runs.f k (m : Int) ring L) r → Ev (fun k => spec_l4Blocks.f k (m : Int) ring l) r) ∧ L.length ≤ m ∧ ∀ x ∈ L, 0 ≤ x ∧ x < (m : Int) := by
  have hLn := ev_lonely m ring l (by omega)
  have hL2 := ev_l2Lonely m ring l hl (by omega)
  have e : (sel m fun i => !decide ((i : Int) ∈ l)).filter (loneB m ring l) = sel m fun i => !decide ((i : Int) ∈ l) && loneB m ring l (i : Int) := by
    refine (sel_is ((sel_inc _ _).filter _) fun x => ?_).symm
    rw [List.mem_filter, mem_sel]
    constructor
    · rintro ⟨⟨i, h1, h2, rfl⟩, h3⟩
      exact ⟨i, h1, by rw [h2, h3]; rfl, rfl⟩
    · rintro ⟨i, h1, h2, rfl⟩
      rw [Bool.and_eq_true] at h2
      exact ⟨⟨i, h1, h2.1, rfl⟩, h2.2⟩
  rw [e] at hL2
  have hfl := sel_len_le m fun i => !decide ((i : Int) ∈ l) && loneB m ring l (i : Int)
  have hFS : (M (fun i => decide (i < m) && (!decide ((i : Int) ∈ l) && loneB m ring l (i : Int))) : Int) = (M (FS m (sel m fun i => !decide ((i : Int) ∈ sel m fun i => !decide ((i : Int) ∈ l) && loneB m ring l (i : Int)))) : Int) := by
    rw [M_inj]
    intro i _
    unfold FS
    by_cases hi : i < m
    · have e1 : ∀ Q : Nat → Bool, decide ((i : Int) ∈ sel m Q) = Q i := fun Q => by
        rw [Bool.eq_iff_iff, decide_eq_true_eq, mem_sel]
        constructor
        · rintro ⟨i', _, h2, e'⟩
          obtain rfl : i = i' := by omega
          exact h2
        · exact fun h => ⟨i, hi, h, rfl⟩
      rw [e1, e1]; simp
    · simp [hi]
  have hsl := sel_len_le m fun i => !decide ((i : Int) ∈ sel m fun i => !decide ((i : Int) ∈ l) && loneB m ring l (i : Int))
  have hmem : ∀ x ∈ (sel m fun i => !decide ((i : Int) ∈ sel m fun i => !decide ((i : Int) ∈ l) && loneB m ring l (i : Int))), 0 ≤ x ∧ x < (m : Int) := fun x hx => by
    obtain ⟨i, h1, _, rfl⟩ := mem_sel.1 hx
    omega
  have hblk : ∀ r, Ev (fun k => spec_l2Runs.f k (m : Int) ring (sel m fun i => !decide ((i : Int) ∈ sel m fun i => !decide ((i : Int) ∈ l) && loneB m ring l (i : Int)))) r → Ev (fun k => spec_l4Blocks.f k (m : Int) ring l) r := fun r hr => by
    unfold spec_l4Blocks.f
    refine evb hL2 ?_
    exact l4Blocks_loop m ring l _ (by omega) (by omega) r hr m 0 (by omega)
  rw [hFS] at hLn
  exact ⟨_, hLn, hblk, hsl, hmem⟩
theorem fewest_loop (m : Nat) (ring : Bool) (l : List Int) (r : List S66) (hr : r.length ≤ 1048576) (hq : ∀ y ∈ r, ring = true → y.f1 ≠ (m : Int)) : ∀ d j (a b : Int), j + d = r.length →
    ∃ v u, Ev (fun k => spec_FewestFilled.l0 k a b r (j : Int) (m : Int) ring l) (v, u, true) ∧ Ev (fun k => impl_FewestFilled.l0 k a b r (r.length : Int) (j : Int)) (v, u, true)
  | 0, j, a, b, h => by
    refine ⟨a, b, ?_, ?_⟩
    · apply evshift; simp only [spec_FewestFilled.l0]; exact evn (by omega) (evs _)
    · apply evshift; simp only [impl_FewestFilled.l0]; exact evn (by omega) (evs _)
  | d + 1, j, a, b, h => by
    have hj : j < r.length := by omega
    have hmem : rd_T66 r (j : Int) ∈ r := by
      have e : rd_T66 r (j : Int) = r[j] := by simp [rd_T66, List.getD, hj]
      rw [e]; exact List.getElem_mem hj
    obtain ⟨v, u, h1, h2⟩ := fewest_loop m ring l r hr hq d (j + 1) (wrap64 (a + (wrap64 (Int.tdiv (wrap64 (((rd_T66 r (j : Int)).f1) + 2)) 3)))) (wrap64 (b + (wrap64 (Int.tdiv (wrap64 (((rd_T66 r (j : Int)).f1) + 1)) 2)))) (by omega)
    refine ⟨v, u, ?_, ?_⟩
    · apply evshift
      simp only [spec_FewestFilled.l0]
      rw [wnext j (by omega)]
      refine evp (by omega) (evp (by omega) ?_)
      by_cases c : ring = true
      · exact evp c (evn (hq _ hmem c) h1)
      · exact evn c h1
    · apply evshift
      simp only [impl_FewestFilled.l0]
      rw [wnext j (by omega)]
      exact evp (by omega) (evp (by omega) (evp (by omega) h2))
theorem bothFewestFilled (n : Int) (ring : Bool) (l : List Int) (hl : l.length ≤ 1048576) : ∃ v u ok, Ev (fun k => spec_FewestFilled.f k n ring l) (v, u, ok) ∧ Ev (fun k => impl_FewestFilled.f k n ring l) (v, u, ok) := by
  have hS := ev_l4Row n ring l hl
  have hI := ev_isFilled n ring l hl
  unfold spec_FewestFilled.f impl_FewestFilled.f
  cases hb : (rowB n ring l && decide (n ≤ 12)) with
  | false =>
    rw [hb] at hS hI
    exact ⟨0, 0, false, evb hS (evn (by simp) (evs _)), evb hI (evn (by simp) (evs _))⟩
  | true =>
    rw [hb] at hS hI
    simp only [Bool.and_eq_true, decide_eq_true_eq] at hb
    have ok := rowB_ok hb.1
    have := ok.lo
    obtain ⟨m, rfl⟩ : ∃ m : Nat, n = m := ⟨n.toNat, by omega⟩
    simp only [impl_Row_bench.f, Option.bind_some]
    have hT := ev_taken (m : Int) ring l ok.m32 hl
    obtain ⟨L, hLn, hblk, hsl, hmem⟩ := blocks m ring l hl (by omega)
    by_cases hr : ring = true ∧ L = []
    · obtain ⟨hr, rfl⟩ := hr
      subst hr
      obtain ⟨h1, h2⟩ := runs_all m (by omega) (by omega)
      have hn : m ≤ 12 := by omega
      refine ⟨wrap64 (Int.tdiv (wrap64 ((m : Int) + 2)) 3), wrap64 (Int.tdiv (m : Int) 2), true, evb hS (evp rfl (evb (hblk _ h1) ?_)), evb hI (evp rfl (evb hT (evb hLn (evp (by simp) ?_))))⟩
      · apply evshift
        simp only [spec_FewestFilled.l0]
        refine evp (by simp) (evp (by omega) (evp (by simp) (evp rfl ?_)))
        apply evshift
        simp only [spec_FewestFilled.l0]
        refine evn (by unfold wrap64; simp) (eve (evs _) ?_)
        have w0 : ∀ x : Int, wrap64 (0 + wrap64 x) = wrap64 x := fun x => by unfold wrap64; omega
        rw [w0, w0]
        rfl
      · simp only [benchAll m true (by omega), Option.bind_some]
        apply evshift
        simp only [impl_FewestFilled.j0]
        refine evp ?_ (evs _)
        rw [beq_iff_eq, FS_nil]
    · obtain ⟨r, h1, h2, h3, h4⟩ := runs_go m ring L (by omega) (by omega) (by omega) hmem fun h e => hr ⟨h, e⟩
      obtain ⟨v, u, g1, g2⟩ := fewest_loop m ring l r h3 h4 r.length 0 0 0 (by omega)
      have go : Ev (fun k => impl_FewestFilled.j0 k (M (FS m L) : Int) 0 0 false (m : Int) ring l) (v, u, true) := by
        apply evshift
        simp only [impl_FewestFilled.j0, impl_Row_bench.f, Option.bind_some]
        exact evn (by simp) (evb h2 g2)
      refine ⟨v, u, true, evb hS (evp rfl (evb (hblk _ h1) g1)), evb hI (evp rfl (evb hT (evb hLn ?_)))⟩
      by_cases hc : ring = true
      · refine evp hc ?_
        simp only [benchAll m ring (by omega), Option.bind_some]
        have e2 : (((M (FS m L) : Nat) : Int) == ((M fun i => decide (i < m) : Nat) : Int)) = false := by
          rw [beq_eq_false_iff_ne, Ne, M_inj]
          intro h
          obtain ⟨x, hx⟩ := List.exists_mem_of_ne_nil L fun e => hr ⟨hc, e⟩
          have hb := hmem x hx
          have := h x.toNat (by omega)
          simp only [FS, Int.toNat_of_nonneg hb.1, hx, show x.toNat < m by omega] at this
          simp at this
        rw [e2]
        exact go
      · exact evn hc go
theorem FnExactFewestFilled : laws_FnExactFewestFilled.Pure := by
  intro n ring l _ hm _
  refine Ev.rounds (g := fun k => laws_FnExactFewestFilled.f k n ring l) ?_
  unfold laws_FnExactFewestFilled.f
  by_cases hl : l.length ≤ 1048576
  · obtain ⟨v, u, ok, hS, hI⟩ := bothFewestFilled n ring l hl
    refine evc (szRow_ok (by omega) (by omega)) ?_
    repeat (first
      | exact evs true
      | (with_reducible refine evb hS ?_)
      | (with_reducible refine evb hI ?_)
      | (with_reducible refine evb (ev_toIntS _ (by assumption)) ?_)
      | (with_reducible refine evb (ev_toRow _ _ _ (by assumption)) ?_)
      | (with_reducible refine evb (ev_eqIntS _ (by assumption)) ?_)
      | (with_reducible refine evb (ev_eqRow _ _ _ (by assumption)) ?_)
      | (with_reducible show Ev (fun k => laws_FnExactFewestFilled.j0 k _ _ _ _ _ _ _) _; apply evshift; simp only [laws_FnExactFewestFilled.j0])
      | (refine evp ?hc ?_; (case hc => first | omega | (simp; done)))
      | (refine evn ?hc ?_; (case hc => first | omega | (simp; done)))
      | dsimp only)
  · exact evc (szRow_big (by omega) hm) (evp (by omega) (evs _))

end Go.Proofs.Ytoodiahlofeikaa.Pure
