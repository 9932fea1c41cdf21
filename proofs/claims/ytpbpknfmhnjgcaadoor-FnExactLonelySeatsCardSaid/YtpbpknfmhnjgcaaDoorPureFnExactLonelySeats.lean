/- The law laws.FnExactLonelySeats, told as plain Lean functions of numbers, lists and strings, answers true for every input, if enough rounds are given: the program's LonelySeats answers what the reference's answers. Conditions: none but the kinds' own (each number one of its kind, each length one that the model reads). -/
import Derived.Test.YtpbpknfmhnjgcaaDoorPFnExactLonelySeatsx6
import Derived.Test.YtpbpknfmhnjgcaaDoorBase
namespace Go.Proofs.YtpbpknfmhnjgcaaDoor.Pure
open Go.RowKit Go.Proofs.YtpbpknfmhnjgcaaDoor.PFnExactLonelySeats Go.Proofs.YtpbpknfmhnjgcaaDoorW.PrintWords Go.Proofs.YtpbpknfmhnjgcaaDoorW.PrintLast Go.Proofs.YtpbpknfmhnjgcaaDoorW.PrintMore Go.Proofs.YtpbpknfmhnjgcaaDoor.Base

/-- Is no one of l beside x? -/
def loneB (m : Nat) (ring : Bool) (l : List Int) (x : Int) : Bool := (Base.sel m fun i => decide (gapF m ring x (i : Int) = 1)).all fun y => !decide (y ∈ l)
theorem sz_big {l : List Int} (h : 1048576 < l.length) (hm : l.length ≤ maxLen) : laws_szIntS.f l 1048576 = some (-1) := by
  unfold maxLen at hm
  unfold laws_szIntS.f
  rw [w64 (by omega) (by omega), if_pos (by omega)]
theorem sz_ok {l : List Int} {m : Int} (h : (l.length : Int) ≤ m) (hm : m ≤ 1048576) : laws_szIntS.f l m = some (m - l.length) := by
  unfold laws_szIntS.f
  rw [w64 (by omega) (by omega), if_neg (by omega)]
theorem szRow_big {a : Int} {b : Bool} {l : List Int} (h : 1048576 < l.length) (hm : l.length ≤ maxLen) : laws_szRow.f a b l 1048576 = some (-1) := by
  unfold laws_szRow.f
  rw [sz_big h hm]
  rfl
theorem szRow_ok {a : Int} {b : Bool} {l : List Int} {m : Int} (h : (l.length : Int) ≤ m) (hm : m ≤ 1048576) : laws_szRow.f a b l m = some (m - l.length) := by
  unfold laws_szRow.f
  rw [sz_ok h hm]
  simp only [Option.bind_some]
  rw [if_neg (by omega)]
theorem toIntS_loop (l : List Int) (hl : l.length ≤ 1048576) : ∀ d j, j + d = l.length → Ev (fun k => laws_toIntS.l0 k l (l.take j ++ List.replicate (l.length - j) 0) (j : Int)) l
  | 0, j, h => by
    apply evshift
    simp only [laws_toIntS.l0]
    refine evn (by omega) ?_
    have e : l.take j ++ List.replicate (l.length - j) 0 = l := by rw [show j = l.length by omega]; simp
    rw [e]
    exact evs _
  | d + 1, j, h => by
    have ih := toIntS_loop l hl d (j + 1) (by omega)
    apply evshift
    simp only [laws_toIntS.l0]
    refine evp (by omega) (evp (by omega) (evp (by simp; omega) ?_))
    rw [Int.toNat_natCast, set_copy l j (by omega), wnext j (by omega)]
    exact ih
theorem ev_toIntS (l : List Int) (hl : l.length ≤ 1048576) : Ev (fun k => laws_toIntS.f k l) l := by
  unfold laws_toIntS.f
  refine evp (by omega) (evp (by omega) ?_)
  have h := toIntS_loop l hl l.length 0 (by omega)
  simpa using h
theorem ev_toRow (a : Int) (b : Bool) (l : List Int) (hl : l.length ≤ 1048576) : Ev (fun k => laws_toRow.f k a b l) (a, b, l) := by
  unfold laws_toRow.f
  exact evb (ev_toIntS l hl) (evs _)
theorem eqIntS_loop (l : List Int) (hl : l.length ≤ 1048576) : ∀ d j, j + d = l.length → Ev (fun k => laws_eqIntS.l0 k l l (j : Int)) true
  | 0, j, h => by
    apply evshift
    simp only [laws_eqIntS.l0]
    exact evn (by omega) (evs _)
  | d + 1, j, h => by
    have ih := eqIntS_loop l hl d (j + 1) (by omega)
    apply evshift
    simp only [laws_eqIntS.l0]
    refine evp (by omega) (evp (by omega) (evp (by omega) (evp (by trivial) ?_)))
    rw [wnext j (by omega)]
    exact ih
theorem ev_eqIntS (l : List Int) (hl : l.length ≤ 1048576) : Ev (fun k => laws_eqIntS.f k l l) true := by
  unfold laws_eqIntS.f
  exact evp (by trivial) (eqIntS_loop l hl l.length 0 (by omega))
theorem ev_eqRow (a : Int) (b : Bool) (l : List Int) (hl : l.length ≤ 1048576) : Ev (fun k => laws_eqRow.f k a b l a b l) true := by
  unfold laws_eqRow.f
  refine evp (by simp) (evn (by simp) ?_)
  exact evb (ev_eqIntS l hl) (evp (by trivial) (evs _))
theorem markIntS_loop (l : List Int) (m : Int) (hl : l.length ≤ 1048576) (h0 : 0 ≤ m) (hm : m ≤ 1099511627776) : ∀ d j, j + d = l.length → Ev (fun k => laws_markIntS.l0 k (marks m j ++ l.drop j) (m + (j : Int)) (j : Int)) (m + (l.length : Int), marks m l.length)
  | 0, j, h => by
    obtain rfl : j = l.length := by omega
    apply evshift
    simp only [laws_markIntS.l0]
    refine evn (by simp [marks_len]) ?_
    simp only [List.drop_length, List.append_nil]
    exact evs _
  | d + 1, j, h => by
    have ih := markIntS_loop l m hl h0 hm d (j + 1) (by omega)
    apply evshift
    simp only [laws_markIntS.l0]
    refine evp (by simp [marks_len]; omega) (evp (by omega) ?_)
    rw [Int.toNat_natCast, set_marks m l j (by omega), wnext j (by omega), w64 (by omega) (by omega), show m + (j : Int) + 1 = m + ((j + 1 : Nat) : Int) by omega]
    exact ih
theorem ev_markIntS (l : List Int) (m : Int) (hl : l.length ≤ 1048576) (h0 : 0 ≤ m) (hm : m ≤ 1099511627776) : Ev (fun k => laws_markIntS.f k l m) (m + (l.length : Int), marks m l.length) := by
  unfold laws_markIntS.f
  have h := markIntS_loop l m hl h0 hm l.length 0 (by omega)
  simpa [marks] using h
theorem ev_markRow (a : Int) (b : Bool) (l : List Int) (m : Int) (hl : l.length ≤ 1048576) (h0 : 0 ≤ m) (hm : m ≤ 1099511627776) : Ev (fun k => laws_markRow.f k a b l m) (m + (l.length : Int), marks m l.length) := by
  unfold laws_markRow.f
  exact evb (ev_markIntS l m hl h0 hm) (evs _)
theorem heldIntS_loop (n : Nat) (m : Int) (hn : n ≤ 1048576) (h0 : 0 ≤ m) (hm : m ≤ 1099511627776) : ∀ d j, j + d = n → Ev (fun k => laws_heldIntS.l0 k (marks m n) (m + (j : Int)) (j : Int)) (m + (n : Int))
  | 0, j, h => by
    obtain rfl : j = n := by omega
    apply evshift
    simp only [laws_heldIntS.l0]
    exact evn (by rw [marks_len]; omega) (evs _)
  | d + 1, j, h => by
    have ih := heldIntS_loop n m hn h0 hm d (j + 1) (by omega)
    apply evshift
    simp only [laws_heldIntS.l0]
    refine evp (by rw [marks_len]; omega) (evp (by omega) (evp (rd_marks (by omega)) ?_))
    rw [wnext j (by omega), w64 (by omega) (by omega), show m + (j : Int) + 1 = m + ((j + 1 : Nat) : Int) by omega]
    exact ih
theorem ev_heldIntS (n : Nat) (m : Int) (hn : n ≤ 1048576) (h0 : 0 ≤ m) (hm : m ≤ 1099511627776) : Ev (fun k => laws_heldIntS.f k (marks m n) m) (m + (n : Int)) := by
  unfold laws_heldIntS.f
  have h := heldIntS_loop n m hn h0 hm n 0 (by omega)
  simpa using h
theorem in_spec (a lo hi : Int) : spec_l1In.f a lo hi = some (decide (lo ≤ a ∧ a ≤ hi)) := by
  unfold spec_l1In.f
  split
  · congr 1; simp; omega
  · congr 1; simp; omega
theorem rising_loop (l : List Int) (m : Int) (hl : l.length ≤ 1048576) : ∀ d j, j + d = l.length → Ev (fun k => spec_l1Rising.l0 k l 0 m (j : Int)) (okFrom m l d j)
  | 0, j, h => by
    apply evshift
    simp only [spec_l1Rising.l0]
    exact evn (by omega) (evs _)
  | d + 1, j, h => by
    have ih := rising_loop l m hl d (j + 1) (by omega)
    apply evshift
    simp only [spec_l1Rising.l0, in_spec, Option.bind_some]
    refine evp (by omega) (evp (by omega) ?_)
    simp only [okFrom, okAt]
    by_cases h1 : 0 ≤ rd l (j : Int) ∧ rd l (j : Int) ≤ m
    · refine evp (by simpa using h1) ?_
      rw [decide_eq_true h1, Bool.true_and]
      by_cases h2 : j = 0
      · refine evn (by omega) ?_
        rw [wnext j (by omega), decide_eq_true h2, Bool.true_or, Bool.true_and]
        exact ih
      · refine evp (by omega) ?_
        rw [w64 (by omega) (by omega)]
        refine evp (by omega) (evp (by omega) ?_)
        by_cases h3 : rd l ((j : Int) - 1) < rd l (j : Int)
        · refine evn (by omega) ?_
          rw [wnext j (by omega)]
          simpa [h3] using ih
        · refine evp (by omega) ?_
          simpa [h2, h3] using evs false
    · refine evn (by simpa using h1) ?_
      simpa [h1] using evs false
theorem ev_rising (l : List Int) (m : Int) (hl : l.length ≤ 1048576) : Ev (fun k => spec_l1Rising.f k l 0 m) (okFrom m l l.length 0) := by
  unfold spec_l1Rising.f
  exact rising_loop l m hl l.length 0 (by omega)
theorem ev_l2Row (n : Int) (ring : Bool) (l : List Int) (hl : l.length ≤ 1048576) : Ev (fun k => spec_l2Row.f k n ring l) (rowB n ring l) := by
  unfold spec_l2Row.f
  simp only [in_spec, Option.bind_some, rowB]
  by_cases h1 : 2 ≤ n ∧ n ≤ 24
  · refine evp (by simpa using h1) ?_
    rw [w64 (by omega) (by omega)]
    cases ring with
    | true =>
      refine evp rfl ?_
      by_cases h2 : n > 2
      · refine evp h2 (evb (ev_rising l _ hl) ?_)
        have h3 : 3 ≤ n := by omega
        simpa [h1, h3] using evs _
      · refine evn h2 ?_
        have h3 : ¬ 3 ≤ n := by omega
        simpa [h3] using evs false
    | false =>
      refine evn (by simp) (evb (ev_rising l _ hl) ?_)
      simpa [h1] using evs _
  · refine evn (by simpa using h1) ?_
    simpa [h1] using evs false
theorem l1Has_loop (l : List Int) (x : Int) (hl : l.length ≤ 1048576) : ∀ d j, j + d = l.length → Ev (fun k => spec_l1Has.l0 k l x (j : Int)) (decide (x ∈ l.drop j))
  | 0, j, h => by
    apply evshift
    simp only [spec_l1Has.l0]
    refine evn (by omega) ?_
    rw [List.drop_eq_nil_of_le (by omega)]
    simpa using evs false
  | d + 1, j, h => by
    have ih := l1Has_loop l x hl d (j + 1) (by omega)
    apply evshift
    simp only [spec_l1Has.l0]
    refine evp (by omega) (evp (by omega) ?_)
    rw [drop_cons (by omega : j < l.length)]
    by_cases h1 : rd l (j : Int) = x
    · refine evp h1 ?_
      simpa [h1] using evs true
    · refine evn h1 ?_
      have h2 : ¬ x = rd l (j : Int) := fun h => h1 h.symm
      rw [wnext j (by omega)]
      simpa [h2] using ih
theorem ev_l1Has (l : List Int) (x : Int) (hl : l.length ≤ 1048576) : Ev (fun k => spec_l1Has.f k l x) (decide (x ∈ l)) := by
  unfold spec_l1Has.f
  have h := l1Has_loop l x hl l.length 0 (by omega)
  simpa using h
theorem ev_l2Is (n : Int) (ring : Bool) (l : List Int) (x : Int) (hl : l.length ≤ 1048576) : Ev (fun k => spec_l2Is.f k n ring l x) (decide (x ∈ l)) := by
  unfold spec_l2Is.f
  exact evb (ev_l1Has l x hl) (evs _)
theorem l2Free_loop (n : Nat) (ring : Bool) (l : List Int) (hl : l.length ≤ 1048576) (hn : n ≤ 1048576) : ∀ d j, j + d = n → Ev (fun k => spec_l2Free.l0 k (sel j fun i => !decide ((i : Int) ∈ l)) (j : Int) (n : Int) ring l) (sel n fun i => !decide ((i : Int) ∈ l))
  | 0, j, h => by
    obtain rfl : j = n := by omega
    apply evshift
    simp only [spec_l2Free.l0]
    exact evn (by omega) (evs _)
  | d + 1, j, h => by
    have ih := l2Free_loop n ring l hl hn d (j + 1) (by omega)
    have hs := sel_len_le j fun i => !decide ((i : Int) ∈ l)
    rw [sel_succ] at ih
    apply evshift
    simp only [spec_l2Free.l0]
    refine evp (by omega) (evb (ev_l2Is (n : Int) ring l (j : Int) hl) ?_)
    by_cases h1 : (j : Int) ∈ l
    · refine evp (by simpa using h1) ?_
      rw [wnext j (by omega)]
      simpa [h1] using ih
    · refine evn (by simpa using h1) (evp (by omega) ?_)
      rw [wnext j (by omega)]
      simpa [h1] using ih
theorem ev_l2Free (n : Nat) (ring : Bool) (l : List Int) (hl : l.length ≤ 1048576) (hn : n ≤ 1048576) : Ev (fun k => spec_l2Free.f k (n : Int) ring l) (sel n fun i => !decide ((i : Int) ∈ l)) := by
  unfold spec_l2Free.f
  have h := l2Free_loop n ring l hl hn n 0 (by omega)
  simpa [sel] using h
theorem l1Most (a b : Int) : spec_l1Most.f a b = some (mx a b) := mx_spec a b
theorem l1Least (a b : Int) : spec_l1Least.f a b = some (mn a b) := mn_spec a b
theorem l2Gap {n a b : Int} {ring : Bool} {l : List Int} (h1 : 0 ≤ a) (h2 : a ≤ 1048576) (h3 : 0 ≤ b) (h4 : b ≤ 1048576) (h5 : 0 ≤ n) (h6 : n ≤ 1048576) : spec_l2Gap.f n ring l a b = some (gapF n ring a b) := by
  have hb := mx_bd (a := a - b) (b := b - a) (B := 1048576) (by omega) (by omega) (by omega) (by omega)
  unfold spec_l2Gap.f gapF
  rw [w64 (by omega) (by omega), w64 (by omega) (by omega)]
  simp only [l1Most, l1Least, Option.bind_some]
  rw [w64 (by omega) (by omega)]
  split <;> rfl
theorem l2Near_loop (n : Nat) (ring : Bool) (l : List Int) (p : Int) (h1 : 0 ≤ p) (h2 : p ≤ 1048576) (hn : n ≤ 1048576) : ∀ d j, j + d = n → Ev (fun k => spec_l2Near.l0 k p (sel j fun i => decide (gapF n ring p (i : Int) = 1)) (j : Int) (n : Int) ring l) (sel n fun i => decide (gapF n ring p (i : Int) = 1))
  | 0, j, h => by
    obtain rfl : j = n := by omega
    apply evshift
    simp only [spec_l2Near.l0]
    exact evn (by omega) (evs _)
  | d + 1, j, h => by
    have ih := l2Near_loop n ring l p h1 h2 hn d (j + 1) (by omega)
    have hs := sel_len_le j fun i => decide (gapF n ring p (i : Int) = 1)
    rw [sel_succ] at ih
    apply evshift
    simp only [spec_l2Near.l0]
    refine evp (by omega) (evc (l2Gap h1 h2 (by omega) (by omega) (by omega) (by omega)) ?_)
    rw [wnext j (by omega)]
    by_cases c : gapF n ring p (j : Int) = 1
    · refine evp c (evp (by omega) ?_)
      simpa [c] using ih
    · refine evn c ?_
      simpa [c] using ih
theorem ev_l2Near (n : Nat) (ring : Bool) (l : List Int) (p : Int) (h1 : 0 ≤ p) (h2 : p ≤ 1048576) (hn : n ≤ 1048576) : Ev (fun k => spec_l2Near.f k (n : Int) ring l p) (sel n fun i => decide (gapF n ring p (i : Int) = 1)) := by
  unfold spec_l2Near.f
  have h := l2Near_loop n ring l p h1 h2 hn n 0 (by omega)
  simpa [sel] using h
theorem l2Lonely_inner (n : Nat) (ring : Bool) (l acc F near : List Int) (i : Nat) (r : List Int) (hl : l.length ≤ 1048576) (hn : near.length ≤ 1048576) (hi : i < F.length) (hF : F.length ≤ 1048576) (ha : acc.length ≤ 1048576) : ∀ d j (flag : Bool), j + d = near.length →
    Ev (fun k => spec_l2Lonely.l0 k (if (flag && (near.drop j).all fun y => !decide (y ∈ l)) = true then acc ++ [rd F (i : Int)] else acc) F ((i + 1 : Nat) : Int) (n : Int) ring l) r →
    Ev (fun k => spec_l2Lonely.l1 k acc F (i : Int) near flag (j : Int) (n : Int) ring l) r
  | 0, j, flag, h, H => by
    obtain rfl : j = near.length := by omega
    rw [List.drop_length, List.all_nil, Bool.and_true] at H
    apply evshift
    simp only [spec_l2Lonely.l1]
    refine evn (by omega) ?_
    rw [wnext i (by omega)]
    cases flag with
    | false => rw [if_neg (by simp)] at H; exact evn (by simp) H
    | true => rw [if_pos rfl] at H; exact evp rfl (evp (by omega) (evp (by omega) (evp (by omega) H)))
  | d + 1, j, flag, h, H => by
    rw [drop_cons (by omega : j < near.length), List.all_cons] at H
    apply evshift
    simp only [spec_l2Lonely.l1]
    refine evp (by omega) ?_
    rw [wnext j (by omega)]
    cases flag with
    | false =>
      exact evn (by simp) (l2Lonely_inner n ring l acc F near i r hl hn hi hF ha d (j + 1) false (by omega) (by simpa using H))
    | true =>
      refine evp rfl (evp (by omega) (evb (ev_l2Is n ring l _ hl) ?_))
      exact l2Lonely_inner n ring l acc F near i r hl hn hi hF ha d (j + 1) _ (by omega) (by simpa using H)
theorem l2Lonely_outer (n : Nat) (ring : Bool) (l F : List Int) (hl : l.length ≤ 1048576) (hF : F.length ≤ 1048576) (hm : ∀ x ∈ F, 0 ≤ x ∧ x < (n : Int)) (hn : n ≤ 1048576) : ∀ d i (acc : List Int), i + d = F.length → acc.length ≤ i →
    Ev (fun k => spec_l2Lonely.l0 k acc F (i : Int) (n : Int) ring l) (acc ++ (F.drop i).filter (loneB n ring l))
  | 0, i, acc, h, _ => by
    apply evshift
    simp only [spec_l2Lonely.l0]
    refine evn (by omega) ?_
    rw [List.drop_eq_nil_of_le (by omega), List.filter_nil, List.append_nil]
    exact evs _
  | d + 1, i, acc, h, ha => by
    have r := rd_bd hm (by omega : i < F.length)
    apply evshift
    simp only [spec_l2Lonely.l0]
    refine evp (by omega) (evp (by omega) (evb (ev_l2Near n ring l _ (by omega) (by omega) hn) ?_))
    have hs := sel_len_le n fun j => decide (gapF n ring (rd F (i : Int)) (j : Int) = 1)
    refine l2Lonely_inner n ring l acc F _ i _ hl (by omega) (by omega) hF (by omega) _ 0 true (by rw [Nat.zero_add]) ?_
    rw [List.drop_zero, Bool.true_and, drop_cons (by omega : i < F.length), List.filter_cons]
    show Ev (fun k => spec_l2Lonely.l0 k (if loneB n ring l (rd F (i : Int)) = true then _ else acc) F ((i + 1 : Nat) : Int) (n : Int) ring l) _
    by_cases c : loneB n ring l (rd F (i : Int)) = true
    · rw [if_pos c, if_pos c]
      have ih := l2Lonely_outer n ring l F hl hF hm hn d (i + 1) (acc ++ [rd F (i : Int)]) (by omega) (by simp; omega)
      simpa using ih
    · rw [if_neg c, if_neg c]
      exact l2Lonely_outer n ring l F hl hF hm hn d (i + 1) acc (by omega) (by omega)
theorem ev_l2Lonely (n : Nat) (ring : Bool) (l : List Int) (hl : l.length ≤ 1048576) (hn : n ≤ 1048576) : Ev (fun k => spec_l2Lonely.f k (n : Int) ring l) ((sel n fun i => !decide ((i : Int) ∈ l)).filter (loneB n ring l)) := by
  unfold spec_l2Lonely.f
  refine evb (ev_l2Free n ring l hl hn) ?_
  have hs := sel_len_le n fun i => !decide ((i : Int) ∈ l)
  have h := l2Lonely_outer n ring l (sel n fun i => !decide ((i : Int) ∈ l)) hl (by omega) (fun x hx => by
    obtain ⟨i, h1, _, rfl⟩ := mem_sel.1 hx
    omega) hn _ 0 [] (by rw [Nat.zero_add]) (by simp)
  simpa using h
theorem setOf_loop (l : List Int) (hm : ∀ x ∈ l, 0 ≤ x ∧ x < 32) (hl : l.length ≤ 1048576) : ∀ d j (P : Nat → Bool), j + d = l.length →
    Ev (fun k => impl_setOf.l0 k (M P : Int) l (l.length : Int) (j : Int)) (M (fun i => P i || decide ((i : Int) ∈ l.drop j)) : Int)
  | 0, j, P, h => by
    apply evshift
    simp only [impl_setOf.l0]
    refine evn (by omega) ?_
    rw [List.drop_eq_nil_of_le (by omega)]
    simpa using evs _
  | d + 1, j, P, h => by
    apply evshift
    simp only [impl_setOf.l0]
    have hr := hm _ (rd_mem (by omega : j < l.length))
    refine evp (by omega) (evp (by omega) (evp (by omega) (evp (by omega) ?_)))
    obtain ⟨p, hp⟩ : ∃ p : Nat, rd l (j : Int) = (p : Int) := ⟨(rd l (j : Int)).toNat, by omega⟩
    rw [hp] at hr
    rw [hp, M_one (by omega), M_or, wnext j (by omega)]
    refine eve (setOf_loop l hm hl d (j + 1) _ (by omega)) ?_
    rw [drop_cons (by omega : j < l.length), hp]
    refine congrArg _ (M_congr fun i _ => ?_)
    by_cases e : i = p
    · subst e; simp
    · have : ¬ (i : Int) = (p : Int) := by omega
      simp [e, this]
theorem ev_setOf (l : List Int) (hm : ∀ x ∈ l, 0 ≤ x ∧ x < 32) (hl : l.length ≤ 1048576) : Ev (fun k => impl_setOf.f k l) (M (fun i => decide ((i : Int) ∈ l)) : Int) := by
  unfold impl_setOf.f
  have h := setOf_loop l hm hl l.length 0 (fun _ => false) (by omega)
  rw [← M_zero] at h
  simpa using h
theorem ev_taken (n : Int) (ring : Bool) (l : List Int) (hm : ∀ x ∈ l, 0 ≤ x ∧ x < 32) (hl : l.length ≤ 1048576) : Ev (fun k => impl_Row_taken.f k n ring l) (M (fun i => decide ((i : Int) ∈ l)) : Int) := by
  unfold impl_Row_taken.f
  exact evb (ev_setOf l hm hl) (evs _)
theorem in_impl (a lo hi : Int) : impl_within.f a lo hi = some (decide (lo ≤ a ∧ a ≤ hi)) := by
  unfold impl_within.f
  split
  · congr 1; simp; omega
  · congr 1; simp; omega
theorem allWithin_loop (l : List Int) (lo hi : Int) (hl : l.length ≤ 1048576) : ∀ d j, j + d = l.length → Ev (fun k => impl_allWithin.l0 k lo hi l (l.length : Int) (j : Int)) ((l.drop j).all fun x => decide (lo ≤ x ∧ x ≤ hi))
  | 0, j, h => by
    apply evshift
    simp only [impl_allWithin.l0]
    refine evn (by omega) ?_
    rw [List.drop_eq_nil_of_le (by omega)]
    exact evs _
  | d + 1, j, h => by
    have ih := allWithin_loop l lo hi hl d (j + 1) (by omega)
    apply evshift
    simp only [impl_allWithin.l0, in_impl, Option.bind_some]
    refine evp (by omega) (evp (by omega) (evp (by omega) ?_))
    rw [drop_cons (by omega : j < l.length), List.all_cons]
    by_cases h1 : lo ≤ rd l (j : Int) ∧ rd l (j : Int) ≤ hi
    · refine evp (by simpa using h1) ?_
      rw [wnext j (by omega)]
      simpa [h1] using ih
    · refine evn (by simpa using h1) ?_
      simpa [h1] using evs false
theorem ev_allWithin (l : List Int) (lo hi : Int) (hl : l.length ≤ 1048576) : Ev (fun k => impl_allWithin.f k l lo hi) (l.all fun x => decide (lo ≤ x ∧ x ≤ hi)) := by
  unfold impl_allWithin.f
  have h := allWithin_loop l lo hi hl l.length 0 (by omega)
  simpa using h
theorem ev_benchHas (n : Int) (ring : Bool) (l : List Int) (hl : l.length ≤ 1048576) : Ev (fun k => impl_bench_has.f k n ring l) (l.all fun x => decide (0 ≤ x ∧ x ≤ wrap64 (n - 1))) := by
  unfold impl_bench_has.f
  exact evb (ev_allWithin l 0 _ hl) (evs _)
theorem benchValid (n : Int) (ring : Bool) : impl_bench_valid.f n ring = some (decide (2 ≤ n ∧ n ≤ 24) && (!ring || decide (3 ≤ n))) := by
  unfold impl_bench_valid.f
  simp only [in_impl, Option.bind_some]
  by_cases h1 : 2 ≤ n ∧ n ≤ 24
  · rw [if_pos (by simpa using h1)]
    cases ring <;> simp [h1]
  · rw [if_neg (by simpa using h1)]
    simp [h1]
theorem isRow_loop (n : Int) (ring : Bool) (l : List Int) (hl : l.length ≤ 1048576) : ∀ d j, j + d = l.length →
    Ev (fun k => impl_IsRow.l0 k l (l.length : Int) (j : Int) n ring l) (okFrom (wrap64 (n - 1)) l d j && (decide (2 ≤ n ∧ n ≤ 24) && (!ring || decide (3 ≤ n))))
  | 0, j, h => by
    apply evshift
    simp only [impl_IsRow.l0, impl_Row_bench.f, Option.bind_some, benchValid]
    refine evn (by omega) ?_
    simpa [okFrom] using evs _
  | d + 1, j, h => by
    have ih := isRow_loop n ring l hl d (j + 1) (by omega)
    apply evshift
    simp only [impl_IsRow.l0, impl_Row_bench.f, Option.bind_some]
    refine evp (by omega) (evp (by omega) (evp (by omega) ?_))
    refine evb (ev_benchHas n ring [rd l (j : Int)] (by simp)) ?_
    simp only [okFrom, okAt, List.all_cons, List.all_nil, Bool.and_true]
    by_cases h1 : 0 ≤ rd l (j : Int) ∧ rd l (j : Int) ≤ wrap64 (n - 1)
    · refine evp (by simpa using h1) ?_
      rw [decide_eq_true h1, Bool.true_and]
      by_cases h2 : j = 0
      · refine evn (by omega) ?_
        rw [wnext j (by omega), decide_eq_true h2, Bool.true_or, Bool.true_and]
        exact ih
      · refine evp (by omega) ?_
        rw [w64 (by omega) (by omega)]
        refine evp (by omega) (evp (by omega) ?_)
        by_cases h3 : rd l ((j : Int) - 1) < rd l (j : Int)
        · refine evn (by omega) ?_
          rw [wnext j (by omega)]
          simpa [h3] using ih
        · refine evp (by omega) ?_
          simpa [h2, h3] using evs false
    · refine evn (by simpa using h1) ?_
      simpa [h1] using evs false
theorem ev_isRow (n : Int) (ring : Bool) (l : List Int) (hl : l.length ≤ 1048576) : Ev (fun k => impl_IsRow.f k n ring l) (rowB n ring l) := by
  unfold impl_IsRow.f
  refine eve (isRow_loop n ring l hl l.length 0 (by omega)) ?_
  unfold rowB
  by_cases h1 : 2 ≤ n ∧ n ≤ 24
  · rw [w64 (by omega) (by omega)]
    cases okFrom (n - 1) l l.length 0 <;> simp [h1]
  · simp [h1]
theorem tz_table : ∀ t : Nat, t < 32 → (0 ≤ ((((2 ^ t : Nat) : Int) * 125613361) % 4294967296) / 134217728) ∧ ((((2 ^ t : Nat) : Int) * 125613361) % 4294967296) / 134217728 < 32 ∧ wrap64 (rd xtab0 (((((2 ^ t : Nat) : Int) * 125613361) % 4294967296) / 134217728)) = (t : Int) := by decide +kernel
theorem tz_at {P : Nat → Bool} {t : Nat} (h32 : t < 32) (ht : P t = true) (hl : ∀ i, i < t → P i = false) : bits_TrailingZeros32.f (M P : Int) = some (t : Int) := by
  have h0 : ¬ ((M P : Nat) : Int) = 0 := fun h => by have := M_eq_zero.1 h t h32; rw [this] at ht; cases ht
  obtain ⟨h1, h2, h3⟩ := tz_table t h32
  unfold bits_TrailingZeros32.f
  rw [if_neg h0, (M_low h32 ht hl).1, if_pos h1, if_pos h2, h3]
theorem list_loop : ∀ (d : Nat) (P : Nat → Bool) (acc : List Int), (sel 32 P).length = d → acc.length + d ≤ 1048576 → Ev (fun k => impl_set_list.l0 k (M P : Int) acc) (acc ++ sel 32 P)
  | 0, P, acc, h, _ => by
    have hn : sel 32 P = [] := List.eq_nil_of_length_eq_zero h
    have hz : ∀ i, i < 32 → P i = false := fun i hi => by
      cases hp : P i with
      | false => rfl
      | true =>
        have : (i : Int) ∈ sel 32 P := mem_sel.2 ⟨i, hi, hp, rfl⟩
        rw [hn] at this; cases this
    apply evshift
    simp only [impl_set_list.l0]
    refine evp (M_eq_zero.2 hz) ?_
    rw [hn, List.append_nil]
    exact evs _
  | d + 1, P, acc, h, hb => by
    have hex : ∃ i, i < 32 ∧ P i = true := by
      rcases Classical.em (∃ i, i < 32 ∧ P i = true) with h1 | h1
      · exact h1
      · have : sel 32 P = [] := sel_none fun i hi => by
          cases hp : P i with
          | false => rfl
          | true => exact absurd ⟨i, hi, hp⟩ h1
        rw [this] at h; cases h
    obtain ⟨t, h1, h2, h3⟩ := least_of hex
    have hs := sel_low h1 h2 h3
    have h0 : ¬ ((M P : Nat) : Int) = 0 := fun h => by have := M_eq_zero.1 h t h1; rw [this] at h2; cases h2
    apply evshift
    simp only [impl_set_list.l0, tz_at h1 h2 h3, Option.bind_some, (M_low h1 h2 h3).2]
    refine evn h0 (evp (by omega) ?_)
    rw [hs, List.length_cons] at h
    refine eve (list_loop d _ (acc ++ [(t : Int)]) (by omega) (by rw [List.length_append, List.length_singleton]; omega)) ?_
    rw [hs, List.append_assoc]; rfl
theorem ev_list (P : Nat → Bool) : Ev (fun k => impl_set_list.f k (M P : Int)) (sel 32 P) := by
  unfold impl_set_list.f
  have h := list_loop _ P [] rfl (by have := sel_len_le 32 P; simp; omega)
  simpa using h
theorem setHas {P : Nat → Bool} {p : Nat} (h : p < 32) : impl_set_has.f (M P : Int) (p : Int) = some (P p) := by
  unfold impl_set_has.f
  rw [if_pos (by omega), M_has h]
  cases P p <;> rfl
theorem benchGap {n a b : Int} {ring : Bool} (h1 : 0 ≤ a) (h2 : a ≤ 1048576) (h3 : 0 ≤ b) (h4 : b ≤ 1048576) (h5 : 0 ≤ n) (h6 : n ≤ 1048576) : impl_bench_gap.f n ring a b = some (gapF n ring a b) := by
  have hb := mx_bd (a := a - b) (b := b - a) (B := 1048576) (by omega) (by omega) (by omega) (by omega)
  unfold impl_bench_gap.f gapF
  rw [w64 (by omega) (by omega), w64 (by omega) (by omega), w64 (by omega) (by omega)]
  split <;> rfl
theorem near_loop (n : Nat) (ring : Bool) (p : Int) (h1 : 0 ≤ p) (h2 : p ≤ 1048576) (hn : n ≤ 32) : ∀ d j, j + d = n → Ev (fun k => impl_bench_near.l0 k p (M (fun i => decide (i < j) && decide (gapF n ring p (i : Int) = 1)) : Int) (n : Int) (j : Int) (n : Int) ring) (M (fun i => decide (i < n) && decide (gapF n ring p (i : Int) = 1)) : Int)
  | 0, j, h => by
    obtain rfl : j = n := by omega
    apply evshift
    simp only [impl_bench_near.l0]
    exact evn (by omega) (evs _)
  | d + 1, j, h => by
    have ih := near_loop n ring p h1 h2 hn d (j + 1) (by omega)
    apply evshift
    simp only [impl_bench_near.l0]
    refine evp (by omega) (evc (benchGap h1 h2 (by omega) (by omega) (by omega) (by omega)) ?_)
    rw [wnext j (by omega)]
    by_cases c : gapF n ring p (j : Int) = 1
    · refine evp c (evp (by omega) ?_)
      rw [M_one (by omega : j < 32), M_or]
      rw [M_congr (Q := fun i => (decide (i < j) && decide (gapF n ring p (i : Int) = 1)) || decide (i = j)) fun i _ => ?_] at ih
      · exact ih
      · by_cases e : i = j
        · subst e; simp [c]
        · simp only [e, decide_false, Bool.or_false]
          congr 1
          simp; omega
    · refine evn c ?_
      rw [M_congr (Q := fun i => decide (i < j) && decide (gapF n ring p (i : Int) = 1)) fun i _ => ?_] at ih
      · exact ih
      · by_cases e : i = j
        · subst e; simp [c]
        · congr 1
          simp; omega
theorem ev_near (n : Nat) (ring : Bool) (p : Int) (h1 : 0 ≤ p) (h2 : p ≤ 1048576) (hn : n ≤ 32) : Ev (fun k => impl_bench_near.f k (n : Int) ring p) (M (fun i => decide (i < n) && decide (gapF n ring p (i : Int) = 1)) : Int) := by
  unfold impl_bench_near.f
  have h := near_loop n ring p h1 h2 hn n 0 (by omega)
  rw [M_congr (Q := fun _ => false) fun i _ => by simp, ← M_zero] at h
  exact h
theorem lone_and (n : Nat) (ring : Bool) (l : List Int) (x : Int) (hn : n ≤ 32) : (M (fun i => (decide (i < n) && decide (gapF n ring x (i : Int) = 1)) && decide ((i : Int) ∈ l)) : Int) = 0 ↔ loneB n ring l x = true := by
  rw [M_eq_zero, loneB, List.all_eq_true]
  constructor
  · intro h y hy
    obtain ⟨i, h1, h2, rfl⟩ := mem_sel.1 hy
    have := h i (by omega)
    simp only [h1, decide_true, Bool.true_and, h2] at this
    simp [this]
  · intro h i hi
    by_cases h1 : i < n
    · by_cases h2 : gapF n ring x (i : Int) = 1
      · have := h _ (mem_sel.2 ⟨i, h1, by simp [h2], rfl⟩)
        simp at this
        simp [this]
      · simp [h2]
    · simp [h1]
theorem lonely_loop (n : Nat) (ring : Bool) (l : List Int) (hn : n ≤ 32) : ∀ d j, j + d = n → Ev (fun k => impl_bench_lonely.l0 k (M (fun i => decide ((i : Int) ∈ l)) : Int) (M (fun i => decide (i < j) && (!decide ((i : Int) ∈ l) && loneB n ring l (i : Int))) : Int) (n : Int) (j : Int) (n : Int) ring) (M (fun i => decide (i < n) && (!decide ((i : Int) ∈ l) && loneB n ring l (i : Int))) : Int)
  | 0, j, h => by
    obtain rfl : j = n := by omega
    apply evshift
    simp only [impl_bench_lonely.l0]
    exact evn (by omega) (evs _)
  | d + 1, j, h => by
    have ih := lonely_loop n ring l hn d (j + 1) (by omega)
    apply evshift
    simp only [impl_bench_lonely.l0]
    refine evp (by omega) (evc (setHas (by omega)) ?_)
    rw [wnext j (by omega)]
    have hno : (decide ((j : Int) ∈ l) = true ∨ loneB n ring l (j : Int) = false) → M (fun i => decide (i < j + 1) && (!decide ((i : Int) ∈ l) && loneB n ring l (i : Int))) = M (fun i => decide (i < j) && (!decide ((i : Int) ∈ l) && loneB n ring l (i : Int))) := fun hc => M_congr fun i _ => by
      by_cases e : i = j
      · subst e; rcases hc with hc | hc <;> simp [hc]
      · congr 1; simp; omega
    by_cases c : (j : Int) ∈ l
    · refine evp (by simp [c]) ?_
      rw [hno (.inl (by simp [c]))] at ih
      exact ih
    · refine evn (by simp [c]) (evb (ev_near n ring j (by omega) (by omega) hn) ?_)
      rw [M_and]
      by_cases c2 : loneB n ring l (j : Int) = true
      · refine evp ((lone_and n ring l j hn).2 c2) (evp (by omega) ?_)
        rw [M_one (by omega : j < 32), M_or]
        rw [M_congr (P := fun i => decide (i < j + 1) && (!decide ((i : Int) ∈ l) && loneB n ring l (i : Int))) (Q := fun i => (decide (i < j) && (!decide ((i : Int) ∈ l) && loneB n ring l (i : Int))) || decide (i = j)) fun i _ => ?_] at ih
        · exact ih
        · by_cases e : i = j
          · subst e; simp [c, c2]
          · simp only [e, decide_false, Bool.or_false]
            congr 1
            simp; omega
      · refine evn (fun h => c2 ((lone_and n ring l j hn).1 h)) ?_
        rw [hno (.inr (by simpa using c2))] at ih
        exact ih
theorem ev_lonely (n : Nat) (ring : Bool) (l : List Int) (hn : n ≤ 32) : Ev (fun k => impl_bench_lonely.f k (n : Int) ring (M (fun i => decide ((i : Int) ∈ l)) : Int)) (M (fun i => decide (i < n) && (!decide ((i : Int) ∈ l) && loneB n ring l (i : Int))) : Int) := by
  unfold impl_bench_lonely.f
  have h := lonely_loop n ring l hn n 0 (by omega)
  rw [M_congr (P := fun i => decide (i < 0) && (!decide ((i : Int) ∈ l) && loneB n ring l (i : Int))) (Q := fun _ => false) fun i _ => by simp, ← M_zero] at h
  exact h
theorem bothLonelySeats (n : Int) (ring : Bool) (l : List Int) (hl : l.length ≤ 1048576) : ∃ R ok, Ev (fun k => spec_LonelySeats.f k n ring l) (R, ok) ∧ Ev (fun k => impl_LonelySeats.f k n ring l) (R, ok) ∧ R.length ≤ 1048576 := by
  have hS := ev_l2Row n ring l hl
  have hI := ev_isRow n ring l hl
  unfold spec_LonelySeats.f impl_LonelySeats.f
  cases hb : rowB n ring l with
  | false =>
    rw [hb] at hS hI
    exact ⟨_, _, evb hS (evn (by simp) (evs _)), evb hI (evn (by simp) (evs _)), by simp⟩
  | true =>
    rw [hb] at hS hI
    have ok := rowB_ok hb
    have := ok.lo; have := ok.hi
    obtain ⟨m, rfl⟩ : ∃ m : Nat, n = m := ⟨n.toNat, by omega⟩
    simp only [impl_Row_bench.f, Option.bind_some]
    have hT := ev_taken (m : Int) ring l ok.m32 hl
    have hL := ev_list fun i => decide (i < m) && (!decide ((i : Int) ∈ l) && loneB m ring l (i : Int))
    rw [sel_32 (by omega)] at hL
    have e : (sel m fun i => !decide ((i : Int) ∈ l)).filter (loneB m ring l) = sel m fun i => !decide ((i : Int) ∈ l) && loneB m ring l (i : Int) := by
      refine (sel_is ((sel_inc _ _).filter _) fun x => ?_).symm
      rw [List.mem_filter, mem_sel]
      constructor
      · rintro ⟨⟨i, h1, h2, rfl⟩, h3⟩
        exact ⟨i, h1, by rw [h2, h3]; rfl, rfl⟩
      · rintro ⟨i, h1, h2, rfl⟩
        rw [Bool.and_eq_true] at h2
        exact ⟨⟨i, h1, h2.1, rfl⟩, h2.2⟩
    have hS2 := ev_l2Lonely m ring l hl (by omega)
    rw [e] at hS2
    have := sel_len_le m fun i => !decide ((i : Int) ∈ l) && loneB m ring l (i : Int)
    exact ⟨_, _, evb hS (evp rfl (evb hS2 (evs _))), evb hI (evp rfl (evb hT (evb (ev_lonely m ring l (by omega)) (evb hL (evs _))))), by omega⟩
theorem FnExactLonelySeats : laws_FnExactLonelySeats.Pure := by
  intro n ring l _ hm _
  refine Ev.rounds (g := fun k => laws_FnExactLonelySeats.f k n ring l) ?_
  unfold laws_FnExactLonelySeats.f
  by_cases hl : l.length ≤ 1048576
  · obtain ⟨R, ok, hS, hI, hR⟩ := bothLonelySeats n ring l hl
    refine evc (szRow_ok (by omega) (by omega)) ?_
    repeat (first
      | exact evs true
      | (with_reducible refine evb hS ?_)
      | (with_reducible refine evb hI ?_)
      | (with_reducible refine evb (ev_toIntS _ (by assumption)) ?_)
      | (with_reducible refine evb (ev_toRow _ _ _ (by assumption)) ?_)
      | (with_reducible refine evb (ev_eqIntS _ (by assumption)) ?_)
      | (with_reducible refine evb (ev_eqRow _ _ _ (by assumption)) ?_)
      | (with_reducible refine evb (ev_markIntS _ _ (by assumption) (by omega) (by omega)) ?_)
      | (with_reducible refine evb (ev_markRow _ _ _ _ (by assumption) (by omega) (by omega)) ?_)
      | (with_reducible refine evb (ev_heldIntS _ _ (by assumption) (by omega) (by omega)) ?_)
      | (with_reducible show Ev (fun k => laws_FnExactLonelySeats.j0 k _ _ _ _ _ _ _ _ _ _ _) _; apply evshift; simp only [laws_FnExactLonelySeats.j0])
      | (with_reducible show Ev (fun k => laws_FnExactLonelySeats.j1 k _ _ _ _ _ _ _) _; apply evshift; simp only [laws_FnExactLonelySeats.j1])
      | (with_reducible show Ev (fun k => laws_FnExactLonelySeats.j2 k _ _ _) _; apply evshift; simp only [laws_FnExactLonelySeats.j2])
      | (refine evp ?hc ?_; (case hc => first | omega | (simp; done)))
      | (refine evn ?hc ?_; (case hc => first | omega | (simp; done)))
      | dsimp only)
  · exact evc (szRow_big (by omega) hm) (evp (by omega) (evs _))

end Go.Proofs.YtpbpknfmhnjgcaaDoor.Pure
