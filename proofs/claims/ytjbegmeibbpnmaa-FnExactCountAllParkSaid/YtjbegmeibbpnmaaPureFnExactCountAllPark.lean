/- The law laws.FnExactCountAllPark, told as plain Lean functions of numbers, lists and strings, answers true for every input, if enough rounds are given: the program's CountAllPark answers what the reference's answers. Conditions: none but the kinds' own (each number one of its kind, each length one that the model reads). -/
import Derived.Test.YtjbegmeibbpnmaaPFnExactCountAllParkx7
import Derived.Test.YtjbegmeibbpnmaaBase
namespace Go.Proofs.Ytjbegmeibbpnmaa.Pure
open Go.RowKit Go.Proofs.Ytjbegmeibbpnmaa.PFnExactCountAllPark Go.Proofs.YtjbegmeibbpnmaaW.PrintWords Go.Proofs.YtjbegmeibbpnmaaW.PrintLast Go.Proofs.YtjbegmeibbpnmaaW.PrintMore Go.Proofs.Ytjbegmeibbpnmaa.Base

/-- The first free seat from p on, d behind it first: f of them are looked at. -/
def aheadF (m : Nat) (ring : Bool) (P : Nat → Bool) (p : Nat) : Nat → Nat → Int
  | 0, _ => -1
  | f + 1, d => if ring = false ∧ m ≤ p + d then -1 else if P ((p + d) % m) = true then aheadF m ring P p f (d + 1) else (((p + d) % m : Nat) : Int)
def parkF (m : Nat) (ring : Bool) (P : Nat → Bool) (p : Nat) : Int := if P p = true then aheadF m ring P p m 0 else (p : Int)
theorem aheadF_bd {m : Nat} {ring : Bool} {P : Nat → Bool} {p : Nat} (hm : 0 < m) : ∀ f d, -1 ≤ aheadF m ring P p f d ∧ aheadF m ring P p f d < (m : Int)
  | 0, d => by unfold aheadF; omega
  | f + 1, d => by
    have := aheadF_bd (ring := ring) (P := P) (p := p) hm f (d + 1)
    have := Nat.mod_lt (p + d) hm
    unfold aheadF
    split
    · omega
    · split <;> omega
theorem parkF_bd {m : Nat} {ring : Bool} {P : Nat → Bool} {p : Nat} (hp : p < m) : -1 ≤ parkF m ring P p ∧ parkF m ring P p < (m : Int) := by
  have := aheadF_bd (ring := ring) (P := P) (p := p) (show 0 < m by omega) m 0
  unfold parkF
  split <;> omega
theorem aheadF_one {m : Nat} {ring : Bool} {P : Nat → Bool} {p : Nat} (hp : p < m) (h : P p = true) : aheadF m ring P p m 0 = aheadF m ring P p (m - 1) 1 := by
  obtain ⟨f, rfl⟩ : ∃ f, m = f + 1 := ⟨m - 1, by omega⟩
  rw [aheadF, if_neg (by omega), Nat.add_zero, Nat.mod_eq_of_lt hp, if_pos h]
  rfl
def addP (P : Nat → Bool) (s : Int) : Nat → Bool := fun i => P i || decide ((i : Int) = s)
/-- Where the cars of the list park, one after the other, and which seats are taken then. -/
def parkL (m : Nat) (ring : Bool) : (Nat → Bool) → List Int → List Int
  | _, [] => []
  | P, x :: xs => parkF m ring P x.toNat :: parkL m ring (addP P (parkF m ring P x.toNat)) xs
def parkP (m : Nat) (ring : Bool) : (Nat → Bool) → List Int → (Nat → Bool)
  | P, [] => P
  | P, x :: xs => parkP m ring (addP P (parkF m ring P x.toNat)) xs
theorem parkL_len (m : Nat) (ring : Bool) : ∀ (xs : List Int) (P : Nat → Bool), (parkL m ring P xs).length = xs.length
  | [], _ => rfl
  | x :: xs, P => by simp [parkL, parkL_len m ring xs]
theorem parkL_mem (m : Nat) (ring : Bool) : ∀ (xs : List Int) (P : Nat → Bool), (∀ x ∈ xs, 0 ≤ x ∧ x < (m : Int)) → ∀ y ∈ parkL m ring P xs, -1 ≤ y ∧ y < (m : Int)
  | [], _, _, y, h => by simp [parkL] at h
  | x :: xs, P, hx, y, h => by
    rw [parkL, List.mem_cons] at h
    rcases h with rfl | h
    · have := hx x (by simp)
      exact parkF_bd (by omega)
    · exact parkL_mem m ring xs _ (fun z hz => hx z (by simp [hz])) y h
theorem addP_neg {P : Nat → Bool} {s : Int} (h : s < 0) : addP P s = P := by
  funext i
  unfold addP
  rw [decide_eq_false (by omega), Bool.or_false]
theorem addP_sel {P : Nat → Bool} {s : Nat} {R : List Int} (hs : s < 32) (hp : R.Pairwise (· < ·)) (h : ∀ y, y ∈ R ↔ y = (s : Int) ∨ y ∈ sel 32 P) : R = sel 32 (addP P (s : Int)) := by
  refine (sel_is hp fun y => ?_).symm
  rw [h, mem_sel]
  constructor
  · rintro (rfl | ⟨i, h1, h2, rfl⟩)
    · exact ⟨s, hs, by simp [addP], rfl⟩
    · exact ⟨i, h1, by simp [addP, h2], rfl⟩
  · rintro ⟨i, h1, h2, rfl⟩
    unfold addP at h2
    rw [Bool.or_eq_true, decide_eq_true_eq] at h2
    rcases h2 with h2 | h2
    · exact .inr ⟨i, h1, h2, rfl⟩
    · exact .inl h2
theorem addP_M {P : Nat → Bool} {s : Nat} (hs : s < 32) : Go.bits .or .u32 (M P : Int) (shl .u32 1 (s : Int)) = (M (addP P (s : Int)) : Int) := by
  rw [M_one hs, M_or]
  refine congrArg _ (M_congr fun i _ => ?_)
  unfold addP
  congr 1
  exact decide_eq_decide.2 (by omega)
theorem in_sel {P : Nat → Bool} {q : Nat} (hq : q < 32) : decide ((q : Int) ∈ sel 32 P) = P q := by
  rw [Bool.eq_iff_iff, decide_eq_true_eq, mem_sel]
  constructor
  · rintro ⟨i, _, h2, e⟩
    obtain rfl : q = i := by omega
    exact h2
  · exact fun h => ⟨q, hq, h, rfl⟩
theorem sz_big {l : List Int} (h : 1048576 < l.length) (hm : l.length ≤ maxLen) : laws_szIntS.f l 1048576 = some (-1) := by
  unfold maxLen at hm
  unfold laws_szIntS.f
  rw [w64 (by omega) (by omega), if_pos (by omega)]
theorem sz_ok {l : List Int} {m : Int} (h : (l.length : Int) ≤ m) (hm : m ≤ 1048576) : laws_szIntS.f l m = some (m - l.length) := by
  unfold laws_szIntS.f
  rw [w64 (by omega) (by omega), if_neg (by omega)]
theorem szRow_big {a : Int} {b : Bool} {l : List Int} (h : 1048576 < l.length) (hm : l.length ≤ maxLen) : laws_szRow.f a b l 1048576 = some (-1) := by
  unfold laws_szRow.f
  rw [sz_big h hm]
  rfl
theorem szRow_ok {a : Int} {b : Bool} {l : List Int} {m : Int} (h : (l.length : Int) ≤ m) (hm : m ≤ 1048576) : laws_szRow.f a b l m = some (m - l.length) := by
  unfold laws_szRow.f
  rw [sz_ok h hm]
  simp only [Option.bind_some]
  rw [if_neg (by omega)]
theorem toIntS_loop (l : List Int) (hl : l.length ≤ 1048576) : ∀ d j, j + d = l.length → Ev (fun k => laws_toIntS.l0 k l (l.take j ++ List.replicate (l.length - j) 0) (j : Int)) l
  | 0, j, h => by
    apply evshift
    simp only [laws_toIntS.l0]
    refine evn (by omega) ?_
    have e : l.take j ++ List.replicate (l.length - j) 0 = l := by rw [show j = l.length by omega]; simp
    rw [e]
    exact evs _
  | d + 1, j, h => by
    have ih := toIntS_loop l hl d (j + 1) (by omega)
    apply evshift
    simp only [laws_toIntS.l0]
    refine evp (by omega) (evp (by omega) (evp (by simp; omega) ?_))
    rw [Int.toNat_natCast, set_copy l j (by omega), wnext j (by omega)]
    exact ih
theorem ev_toIntS (l : List Int) (hl : l.length ≤ 1048576) : Ev (fun k => laws_toIntS.f k l) l := by
  unfold laws_toIntS.f
  refine evp (by omega) (evp (by omega) ?_)
  have h := toIntS_loop l hl l.length 0 (by omega)
  simpa using h
theorem ev_toRow (a : Int) (b : Bool) (l : List Int) (hl : l.length ≤ 1048576) : Ev (fun k => laws_toRow.f k a b l) (a, b, l) := by
  unfold laws_toRow.f
  exact evb (ev_toIntS l hl) (evs _)
theorem eqIntS_loop (l : List Int) (hl : l.length ≤ 1048576) : ∀ d j, j + d = l.length → Ev (fun k => laws_eqIntS.l0 k l l (j : Int)) true
  | 0, j, h => by
    apply evshift
    simp only [laws_eqIntS.l0]
    exact evn (by omega) (evs _)
  | d + 1, j, h => by
    have ih := eqIntS_loop l hl d (j + 1) (by omega)
    apply evshift
    simp only [laws_eqIntS.l0]
    refine evp (by omega) (evp (by omega) (evp (by omega) (evp (by trivial) ?_)))
    rw [wnext j (by omega)]
    exact ih
theorem ev_eqIntS (l : List Int) (hl : l.length ≤ 1048576) : Ev (fun k => laws_eqIntS.f k l l) true := by
  unfold laws_eqIntS.f
  exact evp (by trivial) (eqIntS_loop l hl l.length 0 (by omega))
theorem ev_eqRow (a : Int) (b : Bool) (l : List Int) (hl : l.length ≤ 1048576) : Ev (fun k => laws_eqRow.f k a b l a b l) true := by
  unfold laws_eqRow.f
  refine evp (by simp) (evn (by simp) ?_)
  exact evb (ev_eqIntS l hl) (evp (by trivial) (evs _))
theorem in_spec (a lo hi : Int) : spec_l1In.f a lo hi = some (decide (lo ≤ a ∧ a ≤ hi)) := by
  unfold spec_l1In.f
  split
  · congr 1; simp; omega
  · congr 1; simp; omega
theorem rising_loop (l : List Int) (m : Int) (hl : l.length ≤ 1048576) : ∀ d j, j + d = l.length → Ev (fun k => spec_l1Rising.l0 k l 0 m (j : Int)) (okFrom m l d j)
  | 0, j, h => by
    apply evshift
    simp only [spec_l1Rising.l0]
    exact evn (by omega) (evs _)
  | d + 1, j, h => by
    have ih := rising_loop l m hl d (j + 1) (by omega)
    apply evshift
    simp only [spec_l1Rising.l0, in_spec, Option.bind_some]
    refine evp (by omega) (evp (by omega) ?_)
    simp only [okFrom, okAt]
    by_cases h1 : 0 ≤ rd l (j : Int) ∧ rd l (j : Int) ≤ m
    · refine evp (by simpa using h1) ?_
      rw [decide_eq_true h1, Bool.true_and]
      by_cases h2 : j = 0
      · refine evn (by omega) ?_
        rw [wnext j (by omega), decide_eq_true h2, Bool.true_or, Bool.true_and]
        exact ih
      · refine evp (by omega) ?_
        rw [w64 (by omega) (by omega)]
        refine evp (by omega) (evp (by omega) ?_)
        by_cases h3 : rd l ((j : Int) - 1) < rd l (j : Int)
        · refine evn (by omega) ?_
          rw [wnext j (by omega)]
          simpa [h3] using ih
        · refine evp (by omega) ?_
          simpa [h2, h3] using evs false
    · refine evn (by simpa using h1) ?_
      simpa [h1] using evs false
theorem ev_rising (l : List Int) (m : Int) (hl : l.length ≤ 1048576) : Ev (fun k => spec_l1Rising.f k l 0 m) (okFrom m l l.length 0) := by
  unfold spec_l1Rising.f
  exact rising_loop l m hl l.length 0 (by omega)
theorem ev_l2Row (n : Int) (ring : Bool) (l : List Int) (hl : l.length ≤ 1048576) : Ev (fun k => spec_l2Row.f k n ring l) (rowB n ring l) := by
  unfold spec_l2Row.f
  simp only [in_spec, Option.bind_some, rowB]
  by_cases h1 : 2 ≤ n ∧ n ≤ 24
  · refine evp (by simpa using h1) ?_
    rw [w64 (by omega) (by omega)]
    cases ring with
    | true =>
      refine evp rfl ?_
      by_cases h2 : n > 2
      · refine evp h2 (evb (ev_rising l _ hl) ?_)
        have h3 : 3 ≤ n := by omega
        simpa [h1, h3] using evs _
      · refine evn h2 ?_
        have h3 : ¬ 3 ≤ n := by omega
        simpa [h3] using evs false
    | false =>
      refine evn (by simp) (evb (ev_rising l _ hl) ?_)
      simpa [h1] using evs _
  · refine evn (by simpa using h1) ?_
    simpa [h1] using evs false
theorem l1Has_loop (l : List Int) (x : Int) (hl : l.length ≤ 1048576) : ∀ d j, j + d = l.length → Ev (fun k => spec_l1Has.l0 k l x (j : Int)) (decide (x ∈ l.drop j))
  | 0, j, h => by
    apply evshift
    simp only [spec_l1Has.l0]
    refine evn (by omega) ?_
    rw [List.drop_eq_nil_of_le (by omega)]
    simpa using evs false
  | d + 1, j, h => by
    have ih := l1Has_loop l x hl d (j + 1) (by omega)
    apply evshift
    simp only [spec_l1Has.l0]
    refine evp (by omega) (evp (by omega) ?_)
    rw [drop_cons (by omega : j < l.length)]
    by_cases h1 : rd l (j : Int) = x
    · refine evp h1 ?_
      simpa [h1] using evs true
    · refine evn h1 ?_
      have h2 : ¬ x = rd l (j : Int) := fun h => h1 h.symm
      rw [wnext j (by omega)]
      simpa [h2] using ih
theorem ev_l1Has (l : List Int) (x : Int) (hl : l.length ≤ 1048576) : Ev (fun k => spec_l1Has.f k l x) (decide (x ∈ l)) := by
  unfold spec_l1Has.f
  have h := l1Has_loop l x hl l.length 0 (by omega)
  simpa using h
theorem ev_l2Is (n : Int) (ring : Bool) (l : List Int) (x : Int) (hl : l.length ≤ 1048576) : Ev (fun k => spec_l2Is.f k n ring l x) (decide (x ∈ l)) := by
  unfold spec_l2Is.f
  exact evb (ev_l1Has l x hl) (evs _)
theorem l2Free_loop (n : Nat) (ring : Bool) (l : List Int) (hl : l.length ≤ 1048576) (hn : n ≤ 1048576) : ∀ d j, j + d = n → Ev (fun k => spec_l2Free.l0 k (sel j fun i => !decide ((i : Int) ∈ l)) (j : Int) (n : Int) ring l) (sel n fun i => !decide ((i : Int) ∈ l))
  | 0, j, h => by
    obtain rfl : j = n := by omega
    apply evshift
    simp only [spec_l2Free.l0]
    exact evn (by omega) (evs _)
  | d + 1, j, h => by
    have ih := l2Free_loop n ring l hl hn d (j + 1) (by omega)
    have hs := sel_len_le j fun i => !decide ((i : Int) ∈ l)
    rw [sel_succ] at ih
    apply evshift
    simp only [spec_l2Free.l0]
    refine evp (by omega) (evb (ev_l2Is (n : Int) ring l (j : Int) hl) ?_)
    by_cases h1 : (j : Int) ∈ l
    · refine evp (by simpa using h1) ?_
      rw [wnext j (by omega)]
      simpa [h1] using ih
    · refine evn (by simpa using h1) (evp (by omega) ?_)
      rw [wnext j (by omega)]
      simpa [h1] using ih
theorem ev_l2Free (n : Nat) (ring : Bool) (l : List Int) (hl : l.length ≤ 1048576) (hn : n ≤ 1048576) : Ev (fun k => spec_l2Free.f k (n : Int) ring l) (sel n fun i => !decide ((i : Int) ∈ l)) := by
  unfold spec_l2Free.f
  have h := l2Free_loop n ring l hl hn n 0 (by omega)
  simpa [sel] using h
theorem in_impl (a lo hi : Int) : impl_within.f a lo hi = some (decide (lo ≤ a ∧ a ≤ hi)) := by
  unfold impl_within.f
  split
  · congr 1; simp; omega
  · congr 1; simp; omega
theorem allWithin_loop (l : List Int) (lo hi : Int) (hl : l.length ≤ 1048576) : ∀ d j, j + d = l.length → Ev (fun k => impl_allWithin.l0 k lo hi l (l.length : Int) (j : Int)) ((l.drop j).all fun x => decide (lo ≤ x ∧ x ≤ hi))
  | 0, j, h => by
    apply evshift
    simp only [impl_allWithin.l0]
    refine evn (by omega) ?_
    rw [List.drop_eq_nil_of_le (by omega)]
    exact evs _
  | d + 1, j, h => by
    have ih := allWithin_loop l lo hi hl d (j + 1) (by omega)
    apply evshift
    simp only [impl_allWithin.l0, in_impl, Option.bind_some]
    refine evp (by omega) (evp (by omega) (evp (by omega) ?_))
    rw [drop_cons (by omega : j < l.length), List.all_cons]
    by_cases h1 : lo ≤ rd l (j : Int) ∧ rd l (j : Int) ≤ hi
    · refine evp (by simpa using h1) ?_
      rw [wnext j (by omega)]
      simpa [h1] using ih
    · refine evn (by simpa using h1) ?_
      simpa [h1] using evs false
theorem ev_allWithin (l : List Int) (lo hi : Int) (hl : l.length ≤ 1048576) : Ev (fun k => impl_allWithin.f k l lo hi) (l.all fun x => decide (lo ≤ x ∧ x ≤ hi)) := by
  unfold impl_allWithin.f
  have h := allWithin_loop l lo hi hl l.length 0 (by omega)
  simpa using h
theorem ev_benchHas (n : Int) (ring : Bool) (l : List Int) (hl : l.length ≤ 1048576) : Ev (fun k => impl_bench_has.f k n ring l) (l.all fun x => decide (0 ≤ x ∧ x ≤ wrap64 (n - 1))) := by
  unfold impl_bench_has.f
  exact evb (ev_allWithin l 0 _ hl) (evs _)
theorem benchValid (n : Int) (ring : Bool) : impl_bench_valid.f n ring = some (decide (2 ≤ n ∧ n ≤ 24) && (!ring || decide (3 ≤ n))) := by
  unfold impl_bench_valid.f
  simp only [in_impl, Option.bind_some]
  by_cases h1 : 2 ≤ n ∧ n ≤ 24
  · rw [if_pos (by simpa using h1)]
    cases ring <;> simp [h1]
  · rw [if_neg (by simpa using h1)]
    simp [h1]
theorem isRow_loop (n : Int) (ring : Bool) (l : List Int) (hl : l.length ≤ 1048576) : ∀ d j, j + d = l.length →
    Ev (fun k => impl_IsRow.l0 k l (l.length : Int) (j : Int) n ring l) (okFrom (wrap64 (n - 1)) l d j && (decide (2 ≤ n ∧ n ≤ 24) && (!ring || decide (3 ≤ n))))
  | 0, j, h => by
    apply evshift
    simp only [impl_IsRow.l0, impl_Row_bench.f, Option.bind_some, benchValid]
    refine evn (by omega) ?_
    simpa [okFrom] using evs _
  | d + 1, j, h => by
    have ih := isRow_loop n ring l hl d (j + 1) (by omega)
    apply evshift
    simp only [impl_IsRow.l0, impl_Row_bench.f, Option.bind_some]
    refine evp (by omega) (evp (by omega) (evp (by omega) ?_))
    refine evb (ev_benchHas n ring [rd l (j : Int)] (by simp)) ?_
    simp only [okFrom, okAt, List.all_cons, List.all_nil, Bool.and_true]
    by_cases h1 : 0 ≤ rd l (j : Int) ∧ rd l (j : Int) ≤ wrap64 (n - 1)
    · refine evp (by simpa using h1) ?_
      rw [decide_eq_true h1, Bool.true_and]
      by_cases h2 : j = 0
      · refine evn (by omega) ?_
        rw [wnext j (by omega), decide_eq_true h2, Bool.true_or, Bool.true_and]
        exact ih
      · refine evp (by omega) ?_
        rw [w64 (by omega) (by omega)]
        refine evp (by omega) (evp (by omega) ?_)
        by_cases h3 : rd l ((j : Int) - 1) < rd l (j : Int)
        · refine evn (by omega) ?_
          rw [wnext j (by omega)]
          simpa [h3] using ih
        · refine evp (by omega) ?_
          simpa [h2, h3] using evs false
    · refine evn (by simpa using h1) ?_
      simpa [h1] using evs false
theorem ev_isRow (n : Int) (ring : Bool) (l : List Int) (hl : l.length ≤ 1048576) : Ev (fun k => impl_IsRow.f k n ring l) (rowB n ring l) := by
  unfold impl_IsRow.f
  refine eve (isRow_loop n ring l hl l.length 0 (by omega)) ?_
  unfold rowB
  by_cases h1 : 2 ≤ n ∧ n ≤ 24
  · rw [w64 (by omega) (by omega)]
    cases okFrom (n - 1) l l.length 0 <;> simp [h1]
  · simp [h1]
theorem setOf_loop (l : List Int) (hm : ∀ x ∈ l, 0 ≤ x ∧ x < 32) (hl : l.length ≤ 1048576) : ∀ d j (P : Nat → Bool), j + d = l.length →
    Ev (fun k => impl_setOf.l0 k (M P : Int) l (l.length : Int) (j : Int)) (M (fun i => P i || decide ((i : Int) ∈ l.drop j)) : Int)
  | 0, j, P, h => by
    apply evshift
    simp only [impl_setOf.l0]
    refine evn (by omega) ?_
    rw [List.drop_eq_nil_of_le (by omega)]
    simpa using evs _
  | d + 1, j, P, h => by
    apply evshift
    simp only [impl_setOf.l0]
    have hr := hm _ (rd_mem (by omega : j < l.length))
    refine evp (by omega) (evp (by omega) (evp (by omega) (evp (by omega) ?_)))
    obtain ⟨p, hp⟩ : ∃ p : Nat, rd l (j : Int) = (p : Int) := ⟨(rd l (j : Int)).toNat, by omega⟩
    rw [hp] at hr
    rw [hp, M_one (by omega), M_or, wnext j (by omega)]
    refine eve (setOf_loop l hm hl d (j + 1) _ (by omega)) ?_
    rw [drop_cons (by omega : j < l.length), hp]
    refine congrArg _ (M_congr fun i _ => ?_)
    by_cases e : i = p
    · subst e; simp
    · have : ¬ (i : Int) = (p : Int) := by omega
      simp [e, this]
theorem ev_setOf (l : List Int) (hm : ∀ x ∈ l, 0 ≤ x ∧ x < 32) (hl : l.length ≤ 1048576) : Ev (fun k => impl_setOf.f k l) (M (fun i => decide ((i : Int) ∈ l)) : Int) := by
  unfold impl_setOf.f
  have h := setOf_loop l hm hl l.length 0 (fun _ => false) (by omega)
  rw [← M_zero] at h
  simpa using h
theorem ev_taken (n : Int) (ring : Bool) (l : List Int) (hm : ∀ x ∈ l, 0 ≤ x ∧ x < 32) (hl : l.length ≤ 1048576) : Ev (fun k => impl_Row_taken.f k n ring l) (M (fun i => decide ((i : Int) ∈ l)) : Int) := by
  unfold impl_Row_taken.f
  exact evb (ev_setOf l hm hl) (evs _)
theorem setHas {P : Nat → Bool} {p : Nat} (h : p < 32) : impl_set_has.f (M P : Int) (p : Int) = some (P p) := by
  unfold impl_set_has.f
  rw [if_pos (by omega), M_has h]
  cases P p <;> rfl
theorem park_loop (m : Nat) (ring : Bool) (P : Nat → Bool) (p : Nat) (hm : 0 < m) (hm2 : m ≤ 32) (hp : p < m) : ∀ f d, d + f = m → Ev (fun k => impl_bench_park.l1 k (M P : Int) (p : Int) (d : Int) (m : Int) ring) (aheadF m ring P p f d)
  | 0, d, h => by
    apply evshift
    simp only [impl_bench_park.l1]
    exact evn (by omega) (evs _)
  | f + 1, d, h => by
    have ih := park_loop m ring P p hm hm2 hp f (d + 1) (by omega)
    have hlt := Nat.mod_lt (p + d) hm
    have go : ¬ (ring = false ∧ m ≤ p + d) → Ev (fun k => impl_bench_park.j4 k (M P : Int) (p : Int) (d : Int) ((p + d : Nat) : Int) false (m : Int) ring) (aheadF m ring P p (f + 1) d) := fun hc => by
      rw [aheadF, if_neg hc]
      apply evshift
      simp only [impl_bench_park.j4]
      rw [show Int.tmod ((p + d : Nat) : Int) (m : Int) = (((p + d) % m : Nat) : Int) from (Int.ofNat_tmod _ _).symm, wnext d (by omega)]
      refine evn (by simp) (evn (by omega) (evc (setHas (by omega)) ?_))
      by_cases c : P ((p + d) % m) = true
      · rw [if_pos c]; exact evp c ih
      · rw [if_neg c]; exact evn c (evs _)
    apply evshift
    simp only [impl_bench_park.l1]
    rw [w64 (by omega) (by omega), show ((p : Int) + (d : Int)) = ((p + d : Nat) : Int) by omega]
    refine evp (by omega) ?_
    by_cases hg : m ≤ p + d
    · refine evp (by omega) ?_
      cases ring with
      | true => exact go (by simp)
      | false =>
        rw [aheadF, if_pos ⟨rfl, hg⟩]
        apply evshift
        simp only [impl_bench_park.j4]
        exact evp (by simp) (evs _)
    · exact evn (by omega) (go (by omega))
theorem ev_park0 (m : Nat) (ring : Bool) (P : Nat → Bool) (p : Nat) (hm2 : m ≤ 32) (hp : p < m) : Ev (fun k => impl_bench_park.f k (m : Int) ring (M P : Int) (p : Int) 0) (parkF m ring P p) := by
  unfold impl_bench_park.f parkF
  refine evc (setHas (by omega)) ?_
  by_cases c : P p = true
  · rw [if_pos c, aheadF_one hp c]
    refine evp c ?_
    apply evshift
    simp only [impl_bench_park.l0]
    refine evn ?_ ?_
    · rw [w64 (by omega) (by omega)]
      unfold mn
      repeat' split
      all_goals omega
    · apply evshift
      simp only [impl_bench_park.j2]
      exact park_loop m ring P p (by omega) hm2 hp (m - 1) 1 (by omega)
  · rw [if_neg c]
    exact evn c (evs _)
set_option linter.unusedSimpArgs false
set_option linter.unusedVariables false
set_option linter.unnecessarySimpa false
namespace Cap
/-- The sum of C(t,j) e(j), by Pascal's rule. -/
def B : Nat → (Nat → Nat) → Nat
  | 0, e => e 0
  | t + 1, e => B t (fun u => e (u + 1)) + B t e
theorem B_congr : ∀ (t : Nat) {e f : Nat → Nat}, (∀ u, u ≤ t → e u = f u) → B t e = B t f
  | 0, e, f, h => h 0 (Nat.le_refl _)
  | t + 1, e, f, h => by
    simp only [B]
    rw [B_congr t (fun u hu => h (u + 1) (by omega)), B_congr t (fun u hu => h u (by omega))]
theorem B_zero : ∀ (t : Nat), B t (fun _ => 0) = 0
  | 0 => rfl
  | t + 1 => by simp only [B]; rw [B_zero t]
theorem B_add : ∀ (t : Nat) (e f : Nat → Nat), B t (fun u => e u + f u) = B t e + B t f
  | 0, e, f => rfl
  | t + 1, e, f => by
    simp only [B]
    rw [B_add t (fun u => e (u + 1)) (fun u => f (u + 1)), B_add t e f]
    omega
/-- The sum of f 1, .., f d. -/
def ssum (f : Nat → Nat) : Nat → Nat
  | 0 => 0
  | d + 1 => ssum f d + f (d + 1)
theorem ssum_congr {f g : Nat → Nat} : ∀ d, (∀ i, 1 ≤ i → i ≤ d → f i = g i) → ssum f d = ssum g d
  | 0, _ => rfl
  | d + 1, h => by
    simp only [ssum]
    rw [ssum_congr d fun i h1 h2 => h i h1 (by omega), h (d + 1) (by omega) (by omega)]
theorem ssum_zero {f : Nat → Nat} : ∀ d, (∀ i, 1 ≤ i → i ≤ d → f i = 0) → ssum f d = 0
  | 0, _ => rfl
  | d + 1, h => by
    simp only [ssum]
    rw [ssum_zero d fun i h1 h2 => h i h1 (by omega), h (d + 1) (by omega) (by omega)]
theorem B_ssum (t : Nat) (g : Nat → Nat → Nat) : ∀ d, B t (fun u => ssum (fun i => g i u) d) = ssum (fun i => B t (g i)) d
  | 0 => B_zero t
  | d + 1 => by
    simp only [ssum]
    rw [B_add t (fun u => ssum (fun i => g i u) d) (g (d + 1)), B_ssum t g d]
def setP (P : Nat → Bool) (q : Nat) : Nat → Bool := fun i => P i || decide (i = q)
/-- How many of the last d of n seats are free. -/
def room (P : Nat → Bool) (n : Nat) : Nat → Nat
  | 0 => 0
  | d + 1 => room P n d + (if P (n - (d + 1)) = true then 0 else 1)
/-- The first free one of them. -/
def ff (P : Nat → Bool) (n : Nat) : Nat → Option Nat
  | 0 => none
  | d + 1 => if P (n - (d + 1)) = true then ff P n d else some (n - (d + 1))
/-- In how many ways t cars that prefer some of the last d seats all park. -/
def E (P : Nat → Bool) (n : Nat) : Nat → Nat → Nat
  | 0, t => if t = 0 then 1 else 0
  | d + 1, t => if t ≤ room P n (d + 1) then B t (E P n d) else 0
theorem ff_some {P : Nat → Bool} {n q : Nat} : ∀ d, d ≤ n → ff P n d = some q → n - d ≤ q ∧ q < n ∧ P q = false
  | 0, _, h => by simp [ff] at h
  | d + 1, hd, h => by
    simp only [ff] at h
    by_cases c : P (n - (d + 1)) = true
    · rw [if_pos c] at h
      obtain ⟨h1, h2, h3⟩ := ff_some d (by omega) h
      exact ⟨by omega, h2, h3⟩
    · rw [if_neg c] at h
      injection h with h
      subst h
      exact ⟨by omega, by omega, by simpa using c⟩
theorem ff_none {P : Nat → Bool} {n : Nat} : ∀ d, ff P n d = none → room P n d = 0
  | 0, _ => rfl
  | d + 1, h => by
    simp only [ff] at h
    by_cases c : P (n - (d + 1)) = true
    · rw [if_pos c] at h
      simp only [room]
      rw [if_pos c, ff_none d h]
    · rw [if_neg c] at h; cases h
theorem room_far {P : Nat → Bool} {n q : Nat} : ∀ d, d ≤ n → q < n - d → room (setP P q) n d = room P n d
  | 0, _, _ => rfl
  | d + 1, hd, hq => by
    simp only [room]
    rw [room_far d (by omega) (by omega)]
    have : setP P q (n - (d + 1)) = P (n - (d + 1)) := by simp [setP]; omega
    rw [this]
theorem room_set {P : Nat → Bool} {n q : Nat} (hP : P q = false) : ∀ d, d ≤ n → n - d ≤ q → q < n → room (setP P q) n d + 1 = room P n d
  | 0, _, h1, h2 => by omega
  | d + 1, hd, h1, h2 => by
    simp only [room]
    by_cases c : q = n - (d + 1)
    · have e1 : setP P q (n - (d + 1)) = true := by simp [setP, c]
      have e2 : ¬ P (n - (d + 1)) = true := by rw [← c, hP]; simp
      rw [room_far d (by omega) (by omega), if_pos e1, if_neg e2]
    · have e1 : setP P q (n - (d + 1)) = P (n - (d + 1)) := by simp [setP]; omega
      rw [e1, ← room_set hP d (by omega) (by omega) h2]
      omega
theorem E_far {P : Nat → Bool} {n q : Nat} : ∀ d t, d ≤ n → q < n - d → E (setP P q) n d t = E P n d t
  | 0, _, _, _ => rfl
  | d + 1, t, hd, hq => by
    simp only [E]
    rw [room_far (d + 1) hd hq, B_congr t fun u _ => E_far d u (by omega) (by omega)]
theorem E_same {P : Nat → Bool} {n q : Nat} : ∀ d u, d ≤ n → u < room P n d → ff P n d = some q → E (setP P q) n d u = E P n d u
  | 0, u, _, h, _ => by simp [room] at h
  | d + 1, u, hd, h, hq => by
    obtain ⟨h1, h2, h3⟩ := ff_some (d + 1) hd hq
    have hr := room_set h3 (d + 1) hd h1 h2
    simp only [E]
    rw [if_pos (by omega), if_pos (by omega)]
    refine B_congr u fun v hv => ?_
    simp only [ff] at hq
    by_cases c : P (n - (d + 1)) = true
    · rw [if_pos c] at hq
      simp only [room] at h
      rw [if_pos c] at h
      exact E_same d v (by omega) (by omega) hq
    · rw [if_neg c] at hq
      injection hq with hq
      exact E_far d v (by omega) (by omega)
/-- By the first car. -/
theorem E_car {P : Nat → Bool} {n : Nat} : ∀ d t, d ≤ n → E P n d (t + 1) = ssum (fun i => match ff P n i with | none => 0 | some q => E (setP P q) n d t) d
  | 0, t, _ => by simp [E, ssum]
  | d + 1, t, hd => by
    by_cases hr : t + 1 ≤ room P n (d + 1)
    · have hl : E P n (d + 1) (t + 1) = B t (fun u => E P n d (u + 1)) + B t (E P n d) := by
        simp only [E]
        rw [if_pos hr]
        rfl
      rw [hl, B_congr t fun u _ => E_car d u (by omega), B_ssum t (fun i u => match ff P n i with | none => 0 | some q => E (setP P q) n d u) d]
      simp only [ssum]
      congr 1
      · refine ssum_congr d fun i i1 i2 => ?_
        cases e : ff P n i with
        | none => exact B_zero t
        | some q =>
          obtain ⟨h1, h2, h3⟩ := ff_some i (by omega) e
          have hs := room_set h3 (d + 1) hd (by omega) h2
          show B t (fun u => E (setP P q) n d u) = E (setP P q) n (d + 1) t
          simp only [E]
          rw [if_pos (by omega)]
      · cases e : ff P n (d + 1) with
        | none => have := ff_none (d + 1) e; omega
        | some q =>
          obtain ⟨h1, h2, h3⟩ := ff_some (d + 1) hd e
          have hs := room_set h3 (d + 1) hd h1 h2
          show B t (E P n d) = E (setP P q) n (d + 1) t
          simp only [E]
          rw [if_pos (by omega)]
          refine (B_congr t fun v hv => ?_).symm
          simp only [ff] at e
          by_cases c : P (n - (d + 1)) = true
          · rw [if_pos c] at e
            simp only [room] at hr
            rw [if_pos c] at hr
            exact E_same d v (by omega) (by omega) e
          · rw [if_neg c] at e
            injection e with e
            exact E_far d v (by omega) (by omega)
    · have hl : E P n (d + 1) (t + 1) = 0 := by
        simp only [E]
        rw [if_neg hr]
      rw [hl]
      refine (ssum_zero (d + 1) fun i i1 i2 => ?_).symm
      cases e : ff P n i with
      | none => rfl
      | some q =>
        obtain ⟨h1, h2, h3⟩ := ff_some i (by omega) e
        have hs := room_set h3 (d + 1) hd (by omega) h2
        show E (setP P q) n (d + 1) t = 0
        simp only [E]
        rw [if_neg (by omega)]
end Cap
namespace Cap
/-- Pascal's triangle. -/
def Ch : Nat → Nat → Nat
  | _, 0 => 1
  | 0, _ + 1 => 0
  | n + 1, k + 1 => Ch n k + Ch n (k + 1)
def fact : Nat → Nat
  | 0 => 1
  | n + 1 => (n + 1) * fact n
theorem fact_pos : ∀ n, 0 < fact n
  | 0 => by simp [fact]
  | n + 1 => Nat.mul_pos (by omega) (fact_pos n)
theorem Ch_zero (n : Nat) : Ch n 0 = 1 := by cases n <;> rfl
theorem Ch_over : ∀ n k, n < k → Ch n k = 0
  | 0, k + 1, _ => rfl
  | n + 1, k + 1, h => by simp only [Ch]; rw [Ch_over n k (by omega), Ch_over n (k + 1) (by omega)]
theorem Ch_self : ∀ n, Ch n n = 1
  | 0 => rfl
  | n + 1 => by simp only [Ch]; rw [Ch_self n, Ch_over n (n + 1) (by omega)]
theorem Ch_fact : ∀ n k, k ≤ n → Ch n k * (fact k * fact (n - k)) = fact n
  | n, 0, _ => by rw [Ch_zero]; simp [fact]
  | n + 1, k + 1, h => by
    by_cases e : k = n
    · subst e
      rw [Ch_self, Nat.sub_self]
      simp [fact]
    · have h1 := Ch_fact n k (by omega)
      have h2 := Ch_fact n (k + 1) (by omega)
      have e1 : n + 1 - (k + 1) = (n - (k + 1)) + 1 := by omega
      have e2 : n - k = (n - (k + 1)) + 1 := by omega
      simp only [Ch, Nat.add_mul]
      have a1 : Ch n k * (fact (k + 1) * fact (n + 1 - (k + 1))) = (k + 1) * fact n := by
        rw [← h1, e1, e2]
        simp only [fact]
        ac_rfl
      have a2 : Ch n (k + 1) * (fact (k + 1) * fact (n + 1 - (k + 1))) = (n - k) * fact n := by
        rw [← h2, e1, e2]
        simp only [fact]
        ac_rfl
      rw [a1, a2, ← Nat.add_mul]
      simp only [fact]
      congr 1
      omega
/-- C(m,j) C(m-j,t-j) = C(m,t) C(t,j). -/
theorem Ch_swap {m t j : Nat} (h1 : j ≤ t) (h2 : t ≤ m) : Ch m j * Ch (m - j) (t - j) = Ch m t * Ch t j := by
  have a1 := Ch_fact m j (by omega)
  have a2 := Ch_fact (m - j) (t - j) (by omega)
  have a3 := Ch_fact m t h2
  have a4 := Ch_fact t j h1
  have e : m - j - (t - j) = m - t := by omega
  rw [e] at a2
  have hp : 0 < fact j * (fact (t - j) * fact (m - t)) := Nat.mul_pos (fact_pos _) (Nat.mul_pos (fact_pos _) (fact_pos _))
  refine Nat.eq_of_mul_eq_mul_right hp ?_
  have l : Ch m j * Ch (m - j) (t - j) * (fact j * (fact (t - j) * fact (m - t))) = fact m := by
    rw [← a1, ← a2]
    ac_rfl
  have r : Ch m t * Ch t j * (fact j * (fact (t - j) * fact (m - t))) = fact m := by
    rw [← a3, ← a4]
    ac_rfl
  rw [l, r]
/-- The next number in a row of the triangle. -/
theorem Ch_next {n k : Nat} (h : k < n) : Ch n k * (n - k) = Ch n (k + 1) * (k + 1) := by
  have a1 := Ch_fact n k (by omega)
  have a2 := Ch_fact n (k + 1) (by omega)
  have e : n - k = (n - (k + 1)) + 1 := by omega
  rw [e] at a1 ⊢
  have hp : 0 < fact k * fact (n - (k + 1)) := Nat.mul_pos (fact_pos _) (fact_pos _)
  refine Nat.eq_of_mul_eq_mul_right hp ?_
  have l : Ch n k * (n - (k + 1) + 1) * (fact k * fact (n - (k + 1))) = fact n := by
    rw [← a1]
    simp only [fact]
    ac_rfl
  have r : Ch n (k + 1) * (k + 1) * (fact k * fact (n - (k + 1))) = fact n := by
    rw [← a2]
    simp only [fact]
    ac_rfl
  rw [l, r]
theorem Ch_le : ∀ n k, Ch n k ≤ 2 ^ n
  | n, 0 => by rw [Ch_zero]; exact Nat.one_le_two_pow
  | 0, k + 1 => by simp [Ch]
  | n + 1, k + 1 => by
    have h1 := Ch_le n k
    have h2 := Ch_le n (k + 1)
    simp only [Ch, Nat.pow_succ]
    omega
/-- The sum over j ≤ t of C(t,j) e(j). -/
def tsum (f : Nat → Nat) : Nat → Nat
  | 0 => f 0
  | t + 1 => tsum f t + f (t + 1)
theorem tsum_congr {f g : Nat → Nat} : ∀ t, (∀ j, j ≤ t → f j = g j) → tsum f t = tsum g t
  | 0, h => h 0 (Nat.le_refl _)
  | t + 1, h => by simp only [tsum]; rw [tsum_congr t fun j hj => h j (by omega), h (t + 1) (Nat.le_refl _)]
theorem tsum_add (f g : Nat → Nat) : ∀ t, tsum (fun j => f j + g j) t = tsum f t + tsum g t
  | 0 => rfl
  | t + 1 => by simp only [tsum]; rw [tsum_add f g t]; omega
theorem tsum_mul (c : Nat) (f : Nat → Nat) : ∀ t, tsum (fun j => c * f j) t = c * tsum f t
  | 0 => rfl
  | t + 1 => by simp only [tsum]; rw [tsum_mul c f t, Nat.mul_add]
theorem tsum_shift (f : Nat → Nat) : ∀ t, tsum f (t + 1) = f 0 + tsum (fun j => f (j + 1)) t
  | 0 => rfl
  | t + 1 => by
    have h := tsum_shift f t
    simp only [tsum] at h ⊢
    omega
theorem B_tsum : ∀ (t : Nat) (e : Nat → Nat), tsum (fun j => Ch t j * e j) t = B t e
  | 0, e => by simp [tsum, Ch, B]
  | t + 1, e => by
    rw [tsum_shift]
    have h1 : tsum (fun j => Ch (t + 1) (j + 1) * e (j + 1)) t = tsum (fun j => Ch t j * e (j + 1)) t + tsum (fun j => Ch t (j + 1) * e (j + 1)) t := by
      rw [← tsum_add]
      exact tsum_congr t fun j _ => by simp only [Ch]; rw [Nat.add_mul]
    have h2 : tsum (fun j => Ch t j * e j) (t + 1) = Ch t 0 * e 0 + tsum (fun j => Ch t (j + 1) * e (j + 1)) t := tsum_shift _ t
    simp only [tsum] at h2
    rw [Ch_over t (t + 1) (by omega)] at h2
    have i1 := B_tsum t (fun u => e (u + 1))
    have i2 := B_tsum t e
    simp only [B]
    rw [h1, i1]
    rw [Ch_zero] at h2 ⊢
    omega
/-- What a seat's step of the reference comes to. -/
theorem step_is {m t : Nat} (ht : t ≤ m) (e : Nat → Nat) : tsum (fun j => Ch m j * e j * Ch (m - j) (t - j)) t = Ch m t * B t e := by
  rw [← B_tsum, ← tsum_mul]
  refine tsum_congr t fun j hj => ?_
  have h := Ch_swap hj ht
  calc Ch m j * e j * Ch (m - j) (t - j) = Ch m j * Ch (m - j) (t - j) * e j := by ac_rfl
    _ = Ch m t * (Ch t j * e j) := by rw [h]; ac_rfl
theorem B_le : ∀ (t : Nat) {e f : Nat → Nat}, (∀ u, u ≤ t → e u ≤ f u) → B t e ≤ B t f
  | 0, e, f, h => h 0 (Nat.le_refl _)
  | t + 1, e, f, h => by
    simp only [B]
    exact Nat.add_le_add (B_le t fun u hu => h (u + 1) (by omega)) (B_le t fun u hu => h u (by omega))
theorem B_scale (c : Nat) : ∀ (t : Nat) (e : Nat → Nat), B t (fun u => c * e u) = c * B t e
  | 0, e => rfl
  | t + 1, e => by
    simp only [B]
    rw [B_scale c t (fun u => e (u + 1)), B_scale c t e, Nat.mul_add]
theorem B_pow (x : Nat) : ∀ t, B t (fun u => x ^ u) = (x + 1) ^ t
  | 0 => by simp [B]
  | t + 1 => by
    simp only [B]
    have : (fun u => x ^ (u + 1)) = fun u => x * x ^ u := by funext u; rw [Nat.pow_succ, Nat.mul_comm]
    rw [this, B_scale, B_pow x t, Nat.pow_succ, Nat.mul_comm ((x + 1) ^ t), Nat.add_mul, Nat.one_mul]
theorem E_le (P : Nat → Bool) (n : Nat) : ∀ d t, E P n d t ≤ d ^ t
  | 0, t => by
    simp only [E]
    by_cases c : t = 0
    · subst c; simp
    · rw [if_neg c]; exact Nat.zero_le _
  | d + 1, t => by
    simp only [E]
    by_cases c : t ≤ room P n (d + 1)
    · rw [if_pos c, ← B_pow d t]
      exact B_le t fun u _ => E_le P n d u
    · rw [if_neg c]; exact Nat.zero_le _
end Cap
namespace Cap
/-- The sum of f s, .., f (s + d - 1). -/
def rs (f : Nat → Nat) : Nat → Nat → Nat
  | 0, _ => 0
  | d + 1, s => f s + rs f d (s + 1)
theorem rs_congr {f g : Nat → Nat} : ∀ d s, (∀ i, s ≤ i → i < s + d → f i = g i) → rs f d s = rs g d s
  | 0, _, _ => rfl
  | d + 1, s, h => by
    simp only [rs]
    rw [h s (by omega) (by omega), rs_congr d (s + 1) fun i h1 h2 => h i (by omega) (by omega)]
theorem rs_const (c : Nat) : ∀ d s, rs (fun _ => c) d s = d * c
  | 0, _ => by simp [rs]
  | d + 1, s => by simp only [rs]; rw [rs_const c d, Nat.add_mul, Nat.one_mul, Nat.add_comm]
theorem rs_ssum (f : Nat → Nat) (n : Nat) : ∀ d, d ≤ n → rs f d (n - d) = ssum (fun i => f (n - i)) d
  | 0, _ => rfl
  | d + 1, h => by
    simp only [rs, ssum]
    rw [show n - (d + 1) + 1 = n - d by omega, rs_ssum f n d (by omega)]
    omega
theorem room_len (P : Nat → Bool) (n : Nat) : ∀ d, d ≤ n → ((List.range' (n - d) d).filter fun i => !P i).length = room P n d
  | 0, _ => rfl
  | d + 1, h => by
    rw [List.range'_succ, List.filter_cons, show n - (d + 1) + 1 = n - d by omega]
    simp only [room]
    rw [← room_len P n d (by omega)]
    by_cases c : P (n - (d + 1)) = true
    · rw [if_neg (by simp [c]), if_pos c, Nat.add_zero]
    · rw [if_pos (by simpa using c), if_neg c, List.length_cons]
theorem room_all (P : Nat → Bool) (n : Nat) : (sel n fun i => !P i).length = room P n n := by
  have h := room_len P n n (Nat.le_refl _)
  rw [Nat.sub_self, ← List.range_eq_range'] at h
  rw [← h]
  simp [sel]
theorem E_zero (P : Nat → Bool) (n : Nat) : ∀ d, E P n d 0 = 1
  | 0 => rfl
  | d + 1 => by
    simp only [E]
    rw [if_pos (Nat.zero_le _)]
    exact E_zero P n d
theorem setP_add (P : Nat → Bool) (q : Nat) : addP P (q : Int) = setP P q := by
  funext i
  unfold addP setP
  congr 1
  exact decide_eq_decide.2 (by omega)
/-- In how many ways m more cars park, by the first car. -/
def AP (n : Nat) (ring : Bool) : Nat → (Nat → Bool) → Nat
  | 0, _ => 1
  | m + 1, P => rs (fun s => if 0 ≤ parkF n ring P s then AP n ring m (addP P (parkF n ring P s)) else 0) n 0
theorem ahead_line (n : Nat) (P : Nat → Bool) (p : Nat) : ∀ f d, d + f = n → aheadF n false P p f d = match ff P n (n - (p + d)) with | none => -1 | some q => (q : Int)
  | 0, d, h => by
    rw [show n - (p + d) = 0 by omega]
    rfl
  | f + 1, d, h => by
    rw [aheadF]
    by_cases c : n ≤ p + d
    · rw [if_pos ⟨rfl, c⟩, show n - (p + d) = 0 by omega]
      rfl
    · rw [if_neg (by omega), Nat.mod_eq_of_lt (by omega), show n - (p + d) = (n - (p + (d + 1))) + 1 by omega]
      simp only [ff]
      rw [show n - (n - (p + (d + 1)) + 1) = p + d by omega]
      by_cases c2 : P (p + d) = true
      · rw [if_pos c2, if_pos c2, ahead_line n P p f (d + 1) (by omega)]
      · rw [if_neg c2, if_neg c2]
theorem park_line (n : Nat) (P : Nat → Bool) (p : Nat) (hp : p < n) : parkF n false P p = match ff P n (n - p) with | none => -1 | some q => (q : Int) := by
  unfold parkF
  by_cases c : P p = true
  · rw [if_pos c]
    exact ahead_line n P p n 0 (by omega)
  · rw [if_neg c, show n - p = (n - (p + 1)) + 1 by omega]
    simp only [ff]
    rw [show n - (n - (p + 1) + 1) = p by omega, if_neg c]
theorem AP_line (n : Nat) : ∀ m P, AP n false m P = E P n n m
  | 0, P => by rw [E_zero]; rfl
  | m + 1, P => by
    rw [E_car n m (Nat.le_refl _)]
    simp only [AP]
    have h := rs_ssum (fun s => if 0 ≤ parkF n false P s then AP n false m (addP P (parkF n false P s)) else 0) n n (Nat.le_refl _)
    rw [Nat.sub_self] at h
    rw [h]
    refine ssum_congr n fun i i1 i2 => ?_
    rw [park_line n P (n - i) (by omega), show n - (n - i) = i by omega]
    cases e : ff P n i with
    | none =>
      show (if (0 : Int) ≤ -1 then AP n false m (addP P (-1)) else 0) = 0
      exact if_neg (by omega)
    | some q =>
      show (if (0 : Int) ≤ (q : Int) then AP n false m (addP P (q : Int)) else 0) = E (setP P q) n n m
      rw [if_pos (by omega), AP_line n m, setP_add]
theorem ahead_ring (n : Nat) (hn : 0 < n) (P : Nat → Bool) (p : Nat) : ∀ f d, (aheadF n true P p f d = -1 ∧ ∀ i, d ≤ i → i < d + f → P ((p + i) % n) = true) ∨ ∃ q : Nat, aheadF n true P p f d = (q : Int) ∧ q < n ∧ P q = false
  | 0, d => .inl ⟨rfl, fun i h1 h2 => by omega⟩
  | f + 1, d => by
    rw [aheadF, if_neg (by simp)]
    by_cases c : P ((p + d) % n) = true
    · rw [if_pos c]
      rcases ahead_ring n hn P p f (d + 1) with ⟨h1, h2⟩ | h
      · refine .inl ⟨h1, fun i i1 i2 => ?_⟩
        by_cases e : i = d
        · subst e; exact c
        · exact h2 i (by omega) (by omega)
      · exact .inr h
    · rw [if_neg c]
      exact .inr ⟨_, rfl, Nat.mod_lt _ hn, by simpa using c⟩
theorem full_room {P : Nat → Bool} {n : Nat} : ∀ d, d ≤ n → (∀ i, i < n → P i = true) → room P n d = 0
  | 0, _, _ => rfl
  | d + 1, h, hP => by
    simp only [room]
    rw [full_room d (by omega) hP, if_pos (hP _ (by omega))]
theorem park_ring (n : Nat) (P : Nat → Bool) (p : Nat) (hp : p < n) : (parkF n true P p = -1 ∧ room P n n = 0) ∨ ∃ q : Nat, parkF n true P p = (q : Int) ∧ q < n ∧ P q = false := by
  unfold parkF
  by_cases c : P p = true
  · rw [if_pos c]
    rcases ahead_ring n (by omega) P p n 0 with ⟨h1, h2⟩ | h
    · refine .inl ⟨h1, full_room n (Nat.le_refl _) fun i hi => ?_⟩
      have h3 := h2 ((i + n - p) % n) (Nat.zero_le _) (by rw [Nat.zero_add]; exact Nat.mod_lt _ (by omega))
      rw [Nat.add_mod_mod, show p + (i + n - p) = i + n by omega, Nat.add_mod_right, Nat.mod_eq_of_lt hi] at h3
      exact h3
    · exact .inr h
  · rw [if_neg c]
    exact .inr ⟨p, rfl, hp, by simpa using c⟩
theorem AP_ring (n : Nat) : ∀ m P, AP n true m P = if m ≤ room P n n then n ^ m else 0
  | 0, P => by simp [AP]
  | m + 1, P => by
    simp only [AP]
    by_cases c : room P n n = 0
    · rw [if_neg (by omega), rs_congr (g := fun _ => 0) n 0 fun i i1 i2 => ?_, rs_const]
      · rfl
      · rcases park_ring n P i (by omega) with ⟨h1, _⟩ | ⟨q, h1, h2, h3⟩
        · rw [h1]; rfl
        · have := room_set h3 n (Nat.le_refl _) (by omega) h2
          omega
    · rw [rs_congr (g := fun _ => if m + 1 ≤ room P n n then n ^ m else 0) n 0 fun i i1 i2 => ?_, rs_const]
      · by_cases h : m + 1 ≤ room P n n
        · rw [if_pos h, if_pos h, Nat.pow_succ, Nat.mul_comm]
        · rw [if_neg h, if_neg h, Nat.mul_zero]
      · rcases park_ring n P i (by omega) with ⟨_, h1⟩ | ⟨q, h1, h2, h3⟩
        · exact absurd h1 c
        · have hs := room_set h3 n (Nat.le_refl _) (by omega) h2
          rw [h1, if_pos (by omega), setP_add, AP_ring n m]
          by_cases h : m + 1 ≤ room P n n
          · rw [if_pos h, if_pos (by omega)]
          · rw [if_neg h, if_neg (by omega)]
end Cap
open Cap
theorem ev_seatSum {F : Nat → Int → Option Int} (g : Nat → Nat) : ∀ (d s : Nat), (∀ i : Nat, s ≤ i → i < s + d → Ev (fun k => F k (i : Int)) ((g i : Nat) : Int)) → Ev (fun k => seatSum (F k) d (s : Int)) ((rs g d s : Nat) : Int)
  | 0, s, _ => by
    simp only [seatSum]
    exact evs _
  | d + 1, s, h => by
    have ih := ev_seatSum (F := F) g d (s + 1) fun i h1 h2 => h i (by omega) (by omega)
    simp only [seatSum]
    refine evb (h s (by omega) (by omega)) (evb (f := fun _ y => some (((g s : Nat) : Int) + y)) (a := ((rs g d (s + 1) : Nat) : Int)) ?_ (eve (evs _) ?_))
    · exact ih
    · simp only [rs]; omega
theorem ev_parkA {n : Nat} {ring : Bool} (hn : n ≤ 32) : ∀ m P, Ev (fun k => parkA k (n : Int) ring m (M P : Int)) ((AP n ring m P : Nat) : Int)
  | 0, P => by
    simp only [parkA, AP]
    exact evs _
  | m + 1, P => by
    simp only [parkA, AP]
    rw [Int.toNat_natCast]
    refine ev_seatSum (F := fun k s => seatF k (n : Int) ring (parkA k (n : Int) ring m) (M P : Int) s) _ n 0 fun i h1 h2 => ?_
    unfold seatF
    have hb := parkF_bd (ring := ring) (P := P) (p := i) (m := n) (by omega)
    refine evb (ev_park0 n ring P i hn (by omega)) ?_
    by_cases c : 0 ≤ parkF n ring P i
    · obtain ⟨q, hq⟩ : ∃ q : Nat, parkF n ring P i = (q : Int) := ⟨(parkF n ring P i).toNat, by omega⟩
      rw [hq] at hb ⊢
      rw [if_pos (by omega : (0 : Int) ≤ (q : Int))]
      rw [addP_M (by omega)]
      have hlt := M_lt (addP P (q : Int))
      exact evp (by omega) (evp ⟨by omega, by omega⟩ (ev_parkA hn m (addP P (q : Int))))
    · rw [if_neg c]
      exact evn (by omega) (evs _)
theorem ev_choose (N K : Nat) (hK : K ≤ N) (hN : N ≤ 12) : Ev (fun k => spec_l6Choose.f k (N : Int) (K : Int)) ((Ch N K : Nat) : Int) := by
  have loop : ∀ d i : Nat, i + d = K → Ev (fun k => spec_l6Choose.l0 k (N : Int) (K : Int) ((Ch N i : Nat) : Int) (i : Int)) ((Ch N K : Nat) : Int) := by
    intro d
    induction d with
    | zero =>
      intro i h
      obtain rfl : i = K := by omega
      apply evshift
      simp only [spec_l6Choose.l0]
      exact evn (by omega) (evs _)
    | succ d ih =>
      intro i h
      have h1 := Ch_next (n := N) (k := i) (by omega)
      have h2 : Ch N i ≤ 4096 := Nat.le_trans (Ch_le N i) (by have : 2 ^ N ≤ 2 ^ 12 := Nat.pow_le_pow_right (by omega) hN; have e : 2 ^ 12 = 4096 := (by decide); omega)
      have h3 : Ch N i * (N - i) ≤ 4096 * 12 := Nat.mul_le_mul h2 (by omega)
      have h4 : ((Ch N i : Nat) : Int) * ((N : Int) - (i : Int)) = ((Ch N (i + 1) * (i + 1) : Nat) : Int) := by
        rw [← h1, show ((N : Int) - (i : Int)) = ((N - i : Nat) : Int) by omega, Int.natCast_mul]
      have h5 : Int.tdiv ((Ch N (i + 1) * (i + 1) : Nat) : Int) ((i + 1 : Nat) : Int) = ((Ch N (i + 1) : Nat) : Int) := by
        rw [← Int.ofNat_tdiv, Nat.mul_div_cancel _ (by omega)]
      have h6 : Ch N (i + 1) * (i + 1) ≤ 49152 := by rw [← h1]; exact h3
      have h7 : Ch N (i + 1) ≤ Ch N (i + 1) * (i + 1) := Nat.le_mul_of_pos_right _ (by omega)
      generalize Ch N (i + 1) * (i + 1) = z at h4 h5 h6 h7
      apply evshift
      simp only [spec_l6Choose.l0]
      refine evp (by omega) (evn ?_ ?_)
      · rw [wnext i (by omega)]; omega
      · rw [w64 (x := (N : Int) - (i : Int)) (by omega) (by omega), h4, w64 (x := (z : Int)) (by omega) (by omega), wnext i (by omega), h5, w64 (x := ((Ch N (i + 1) : Nat) : Int)) (by omega) (by omega)]
        exact ih (i + 1) (by omega)
  unfold spec_l6Choose.f
  have := loop K 0 (by omega)
  rwa [Ch_zero] at this
theorem ev_power (n m : Nat) (hn : n ≤ 12) (hm : m ≤ 12) : Ev (fun k => spec_l6Power.f k (n : Int) (m : Int)) ((n ^ m : Nat) : Int) := by
  have loop : ∀ d i : Nat, i + d = m → Ev (fun k => spec_l6Power.l0 k (n : Int) (m : Int) ((n ^ i : Nat) : Int) (i : Int)) ((n ^ m : Nat) : Int) := by
    intro d
    induction d with
    | zero =>
      intro i h
      obtain rfl : i = m := by omega
      apply evshift
      simp only [spec_l6Power.l0]
      exact evn (by omega) (evs _)
    | succ d ih =>
      intro i h
      have h1 : n ^ (i + 1) ≤ 12 ^ 12 := Nat.le_trans (Nat.pow_le_pow_left hn _) (Nat.pow_le_pow_right (by omega) (by omega))
      have e : 12 ^ 12 = 8916100448256 := by decide
      have h2 : ((n ^ i : Nat) : Int) * (n : Int) = ((n ^ (i + 1) : Nat) : Int) := by rw [Nat.pow_succ, Int.natCast_mul]
      apply evshift
      simp only [spec_l6Power.l0]
      rw [h2, w64 (by omega) (by omega), wnext i (by omega)]
      exact evp (by omega) (ih (i + 1) (by omega))
  unfold spec_l6Power.f
  have := loop m 0 (by omega)
  rwa [Nat.pow_zero] at this
namespace Cap
def us (f : Nat → Nat) : Nat → Nat
  | 0 => 0
  | j + 1 => us f j + f j
theorem us_le (f : Nat → Nat) {i : Nat} : ∀ j, i ≤ j → us f i ≤ us f j
  | 0, h => by
    obtain rfl : i = 0 := by omega
    exact Nat.le_refl _
  | j + 1, h => by
    by_cases e : i = j + 1
    · subst e; exact Nat.le_refl _
    · have := us_le f (i := i) j (by omega)
      simp only [us]
      omega
theorem us_tsum (f : Nat → Nat) (t : Nat) : ∀ j, us (fun i => if i ≤ t then f i else 0) j = if j ≤ t then us f j else tsum f t
  | 0 => by rw [if_pos (Nat.zero_le _)]; rfl
  | j + 1 => by
    simp only [us]
    rw [us_tsum f t j]
    by_cases c : j + 1 ≤ t
    · rw [if_pos (by omega), if_pos (by omega), if_pos c]
    · rw [if_neg c]
      by_cases c2 : j ≤ t
      · obtain rfl : j = t := by omega
        rw [if_pos c2, if_pos c2]
        have : ∀ j, us f j + f j = tsum f j := by
          intro j
          induction j with
          | zero => simp [us, tsum]
          | succ j ih => simp only [us, tsum]; rw [ih]
        exact this j
      · rw [if_neg c2, if_neg c2, Nat.add_zero]
/-- The next ways, if the first j are done. -/
def nx (M : Nat) (W : Nat → Nat) (R j t : Nat) : Nat := if t ≤ R then us (fun i => if i ≤ t then W i * Ch (M - i) (t - i) else 0) j else 0
def nk (M : Nat) (W : Nat → Nat) (R j k t : Nat) : Nat := nx M W R j t + (if j ≤ t ∧ t < j + k ∧ t ≤ R then W j * Ch (M - j) (t - j) else 0)
structure RN (M : Nat) (L : List Int) (f : Nat → Nat) : Prop where
  len : L.length = M + 1
  at_ : ∀ t : Nat, t ≤ M → rd L (t : Int) = ((f t : Nat) : Int)
theorem RN.to {M : Nat} {L : List Int} {f g : Nat → Nat} (h : RN M L f) (hg : ∀ t, t ≤ M → f t = g t) : RN M L g := ⟨h.len, fun t ht => by rw [h.at_ t ht, hg t ht]⟩
theorem RN.set {M : Nat} {L : List Int} {f g : Nat → Nat} (h : RN M L f) {i : Nat} (hi : i ≤ M) (h1 : ∀ t, t ≤ M → t ≠ i → g t = f t) : RN M (L.set i ((g i : Nat) : Int)) g := by
  have hl := h.len
  refine ⟨by rw [List.length_set]; exact hl, fun t ht => ?_⟩
  by_cases e : t = i
  · subst e
    rw [rd_lt (by rw [List.length_set]; omega)]
    simp
  · rw [rd_lt (by rw [List.length_set]; omega), List.getElem_set_ne (by omega), ← rd_lt (by omega), h.at_ t ht, h1 t ht e]
theorem nx_all {M t : Nat} (ht : t ≤ M) (e : Nat → Nat) (R : Nat) : nx M (fun i => Ch M i * e i) R (M + 1) t = if t ≤ R then Ch M t * B t e else 0 := by
  unfold nx
  by_cases c : t ≤ R
  · rw [if_pos c, if_pos c, us_tsum (fun i => Ch M i * e i * Ch (M - i) (t - i)) t (M + 1), if_neg (by omega), step_is ht]
  · rw [if_neg c, if_neg c]
theorem nx_bound {M t j : Nat} (hj : j ≤ M) (h1 : j ≤ t) (ht : t ≤ M) (e : Nat → Nat) {R : Nat} (hR : t ≤ R) : nx M (fun i => Ch M i * e i) R j t + Ch M j * e j * Ch (M - j) (t - j) ≤ Ch M t * B t e := by
  have h2 := nx_all ht e R
  rw [if_pos hR] at h2
  rw [← h2]
  unfold nx
  rw [if_pos hR, if_pos hR]
  have h3 := us_le (fun i => if i ≤ t then Ch M i * e i * Ch (M - i) (t - i) else 0) (i := j + 1) (M + 1) (by omega)
  simp only [us] at h3 ⊢
  rw [if_pos h1] at h3
  exact h3
end Cap
theorem pow_b {M t : Nat} (ht : t ≤ M) (hM : M ≤ 12) (P : Nat → Bool) (n d : Nat) (hd : d + 1 ≤ 12) : Ch M t * B t (E P n d) ≤ 36520347436056576 := by
  have h1 : Ch M t ≤ 4096 := by
    have h := Ch_le M t
    have h2 : 2 ^ M ≤ 2 ^ 12 := Nat.pow_le_pow_right (by omega) hM
    have e : 2 ^ 12 = 4096 := by decide
    omega
  have h2 : B t (E P n d) ≤ 12 ^ 12 := by
    have h3 : B t (E P n d) ≤ (d + 1) ^ t := by
      rw [← B_pow d t]
      exact B_le t fun u _ => E_le P n d u
    exact Nat.le_trans h3 (Nat.le_trans (Nat.pow_le_pow_left hd _) (Nat.pow_le_pow_right (by omega) (by omega)))
  have h3 := Nat.mul_le_mul h1 h2
  have e : 4096 * 12 ^ 12 = 36520347436056576 := by decide
  omega
section
variable {n M : Nat} {P : Nat → Bool} {l : List Int}
theorem dp_inner (hn : n ≤ 12) (hM : M ≤ 12) {d R j : Nat} (hd : d + 1 ≤ n) (hR : R ≤ 12) (hj : j ≤ M) {Wl : List Int} (hW : RN M Wl fun t => Ch M t * E P n d t) (p : Int) (res : Int × Bool) : ∀ (e k : Nat) (X : List Int), j + k + e = M + 1 → RN M X (nk M (fun t => Ch M t * E P n d t) R j k) → (∀ i, i < k → j + i ≤ R) →
    (∀ X', RN M X' (nx M (fun t => Ch M t * E P n d t) R (j + 1)) → Ev (fun q => spec_CountAllPark.l1 q (M : Int) Wl (R : Int) p X' ((j + 1 : Nat) : Int) (n : Int) false l) res) →
    Ev (fun q => spec_CountAllPark.l2 q (M : Int) Wl (R : Int) p X (j : Int) (k : Int) (n : Int) false l) res := by
  have stop : ∀ (k : Nat) (X : List Int), (M < j + k ∨ R < j + k) → RN M X (nk M (fun t => Ch M t * E P n d t) R j k) → RN M X (nx M (fun t => Ch M t * E P n d t) R (j + 1)) := by
    intro k X hs hX
    refine hX.to fun t ht => ?_
    unfold nk nx
    by_cases c : t ≤ R
    · rw [if_pos c, if_pos c]
      simp only [us]
      by_cases c2 : j ≤ t
      · rw [if_pos ⟨c2, by omega, c⟩, if_pos c2]
      · rw [if_neg (by omega), if_neg c2]
    · rw [if_neg c, if_neg (by omega), if_neg c]
  intro e
  induction e with
  | zero =>
    intro k X h hX _ hE
    apply evshift
    simp only [spec_CountAllPark.l2]
    rw [w64 (x := (j : Int) + (k : Int)) (by omega) (by omega), wnext j (by omega)]
    exact evn (by omega) (hE X (stop k X (by omega) hX))
  | succ e ih =>
    intro k X h hX hk hE
    apply evshift
    simp only [spec_CountAllPark.l2]
    rw [w64 (x := (j : Int) + (k : Int)) (by omega) (by omega), wnext j (by omega)]
    refine evp (by omega) ?_
    by_cases c : j + k ≤ R
    · have hXl := hX.len
      have hWl := hW.len
      have hb := nx_bound (M := M) (t := j + k) hj (by omega) (by omega) (E P n d) c
      have hb2 := pow_b (M := M) (t := j + k) (by omega) hM P n d (by omega)
      rw [Nat.add_sub_cancel_left] at hb
      have hr : rd X ((j : Int) + (k : Int)) = ((nx M (fun t => Ch M t * E P n d t) R j (j + k) : Nat) : Int) := by
        have h1 := hX.at_ (j + k) (by omega)
        rw [show (((j + k : Nat)) : Int) = (j : Int) + (k : Int) by omega] at h1
        rw [h1]
        unfold nk
        rw [if_neg (by omega), Nat.add_zero]
      have hw : rd Wl (j : Int) * ((Ch (M - j) k : Nat) : Int) = ((Ch M j * E P n d j * Ch (M - j) k : Nat) : Int) := by rw [hW.at_ j hj, ← Int.natCast_mul]
      refine evp (by omega) (evp (by omega) (evp (by omega) (evp (by omega) (evp (by omega) (evb (a := ((Ch (M - j) k : Nat) : Int)) ?_ ?_)))))
      · rw [w64 (x := (M : Int) - (j : Int)) (by omega) (by omega), show (M : Int) - (j : Int) = ((M - j : Nat) : Int) by omega]
        exact ev_choose (M - j) k (by omega) (by omega)
      · rw [hr, hw, wnext k (by omega)]
        generalize hz : Ch M j * E P n d j * Ch (M - j) k = z at hb hw
        rw [w64 (x := (z : Int)) (by omega) (by omega), w64 (x := ((nx M (fun t => Ch M t * E P n d t) R j (j + k) : Nat) : Int) + (z : Int)) (by omega) (by omega)]
        have hg : ((nx M (fun t => Ch M t * E P n d t) R j (j + k) : Nat) : Int) + (z : Int) = ((nk M (fun t => Ch M t * E P n d t) R j (k + 1) (j + k) : Nat) : Int) := by
          unfold nk
          rw [if_pos (by omega), Nat.add_sub_cancel_left, hz, Int.natCast_add]
        rw [hg, show ((j : Int) + (k : Int)).toNat = j + k by omega]
        refine ih (k + 1) _ (by omega) (hX.set (g := nk M (fun t => Ch M t * E P n d t) R j (k + 1)) (by omega) fun t ht hne => ?_) (fun i hi => by omega) hE
        unfold nk
        by_cases c1 : j ≤ t ∧ t < j + k ∧ t ≤ R
        · rw [if_pos c1, if_pos (by omega)]
        · rw [if_neg c1, if_neg (by omega)]
    · exact evn (by omega) (hE X (stop k X (by omega) hX))
theorem dp_outer (hn : n ≤ 12) (hM : M ≤ 12) {d R : Nat} (hd : d + 1 ≤ n) (hR : R ≤ 12) {Wl : List Int} (hW : RN M Wl fun t => Ch M t * E P n d t) (p : Int) (res : Int × Bool)
    (hE : ∀ X', RN M X' (nx M (fun t => Ch M t * E P n d t) R (M + 1)) → Ev (fun q => spec_CountAllPark.l0 q (M : Int) X' (R : Int) (wrap64 (p - 1)) (n : Int) false l) res) : ∀ (e j : Nat) (X : List Int), j + e = M + 1 → RN M X (nx M (fun t => Ch M t * E P n d t) R j) →
    Ev (fun q => spec_CountAllPark.l1 q (M : Int) Wl (R : Int) p X (j : Int) (n : Int) false l) res
  | 0, j, X, h, hX => by
    obtain rfl : j = M + 1 := by omega
    apply evshift
    simp only [spec_CountAllPark.l1]
    exact evn (by omega) (hE X hX)
  | e + 1, j, X, h, hX => by
    apply evshift
    simp only [spec_CountAllPark.l1]
    refine evp (by omega) ?_
    refine dp_inner hn hM hd hR (by omega) hW p res (M + 1 - j) 0 X (by omega) (hX.to fun t ht => ?_) (fun i hi => by omega) fun X' hX' => dp_outer hn hM hd hR hW p res hE e (j + 1) X' (by omega) hX'
    unfold nk
    rw [if_neg (by omega), Nat.add_zero]
end
theorem room_le (P : Nat → Bool) (n : Nat) : ∀ d, room P n d ≤ d
  | 0 => Nat.le_refl _
  | d + 1 => by
    have := room_le P n d
    simp only [room]
    split <;> omega
theorem dp_all {n M : Nat} {l : List Int} (hn : n ≤ 12) (hM : M ≤ 12) (hl : l.length ≤ 1048576) : ∀ (e d : Nat) (Wl : List Int), d + e = n → RN M Wl (fun t => Ch M t * E (fun i => decide ((i : Int) ∈ l)) n d t) →
    Ev (fun q => spec_CountAllPark.l0 q (M : Int) Wl ((room (fun i => decide ((i : Int) ∈ l)) n d : Nat) : Int) ((n : Int) - (d : Int) - 1) (n : Int) false l) (((E (fun i => decide ((i : Int) ∈ l)) n n M : Nat) : Int), true)
  | 0, d, Wl, h, hW => by
    obtain rfl : d = n := by omega
    have hWl := hW.len
    apply evshift
    simp only [spec_CountAllPark.l0]
    refine evn (by omega) (evp (by omega) (evp (by omega) (eve (evs _) ?_)))
    rw [hW.at_ M (Nat.le_refl _), Ch_self, Nat.one_mul]
  | e + 1, d, Wl, h, hW => by
    have hr := room_le (fun i => decide ((i : Int) ∈ l)) n d
    have hx : (n : Int) - (d : Int) - 1 = ((n - (d + 1) : Nat) : Int) := by omega
    have hw1 : wrap64 ((M : Int) + 1) = ((M + 1 : Nat) : Int) := wnext M (by omega)
    have hrep : RN M (List.replicate (M + 1) 0) (nx M (fun t => Ch M t * E (fun i => decide ((i : Int) ∈ l)) n d t) (room (fun i => decide ((i : Int) ∈ l)) n (d + 1)) 0) := by
      refine ⟨by simp, fun t ht => ?_⟩
      rw [rd_lt (by simp; omega)]
      unfold nx
      simp [us]
    have go : Ev (fun q => spec_CountAllPark.j2 q (M : Int) Wl ((room (fun i => decide ((i : Int) ∈ l)) n (d + 1) : Nat) : Int) ((n : Int) - (d : Int) - 1) (n : Int) false l) (((E (fun i => decide ((i : Int) ∈ l)) n n M : Nat) : Int), true) := by
      apply evshift
      simp only [spec_CountAllPark.j2]
      rw [hw1, Int.toNat_natCast]
      refine evp (by omega) (evp (by omega) ?_)
      have hr1 := room_le (fun i => decide ((i : Int) ∈ l)) n (d + 1)
      refine dp_outer (l := l) hn hM (d := d) (by omega) (R := room (fun i => decide ((i : Int) ∈ l)) n (d + 1)) (by omega) hW ((n : Int) - (d : Int) - 1) _ (fun X' hX' => ?_) (M + 1) 0 _ (by omega) hrep
      have ih := dp_all (l := l) hn hM hl e (d + 1) X' (by omega) (hX'.to fun t ht => by
        rw [nx_all ht]
        simp only [E]
        split <;> simp)
      rw [w64 (x := (n : Int) - (d : Int) - 1 - 1) (by omega) (by omega)]
      rwa [show (n : Int) - ((d + 1 : Nat) : Int) - 1 = (n : Int) - (d : Int) - 1 - 1 by omega] at ih
    apply evshift
    simp only [spec_CountAllPark.l0]
    refine evp (by omega) (evb (ev_l2Is (n : Int) false l _ hl) ?_)
    rw [hx] at go ⊢
    by_cases c : ((n - (d + 1) : Nat) : Int) ∈ l
    · have e1 : room (fun i => decide ((i : Int) ∈ l)) n (d + 1) = room (fun i => decide ((i : Int) ∈ l)) n d := by simp only [room]; rw [if_pos (by simpa using c), Nat.add_zero]
      rw [e1] at go
      exact evp (by simpa using c) go
    · have e1 : room (fun i => decide ((i : Int) ∈ l)) n (d + 1) = room (fun i => decide ((i : Int) ∈ l)) n d + 1 := by simp only [room]; rw [if_neg (by simpa using c)]
      rw [e1] at go
      rw [wnext _ (by omega)]
      exact evn (by simpa using c) go
theorem bothCountAllPark (n : Int) (ring : Bool) (l : List Int) (a : Int) (hl : l.length ≤ 1048576) : ∃ r ok, Ev (fun k => spec_CountAllPark.f k n ring l a) (r, ok) ∧ Ev (fun k => impl_CountAllPark.f k n ring l a) (r, ok) := by
  have hS := ev_l2Row n ring l hl
  have hI := ev_isRow n ring l hl
  unfold spec_CountAllPark.f impl_CountAllPark.f
  cases hB : rowB n ring l with
  | false =>
    rw [hB] at hS hI
    refine ⟨0, false, evb hS (evn (by simp) ?_), evb hI (evn (by simp) (evs _))⟩
    apply evshift
    simp only [spec_CountAllPark.j0]
    first | exact evp rfl (evs _) | exact evp trivial (evs _)
  | true =>
    rw [hB] at hS hI
    have ok := rowB_ok hB
    obtain ⟨N, rfl⟩ : ∃ N : Nat, n = N := ⟨n.toNat, by have := ok.lo; omega⟩
    have hN24 := ok.hi
    by_cases h12 : (N : Int) > 12
    · refine ⟨0, false, evb hS (evp rfl (evp h12 ?_)), evb hI (evp rfl (evp h12 (evs _)))⟩
      apply evshift
      simp only [spec_CountAllPark.j0]
      first | exact evp rfl (evs _) | exact evp trivial (evs _)
    by_cases ha : 0 ≤ a ∧ a ≤ 12
    · obtain ⟨M', rfl⟩ : ∃ N : Nat, a = N := ⟨a.toNat, by omega⟩
      have hT := ev_taken (N : Int) ring l (fun x hx => by have := ok.mem x hx; omega) hl
      have hA := ev_parkA (n := N) (ring := ring) (by omega) M' (fun i => decide ((i : Int) ∈ l))
      have hlt := M_lt (fun i => decide ((i : Int) ∈ l))
      refine ⟨((AP N ring M' (fun i => decide ((i : Int) ∈ l)) : Nat) : Int), true, evb hS (evp rfl (evn h12 (evc (in_spec _ _ _) ?_))), evb hI (evp rfl (evn h12 (evc (in_impl _ _ _) (evp (by simpa using ha) (evb hT (evp ⟨by omega, by omega, by omega⟩ (evb ?_ (evs _))))))))⟩
      · rw [decide_eq_true ha]
        apply evshift
        simp only [spec_CountAllPark.j0]
        refine evn (by simp) (evb (ev_l2Free N ring l hl (by omega)) ?_)
        have hrm := room_all (fun i => decide ((i : Int) ∈ l)) N
        rw [hrm]
        have hw1 : wrap64 ((M' : Int) + 1) = ((M' + 1 : Nat) : Int) := wnext M' (by omega)
        cases ring with
        | true =>
          rw [AP_ring]
          by_cases c : M' ≤ room (fun i => decide ((i : Int) ∈ l)) N N
          · rw [if_pos c]
            exact evn (by omega) (evp rfl (evb (ev_power N M' (by omega) (by omega)) (evs _)))
          · rw [if_neg c]
            exact evp (by omega) (evs _)
        | false =>
          rw [AP_line]
          by_cases c : M' ≤ room (fun i => decide ((i : Int) ∈ l)) N N
          · rw [hw1, Int.toNat_natCast]
            refine evn (by omega) (evn (by simp) (evp (by omega) (evp (by omega) ?_)))
            simp only [Option.bind_some]
            refine evp (by simp) ?_
            have h := dp_all (l := l) (n := N) (M := M') (by omega) (by omega) hl N 0 ((List.replicate (M' + 1) 0).set (0 : Int).toNat 1) (by omega) ⟨by simp, fun t ht => by
              rw [rd_lt (by simp; omega)]
              cases t with
              | zero => simp [E, Ch_zero]
              | succ t => simp [E]⟩
            rw [w64 (x := (N : Int) - 1) (by omega) (by omega)]
            rwa [show (N : Int) - ((0 : Nat) : Int) - 1 = (N : Int) - 1 by omega] at h
          · have hE : E (fun i => decide ((i : Int) ∈ l)) N N M' = 0 := by
              obtain ⟨q, rfl⟩ : ∃ q, N = q + 1 := ⟨N - 1, by have := ok.lo; omega⟩
              simp only [E]
              rw [if_neg c]
            rw [hE]
            exact evp (by omega) (evs _)
      · rw [Int.toNat_natCast]
        exact hA
    · refine ⟨0, false, evb hS (evp rfl (evn h12 (evc (in_spec _ _ _) ?_))), evb hI (evp rfl (evn h12 (evc (in_impl _ _ _) (evn (by simpa using ha) (evs _)))))⟩
      rw [decide_eq_false ha]
      apply evshift
      simp only [spec_CountAllPark.j0]
      first | exact evp rfl (evs _) | exact evp trivial (evs _)
theorem FnExactCountAllPark : laws_FnExactCountAllPark.Pure := by
  intro n ring l a _ hm _ _
  refine Ev.rounds (g := fun k => laws_FnExactCountAllPark.f k n ring l a) ?_
  unfold laws_FnExactCountAllPark.f
  by_cases hl : l.length ≤ 1048576
  · obtain ⟨r, ok, hS, hI⟩ := bothCountAllPark n ring l a hl
    refine evc (szRow_ok (by omega) (by omega)) ?_
    repeat (first
      | exact evs true
      | (with_reducible refine evb hS ?_)
      | (with_reducible refine evb hI ?_)
      | (with_reducible refine evb (ev_toIntS _ (by assumption)) ?_)
      | (with_reducible refine evb (ev_toRow _ _ _ (by assumption)) ?_)
      | (with_reducible refine evb (ev_eqIntS _ (by assumption)) ?_)
      | (with_reducible refine evb (ev_eqRow _ _ _ (by assumption)) ?_)
      | (with_reducible show Ev (fun k => laws_FnExactCountAllPark.j0 k _ _ _ _ _ _ _) _; apply evshift; simp only [laws_FnExactCountAllPark.j0])
      | (refine evp ?hc ?_; (case hc => first | omega | (simp; done)))
      | (refine evn ?hc ?_; (case hc => first | omega | (simp; done)))
      | dsimp only)
  · exact evc (szRow_big (by omega) hm) (evp (by omega) (evs _))

end Go.Proofs.Ytjbegmeibbpnmaa.Pure
