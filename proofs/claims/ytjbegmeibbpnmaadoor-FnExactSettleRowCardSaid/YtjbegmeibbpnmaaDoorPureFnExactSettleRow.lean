/- The law laws.FnExactSettleRow, told as plain Lean functions of numbers, lists and strings, answers true for every input, if enough rounds are given: the program's SettleRow answers what the reference's answers. Conditions: none but the kinds' own (each number one of its kind, each length one that the model reads). -/
import Derived.Test.YtjbegmeibbpnmaaDoorPFnExactSettleRowx11
import Derived.Test.YtjbegmeibbpnmaaDoorSFnExactSettleRow
namespace Go.Proofs.YtjbegmeibbpnmaaDoor.Pure
open Go.RowKit Go.Proofs.YtjbegmeibbpnmaaDoor.PFnExactSettleRow Go.Proofs.YtjbegmeibbpnmaaDoorW.PrintWords Go.Proofs.YtjbegmeibbpnmaaDoorW.PrintLast Go.Proofs.YtjbegmeibbpnmaaDoorW.PrintMore Go.Proofs.YtjbegmeibbpnmaaDoor.Base

/-- How far the nearest one of l is from p. -/
def farF (n : Int) (ring : Bool) (l : List Int) (p : Int) : Int := if l.length = 0 then n else (nearF n ring p l l.length 0 (-1) (-1)).2
/-- The values of F at 0, 1, .., n - 1. -/
def listF (F : Int → Int) (n : Nat) : List Int := (List.range n).map fun i => F ((i : Nat) : Int)
theorem listF_len (F : Int → Int) (n : Nat) : (listF F n).length = n := by simp [listF]
theorem listF_succ (F : Int → Int) (n : Nat) : listF F (n + 1) = listF F n ++ [F (n : Int)] := by simp [listF, List.range_succ]
/-- The first free seat from p on, d behind it first: f of them are looked at. -/
def aheadF (m : Nat) (ring : Bool) (P : Nat → Bool) (p : Nat) : Nat → Nat → Int
  | 0, _ => -1
  | f + 1, d => if ring = false ∧ m ≤ p + d then -1 else if P ((p + d) % m) = true then aheadF m ring P p f (d + 1) else (((p + d) % m : Nat) : Int)
def parkF (m : Nat) (ring : Bool) (P : Nat → Bool) (p : Nat) : Int := if P p = true then aheadF m ring P p m 0 else (p : Int)
theorem aheadF_bd {m : Nat} {ring : Bool} {P : Nat → Bool} {p : Nat} (hm : 0 < m) : ∀ f d, -1 ≤ aheadF m ring P p f d ∧ aheadF m ring P p f d < (m : Int)
  | 0, d => by unfold aheadF; omega
  | f + 1, d => by
    have := aheadF_bd (ring := ring) (P := P) (p := p) hm f (d + 1)
    have := Nat.mod_lt (p + d) hm
    unfold aheadF
    split
    · omega
    · split <;> omega
theorem parkF_bd {m : Nat} {ring : Bool} {P : Nat → Bool} {p : Nat} (hp : p < m) : -1 ≤ parkF m ring P p ∧ parkF m ring P p < (m : Int) := by
  have := aheadF_bd (ring := ring) (P := P) (p := p) (show 0 < m by omega) m 0
  unfold parkF
  split <;> omega
theorem aheadF_one {m : Nat} {ring : Bool} {P : Nat → Bool} {p : Nat} (hp : p < m) (h : P p = true) : aheadF m ring P p m 0 = aheadF m ring P p (m - 1) 1 := by
  obtain ⟨f, rfl⟩ : ∃ f, m = f + 1 := ⟨m - 1, by omega⟩
  rw [aheadF, if_neg (by omega), Nat.add_zero, Nat.mod_eq_of_lt hp, if_pos h]
  rfl
def addP (P : Nat → Bool) (s : Int) : Nat → Bool := fun i => P i || decide ((i : Int) = s)
/-- Where the cars of the list park, one after the other, and which seats are taken then. -/
def parkL (m : Nat) (ring : Bool) : (Nat → Bool) → List Int → List Int
  | _, [] => []
  | P, x :: xs => parkF m ring P x.toNat :: parkL m ring (addP P (parkF m ring P x.toNat)) xs
def parkP (m : Nat) (ring : Bool) : (Nat → Bool) → List Int → (Nat → Bool)
  | P, [] => P
  | P, x :: xs => parkP m ring (addP P (parkF m ring P x.toNat)) xs
theorem parkL_len (m : Nat) (ring : Bool) : ∀ (xs : List Int) (P : Nat → Bool), (parkL m ring P xs).length = xs.length
  | [], _ => rfl
  | x :: xs, P => by simp [parkL, parkL_len m ring xs]
theorem parkL_mem (m : Nat) (ring : Bool) : ∀ (xs : List Int) (P : Nat → Bool), (∀ x ∈ xs, 0 ≤ x ∧ x < (m : Int)) → ∀ y ∈ parkL m ring P xs, -1 ≤ y ∧ y < (m : Int)
  | [], _, _, y, h => by simp [parkL] at h
  | x :: xs, P, hx, y, h => by
    rw [parkL, List.mem_cons] at h
    rcases h with rfl | h
    · have := hx x (by simp)
      exact parkF_bd (by omega)
    · exact parkL_mem m ring xs _ (fun z hz => hx z (by simp [hz])) y h
theorem addP_neg {P : Nat → Bool} {s : Int} (h : s < 0) : addP P s = P := by
  funext i
  unfold addP
  rw [decide_eq_false (by omega), Bool.or_false]
theorem addP_sel {P : Nat → Bool} {s : Nat} {R : List Int} (hs : s < 32) (hp : R.Pairwise (· < ·)) (h : ∀ y, y ∈ R ↔ y = (s : Int) ∨ y ∈ sel 32 P) : R = sel 32 (addP P (s : Int)) := by
  refine (sel_is hp fun y => ?_).symm
  rw [h, mem_sel]
  constructor
  · rintro (rfl | ⟨i, h1, h2, rfl⟩)
    · exact ⟨s, hs, by simp [addP], rfl⟩
    · exact ⟨i, h1, by simp [addP, h2], rfl⟩
  · rintro ⟨i, h1, h2, rfl⟩
    unfold addP at h2
    rw [Bool.or_eq_true, decide_eq_true_eq] at h2
    rcases h2 with h2 | h2
    · exact .inr ⟨i, h1, h2, rfl⟩
    · exact .inl h2
theorem addP_M {P : Nat → Bool} {s : Nat} (hs : s < 32) : Go.bits .or .u32 (M P : Int) (shl .u32 1 (s : Int)) = (M (addP P (s : Int)) : Int) := by
  rw [M_one hs, M_or]
  refine congrArg _ (M_congr fun i _ => ?_)
  unfold addP
  congr 1
  exact decide_eq_decide.2 (by omega)
theorem in_sel {P : Nat → Bool} {q : Nat} (hq : q < 32) : decide ((q : Int) ∈ sel 32 P) = P q := by
  rw [Bool.eq_iff_iff, decide_eq_true_eq, mem_sel]
  constructor
  · rintro ⟨i, _, h2, e⟩
    obtain rfl : q = i := by omega
    exact h2
  · exact fun h => ⟨q, hq, h, rfl⟩
theorem rd_listF {F : Int → Int} {n j : Nat} (h : j < n) : rd (listF F n) (j : Int) = F (j : Int) := by
  rw [rd_lt (by rw [listF_len]; exact h)]; simp [listF]
theorem gapF_zero {n a b : Int} {ring : Bool} (h1 : 0 ≤ a) (h2 : a < n) (h3 : 0 ≤ b) (h4 : b < n) : gapF n ring a b = 0 ↔ a = b := by
  unfold gapF mn mx
  repeat' split
  all_goals omega
theorem nearF_zero {n p : Int} {ring : Bool} {l : List Int} (h1 : 0 ≤ p) (h2 : p < n) (hm : ∀ x ∈ l, 0 ≤ x ∧ x < n) : ∀ d j b m, j + d ≤ l.length → -1 ≤ m → ((nearF n ring p l d j b m).2 = 0 ↔ m = 0 ∨ p ∈ (l.drop j).take d)
  | 0, j, b, m, _, _ => by simp [nearF]
  | d + 1, j, b, m, hj, h => by
    have r := rd_bd hm (by omega : j < l.length)
    have g := gapF_nonneg (ring := ring) h1 h2 r.1 r.2
    have g0 := gapF_zero (ring := ring) h1 h2 r.1 r.2
    rw [drop_cons (by omega : j < l.length), List.take_succ_cons, List.mem_cons]
    unfold nearF
    by_cases c : m < 0 ∨ gapF n ring p (rd l (j : Int)) < m
    · rw [if_pos c, nearF_zero h1 h2 hm d (j + 1) _ _ (by omega) (by omega), g0]
      constructor
      · exact .inr
      · rintro (h | h)
        · omega
        · exact h
    · rw [if_neg c, nearF_zero h1 h2 hm d (j + 1) _ _ (by omega) h]
      constructor
      · rintro (h | h)
        · exact .inl h
        · exact .inr (.inr h)
      · rintro (h | h | h)
        · exact .inl h
        · have := g0.2 h; exact .inl (by omega)
        · exact .inr h
theorem farF_bd {n p : Int} {ring : Bool} {l : List Int} (h1 : 0 ≤ p) (h2 : p < n) (hm : ∀ x ∈ l, 0 ≤ x ∧ x < n) : 0 ≤ farF n ring l p ∧ farF n ring l p ≤ n := by
  unfold farF
  split
  · omega
  · exact nearF_pos h1 h2 hm l.length 0 (-1) (-1) (by omega) (.inl (by omega)) (by omega)
theorem farF_zero {n p : Int} {ring : Bool} {l : List Int} (h1 : 0 ≤ p) (h2 : p < n) (hm : ∀ x ∈ l, 0 ≤ x ∧ x < n) : farF n ring l p = 0 ↔ p ∈ l := by
  unfold farF
  by_cases h : l.length = 0
  · rw [if_pos h, List.length_eq_zero_iff.1 h]
    constructor
    · intro h; omega
    · intro h; simp at h
  · rw [if_neg h, nearF_zero h1 h2 hm l.length 0 _ _ (by omega) (by omega), List.drop_zero, List.take_length]
    constructor
    · rintro (h | h)
      · omega
      · exact h
    · exact .inr
/-- The greatest of the first j values of F, or 0. -/
def pkF (F : Int → Int) : Nat → Int
  | 0 => 0
  | j + 1 => mx (pkF F j) (F (j : Int))
theorem mx_ge (a b : Int) : a ≤ mx a b ∧ b ≤ mx a b ∧ (mx a b = a ∨ mx a b = b) := by unfold mx; split <;> omega
theorem pkF_nonneg (F : Int → Int) : ∀ j, 0 ≤ pkF F j
  | 0 => by simp [pkF]
  | j + 1 => by
    have := pkF_nonneg F j; have := mx_ge (pkF F j) (F (j : Int))
    rw [pkF]; omega
theorem pkF_ge (F : Int → Int) : ∀ j i : Nat, i < j → F (i : Int) ≤ pkF F j
  | 0, i, h => by omega
  | j + 1, i, h => by
    have := mx_ge (pkF F j) (F (j : Int))
    rw [pkF]
    by_cases e : i = j
    · subst e; omega
    · have := pkF_ge F j i (by omega); omega
theorem pkF_at (F : Int → Int) : ∀ j, 0 < pkF F j → ∃ i : Nat, i < j ∧ F (i : Int) = pkF F j
  | 0, h => by simp [pkF] at h
  | j + 1, h => by
    have hm := mx_ge (pkF F j) (F (j : Int))
    rw [pkF] at h ⊢
    rcases hm.2.2 with e | e
    · rw [e] at h ⊢
      obtain ⟨i, h1, h2⟩ := pkF_at F j h
      exact ⟨i, by omega, h2⟩
    · exact ⟨j, by omega, e.symm⟩
/-- Has F its greatest value at i, and is it one above 0? -/
def topB (F : Int → Int) (j i : Nat) : Bool := decide (F (i : Int) = pkF F j) && decide (pkF F j > 0)
theorem sel_add {P : Nat → Bool} {t : Nat} (h : P t = false) : ∀ {n : Nat}, t < n → (sel n (addP P (t : Int))).length = (sel n P).length + 1
  | 0, ht => by omega
  | n + 1, ht => by
    rw [sel_succ, sel_succ, List.length_append, List.length_append]
    by_cases e : t = n
    · subst e
      have e1 : addP P (t : Int) t = true := by simp [addP]
      rw [if_pos e1, if_neg (by simp [h]), sel_congr (Q := P) fun i hi => ?_]
      · rfl
      · unfold addP
        rw [decide_eq_false (by omega), Bool.or_false]
    · have e1 : addP P (t : Int) n = P n := by
        unfold addP
        rw [decide_eq_false (by omega), Bool.or_false]
      rw [e1, sel_add h (by omega)]
      omega
theorem rd_zero_sel {P : Nat → Bool} {n t : Nat} (h : t < n) (ht : P t = true) (hl : ∀ i, i < t → P i = false) : rd (sel n P) 0 = (t : Int) := by
  rw [sel_low h ht hl]
  rfl
/-- A seat that nobody has is among those below m, if they are not all taken. -/
theorem some_free {P : Nat → Bool} {m : Nat} (h : (sel m P).length < m) : ∃ p, p < m ∧ P p = false := by
  have hc := sel_count m P
  have : (sel m fun i => !P i) ≠ [] := fun e => by rw [e] at hc; simp at hc; omega
  obtain ⟨x, hx⟩ := List.exists_mem_of_ne_nil _ this
  obtain ⟨i, h1, h2, _⟩ := mem_sel.1 hx
  exact ⟨i, h1, by simpa using h2⟩
theorem far_pos {m : Nat} {ring : Bool} {l : List Int} (hm : ∀ x ∈ l, 0 ≤ x ∧ x < (m : Int)) {p : Nat} (hp : p < m) (hn : ¬ (p : Int) ∈ l) : 0 < pkF (farF m ring l) m := by
  have h1 := pkF_ge (farF m ring l) m p hp
  have h2 := farF_bd (ring := ring) (show (0 : Int) ≤ (p : Int) by omega) (by omega : (p : Int) < (m : Int)) hm
  have h3 : ¬ farF m ring l (p : Int) = 0 := fun e => hn ((farF_zero (ring := ring) (by omega) (by omega : (p : Int) < (m : Int)) hm).1 e)
  omega
theorem P_mem {P : Nat → Bool} {m : Nat} (hP : ∀ i, P i = true → i < m) : ∀ x ∈ sel 32 P, 0 ≤ x ∧ x < (m : Int) := fun x hx => by
  obtain ⟨i, _, h2, rfl⟩ := mem_sel.1 hx
  have := hP i h2
  omega
theorem addP_lt {P : Nat → Bool} {m t : Nat} (hP : ∀ i, P i = true → i < m) (ht : t < m) : ∀ i, addP P (t : Int) i = true → i < m := fun i h => by
  unfold addP at h
  rw [Bool.or_eq_true, decide_eq_true_eq] at h
  rcases h with h | h
  · exact hP i h
  · omega
theorem P_cut {P : Nat → Bool} {m : Nat} (hm : m ≤ 32) (hP : ∀ i, P i = true → i < m) : sel 32 P = sel m P :=
  sel_cut hm fun i h1 _ => by
    cases h : P i with
    | false => rfl
    | true => have := hP i h; omega
/-- Who comes next, if anybody may. -/
theorem top_step (m : Nat) (ring : Bool) (P : Nat → Bool) (hm2 : m ≤ 32) (hP : ∀ i, P i = true → i < m) (hp : 0 < pkF (farF m ring (sel 32 P)) m) : ∃ t, t < m ∧ P t = false ∧ topB (farF m ring (sel 32 P)) m t = true ∧ (∀ i, i < t → topB (farF m ring (sel 32 P)) m i = false) ∧ farF m ring (sel 32 P) (t : Int) = pkF (farF m ring (sel 32 P)) m := by
  have hm := P_mem hP
  obtain ⟨i, h1, h2⟩ := pkF_at _ m hp
  obtain ⟨t, h3, h4, h5⟩ := least_of (P := topB (farF m ring (sel 32 P)) m) (n := m) ⟨i, h1, by simp [topB, h2, hp]⟩
  have h6 : farF m ring (sel 32 P) (t : Int) = pkF (farF m ring (sel 32 P)) m := by
    unfold topB at h4
    rw [Bool.and_eq_true, decide_eq_true_eq] at h4
    exact h4.1
  refine ⟨t, h3, ?_, h4, h5, h6⟩
  cases hc : P t with
  | false => rfl
  | true =>
    have : (t : Int) ∈ sel 32 P := mem_sel.2 ⟨t, by omega, hc, rfl⟩
    have := (farF_zero (ring := ring) (by omega) (by omega : (t : Int) < (m : Int)) hm).2 this
    omega
theorem top_none {F : Int → Int} {m : Nat} (h : ¬ 0 < pkF F m) : (M (fun i => decide (i < m) && topB F m i) : Int) = 0 ∧ sel m (topB F m) = [] := by
  constructor
  · rw [M_eq_zero]
    intro i _
    unfold topB
    rw [decide_eq_false (p := pkF F m > 0) h, Bool.and_false, Bool.and_false]
  · refine sel_none fun i _ => ?_
    unfold topB
    rw [decide_eq_false (p := pkF F m > 0) h, Bool.and_false]
theorem top_mask {F : Int → Int} {m t : Nat} {P : Nat → Bool} (hm : m ≤ 32) (ht : t < m) (h : topB F m t = true) (hl : ∀ i, i < t → topB F m i = false) : ¬ (M (fun i => decide (i < m) && topB F m i) : Int) = 0 ∧ rd (sel m (topB F m)) 0 = (t : Int) ∧ 0 < (sel m (topB F m)).length ∧
    Go.bits .or .u32 (M P : Int) (Go.bits .and .u32 (M (fun i => decide (i < m) && topB F m i) : Int) ((-(M (fun i => decide (i < m) && topB F m i) : Int)) % 4294967296)) = (M (addP P (t : Int)) : Int) := by
  refine ⟨fun e => ?_, rd_zero_sel ht h hl, ?_, ?_⟩
  · have := M_eq_zero.1 e t (by omega)
    rw [h, decide_eq_true ht] at this
    simp at this
  · rw [sel_low ht h hl]; simp
  · rw [(M_low (P := fun i => decide (i < m) && topB F m i) (t := t) (by omega) (by rw [h, decide_eq_true ht]; rfl) (fun i hi => by rw [hl i hi, Bool.and_false])).1, ← addP_M (by omega), shl_one (by omega)]
theorem sz_big {l : List Int} (h : 1048576 < l.length) (hm : l.length ≤ maxLen) : laws_szIntS.f l 1048576 = some (-1) := by
  unfold maxLen at hm
  unfold laws_szIntS.f
  rw [w64 (by omega) (by omega), if_pos (by omega)]
theorem sz_ok {l : List Int} {m : Int} (h : (l.length : Int) ≤ m) (hm : m ≤ 1048576) : laws_szIntS.f l m = some (m - l.length) := by
  unfold laws_szIntS.f
  rw [w64 (by omega) (by omega), if_neg (by omega)]
theorem szRow_big {a : Int} {b : Bool} {l : List Int} (h : 1048576 < l.length) (hm : l.length ≤ maxLen) : laws_szRow.f a b l 1048576 = some (-1) := by
  unfold laws_szRow.f
  rw [sz_big h hm]
  rfl
theorem szRow_ok {a : Int} {b : Bool} {l : List Int} {m : Int} (h : (l.length : Int) ≤ m) (hm : m ≤ 1048576) : laws_szRow.f a b l m = some (m - l.length) := by
  unfold laws_szRow.f
  rw [sz_ok h hm]
  simp only [Option.bind_some]
  rw [if_neg (by omega)]
theorem in_spec (a lo hi : Int) : spec_l1In.f a lo hi = some (decide (lo ≤ a ∧ a ≤ hi)) := by
  unfold spec_l1In.f
  split
  · congr 1; simp; omega
  · congr 1; simp; omega
theorem rising_loop (l : List Int) (m : Int) (hl : l.length ≤ 1048576) : ∀ d j, j + d = l.length → Ev (fun k => spec_l1Rising.l0 k l 0 m (j : Int)) (okFrom m l d j)
  | 0, j, h => by
    apply evshift
    simp only [spec_l1Rising.l0]
    exact evn (by omega) (evs _)
  | d + 1, j, h => by
    have ih := rising_loop l m hl d (j + 1) (by omega)
    apply evshift
    simp only [spec_l1Rising.l0, in_spec, Option.bind_some]
    refine evp (by omega) (evp (by omega) ?_)
    simp only [okFrom, okAt]
    by_cases h1 : 0 ≤ rd l (j : Int) ∧ rd l (j : Int) ≤ m
    · refine evp (by simpa using h1) ?_
      rw [decide_eq_true h1, Bool.true_and]
      by_cases h2 : j = 0
      · refine evn (by omega) ?_
        rw [wnext j (by omega), decide_eq_true h2, Bool.true_or, Bool.true_and]
        exact ih
      · refine evp (by omega) ?_
        rw [w64 (by omega) (by omega)]
        refine evp (by omega) (evp (by omega) ?_)
        by_cases h3 : rd l ((j : Int) - 1) < rd l (j : Int)
        · refine evn (by omega) ?_
          rw [wnext j (by omega)]
          simpa [h3] using ih
        · refine evp (by omega) ?_
          simpa [h2, h3] using evs false
    · refine evn (by simpa using h1) ?_
      simpa [h1] using evs false
theorem ev_rising (l : List Int) (m : Int) (hl : l.length ≤ 1048576) : Ev (fun k => spec_l1Rising.f k l 0 m) (okFrom m l l.length 0) := by
  unfold spec_l1Rising.f
  exact rising_loop l m hl l.length 0 (by omega)
theorem ev_l2Row (n : Int) (ring : Bool) (l : List Int) (hl : l.length ≤ 1048576) : Ev (fun k => spec_l2Row.f k n ring l) (rowB n ring l) := by
  unfold spec_l2Row.f
  simp only [in_spec, Option.bind_some, rowB]
  by_cases h1 : 2 ≤ n ∧ n ≤ 24
  · refine evp (by simpa using h1) ?_
    rw [w64 (by omega) (by omega)]
    cases ring with
    | true =>
      refine evp rfl ?_
      by_cases h2 : n > 2
      · refine evp h2 (evb (ev_rising l _ hl) ?_)
        have h3 : 3 ≤ n := by omega
        simpa [h1, h3] using evs _
      · refine evn h2 ?_
        have h3 : ¬ 3 ≤ n := by omega
        simpa [h3] using evs false
    | false =>
      refine evn (by simp) (evb (ev_rising l _ hl) ?_)
      simpa [h1] using evs _
  · refine evn (by simpa using h1) ?_
    simpa [h1] using evs false
theorem l1Most (a b : Int) : spec_l1Most.f a b = some (mx a b) := mx_spec a b
theorem l1Least (a b : Int) : spec_l1Least.f a b = some (mn a b) := mn_spec a b
theorem l2Gap {n a b : Int} {ring : Bool} {l : List Int} (h1 : 0 ≤ a) (h2 : a ≤ 1048576) (h3 : 0 ≤ b) (h4 : b ≤ 1048576) (h5 : 0 ≤ n) (h6 : n ≤ 1048576) : spec_l2Gap.f n ring l a b = some (gapF n ring a b) := by
  have hb := mx_bd (a := a - b) (b := b - a) (B := 1048576) (by omega) (by omega) (by omega) (by omega)
  unfold spec_l2Gap.f gapF
  rw [w64 (by omega) (by omega), w64 (by omega) (by omega)]
  simp only [l1Most, l1Least, Option.bind_some]
  rw [w64 (by omega) (by omega)]
  split <;> rfl
theorem l2Nearest_loop (n : Int) (ring : Bool) (l0 l : List Int) (p : Int) (hl : l.length ≤ 1048576) (hm : ∀ x ∈ l, 0 ≤ x ∧ x < n) (h1 : 0 ≤ p) (h2 : p < n) (hn : n ≤ 1048576) : ∀ d j b m, j + d = l.length → (b < 0 ↔ m < 0) →
    Ev (fun k => spec_l2Nearest.l0 k l p b m (j : Int) n ring l0) (nearF n ring p l d j b m)
  | 0, j, b, m, h, _ => by
    apply evshift
    simp only [spec_l2Nearest.l0]
    exact evn (by omega) (evs _)
  | d + 1, j, b, m, h, hi => by
    have r := rd_bd hm (by omega : j < l.length)
    have g := gapF_nonneg (ring := ring) h1 h2 r.1 r.2
    apply evshift
    simp only [spec_l2Nearest.l0]
    refine evp (by omega) (evp (by omega) (evc (l2Gap h1 (by omega) r.1 (by omega) (by omega) hn) ?_))
    rw [wnext j (by omega)]
    unfold nearF
    by_cases c1 : b < 0
    · exact evt (.inl (hi.1 c1)) <| evp c1 (l2Nearest_loop n ring l0 l p hl hm h1 h2 hn d (j + 1) _ _ (by omega) (by omega))
    · have c2 : ¬ m < 0 := fun h => c1 (hi.2 h)
      by_cases c3 : gapF n ring p (rd l (j : Int)) < m
      · exact evt (.inr c3) <| evn c1 <| evp c3 (l2Nearest_loop n ring l0 l p hl hm h1 h2 hn d (j + 1) _ _ (by omega) (by omega))
      · exact evf (by omega) <| evn c1 <| evn c3 (l2Nearest_loop n ring l0 l p hl hm h1 h2 hn d (j + 1) _ _ (by omega) hi)
theorem ev_l2Nearest (n : Int) (ring : Bool) (l0 l : List Int) (p : Int) (hl : l.length ≤ 1048576) (hm : ∀ x ∈ l, 0 ≤ x ∧ x < n) (h1 : 0 ≤ p) (h2 : p < n) (hn : n ≤ 1048576) : Ev (fun k => spec_l2Nearest.f k n ring l0 l p) (nearF n ring p l l.length 0 (-1) (-1)) := by
  unfold spec_l2Nearest.f
  exact l2Nearest_loop n ring l0 l p hl hm h1 h2 hn l.length 0 _ _ (by omega) (by omega)
theorem ev_l3Far (n : Int) (ring : Bool) (l : List Int) (p : Int) (hl : l.length ≤ 1048576) (hm : ∀ x ∈ l, 0 ≤ x ∧ x < n) (h1 : 0 ≤ p) (h2 : p < n) (hn : n ≤ 1048576) : Ev (fun k => spec_l3Far.f k n ring l p) (farF n ring l p) := by
  unfold spec_l3Far.f farF
  by_cases h : l.length = 0
  · rw [if_pos h]
    exact evp (by omega) (evs _)
  · rw [if_neg h]
    refine evn (by omega) (evb (a := (nearF n ring p l l.length 0 (-1) (-1)).2) ?_ (evs _))
    unfold spec_l2Farthest.f
    exact evb (ev_l2Nearest n ring l l p hl hm h1 h2 hn) (evs _)
theorem l3All_loop (n : Nat) (ring : Bool) (l : List Int) (hl : l.length ≤ 1048576) (hm : ∀ x ∈ l, 0 ≤ x ∧ x < (n : Int)) (hn : n ≤ 1048576) : ∀ d j, j + d = n → Ev (fun k => spec_l3All.l0 k (listF (farF n ring l) j) (j : Int) (n : Int) ring l) (listF (farF n ring l) n)
  | 0, j, h => by
    obtain rfl : j = n := by omega
    apply evshift
    simp only [spec_l3All.l0]
    exact evn (by omega) (evs _)
  | d + 1, j, h => by
    have ih := l3All_loop n ring l hl hm hn d (j + 1) (by omega)
    rw [listF_succ] at ih
    have hf := listF_len (farF n ring l) j
    apply evshift
    simp only [spec_l3All.l0]
    refine evp (by omega) (evb (ev_l3Far n ring l j hl hm (by omega) (by omega) (by omega)) (evp (by omega) ?_))
    rw [wnext j (by omega)]
    exact ih
theorem ev_l3All (n : Nat) (ring : Bool) (l : List Int) (hl : l.length ≤ 1048576) (hm : ∀ x ∈ l, 0 ≤ x ∧ x < (n : Int)) (hn : n ≤ 1048576) : Ev (fun k => spec_l3All.f k (n : Int) ring l) (listF (farF n ring l) n) := by
  unfold spec_l3All.f
  have h := l3All_loop n ring l hl hm hn n 0 (by omega)
  simpa [listF] using h
theorem l3Polite_max (F : Int → Int) (n : Nat) (ring : Bool) (l : List Int) (hn : n ≤ 1048576) (r : List Int) (acc : List Int) (hr : Ev (fun k => spec_l3Polite.l1 k acc (listF F n) (pkF F n) 0 (n : Int) ring l) r) : ∀ d j, j + d = n → Ev (fun k => spec_l3Polite.l0 k acc (listF F n) (pkF F j) (j : Int) (n : Int) ring l) r
  | 0, j, h => by
    obtain rfl : j = n := by omega
    apply evshift
    simp only [spec_l3Polite.l0]
    exact evn (by omega) hr
  | d + 1, j, h => by
    have ih := l3Polite_max F n ring l hn r acc hr d (j + 1) (by omega)
    apply evshift
    simp only [spec_l3Polite.l0]
    refine evp (by omega) (evp (by omega) (evp (by rw [listF_len]; omega) (evc (l1Most _ _) ?_)))
    rw [rd_listF (by omega), wnext j (by omega)]
    exact ih
theorem l3Polite_list (F : Int → Int) (n : Nat) (ring : Bool) (l : List Int) (hn : n ≤ 1048576) : ∀ d j, j + d = n → Ev (fun k => spec_l3Polite.l1 k (sel j (topB F n)) (listF F n) (pkF F n) (j : Int) (n : Int) ring l) (sel n (topB F n))
  | 0, j, h => by
    obtain rfl : j = n := by omega
    apply evshift
    simp only [spec_l3Polite.l1]
    refine evn (by omega) ?_
    apply evshift
    simp only [spec_l3Polite.j2]
    exact evn (by simp) (evs _)
  | d + 1, j, h => by
    have ih := l3Polite_list F n ring l hn d (j + 1) (by omega)
    have hs := sel_len_le j (topB F n)
    rw [sel_succ] at ih
    apply evshift
    simp only [spec_l3Polite.l1]
    refine evp (by omega) ?_
    apply evshift
    simp only [spec_l3Polite.j2]
    by_cases c0 : pkF F n > 0
    · refine evp (by simpa using c0) (evp (by omega) (evp (by rw [listF_len]; omega) ?_))
      rw [rd_listF (by omega), wnext j (by omega)]
      by_cases c : F (j : Int) = pkF F n
      · rw [if_pos (by simp [topB, c, c0])] at ih
        exact evp c (evp (by omega) ih)
      · rw [if_neg (by simp [topB, c]), List.append_nil] at ih
        exact evn c ih
    · refine evn (by simpa using c0) (eve (evs _) ?_)
      rw [sel_none fun i _ => by simp [topB, c0], sel_none fun i _ => by simp [topB, c0]]
theorem ev_l3Polite (n : Nat) (ring : Bool) (l : List Int) (hl : l.length ≤ 1048576) (hm : ∀ x ∈ l, 0 ≤ x ∧ x < (n : Int)) (hn : n ≤ 1048576) : Ev (fun k => spec_l3Polite.f k (n : Int) ring l) (sel n (topB (farF n ring l) n)) := by
  unfold spec_l3Polite.f
  refine evb (ev_l3All n ring l hl hm hn) ?_
  exact l3Polite_max _ n ring l hn _ [] (l3Polite_list _ n ring l hn n 0 (by omega)) n 0 (by omega)
theorem l1Own (l : List Int) (hl : l.length ≤ 1048576) : spec_l1Own.f l = some l := by
  unfold spec_l1Own.f
  simp only [Option.bind_some, List.length_nil, List.nil_append]
  rw [if_pos (by omega)]
theorem l1Put_loop (l : List Int) (x : Int) (hl : l.length ≤ 1048576) (hp : l.Pairwise (· < ·)) : ∀ d j, j + d = l.length → (∀ y ∈ l.take j, y < x) →
    ∃ R : List Int, Ev (fun k => spec_l1Put.l0 k l x (j : Int)) R ∧ R.Pairwise (· < ·) ∧ (∀ y, y ∈ R ↔ y = x ∨ y ∈ l) ∧ R.length ≤ l.length + 1
  | 0, j, h, hb => by
    obtain rfl : j = l.length := by omega
    rw [List.take_length] at hb
    refine ⟨l ++ [x], ?_, ?_, fun y => by simp [or_comm], by simp⟩
    · apply evshift
      simp only [spec_l1Put.l0, Option.bind_some, Int.toNat_natCast, List.take_length, List.drop_length, List.nil_append, List.length_nil, List.length_append, List.length_singleton, List.append_nil]
      refine evn (by omega) ?_
      repeat (first | exact evs _ | (refine evp ?hc ?_; (case hc => omega)) | (refine evn ?hc ?_; (case hc => omega)))
    · refine List.pairwise_append.2 ⟨hp, List.pairwise_singleton _ _, fun a ha b hb' => ?_⟩
      rw [List.mem_singleton.1 hb']; exact hb a ha
  | d + 1, j, h, hb => by
    have hj : j < l.length := by omega
    by_cases c1 : rd l (j : Int) < x
    · obtain ⟨R, h1, h2⟩ := l1Put_loop l x hl hp d (j + 1) (by omega) (fun y hy => by
        rw [List.take_succ_eq_append_getElem hj, List.mem_append, List.mem_singleton] at hy
        rcases hy with hy | rfl
        · exact hb y hy
        · rw [rd_lt hj] at c1; exact c1)
      refine ⟨R, ?_, h2⟩
      apply evshift
      simp only [spec_l1Put.l0]
      refine evp (by omega) (evp (by omega) (evp c1 ?_))
      rw [wnext j (by omega)]
      exact h1
    · by_cases c2 : rd l (j : Int) = x
      · refine ⟨l, ?_, hp, fun y => ⟨.inr, fun hy => ?_⟩, by omega⟩
        · apply evshift
          simp only [spec_l1Put.l0]
          exact evp (by omega) (evp (by omega) (evn c1 (evp c2 (evs _))))
        · rcases hy with rfl | hy
          · rw [← c2]; exact rd_mem hj
          · exact hy
      · have hd : ∀ y ∈ l.drop j, x < y := fun y hy => by
          rw [drop_cons hj, List.mem_cons] at hy
          rcases hy with rfl | hy
          · omega
          · have := hp.sublist (List.drop_sublist j l)
            rw [drop_cons hj, List.pairwise_cons] at this
            have := this.1 y hy
            omega
        refine ⟨l.take j ++ [x] ++ l.drop j, ?_, ?_, fun y => ?_, by simp; omega⟩
        · apply evshift
          simp only [spec_l1Put.l0, Option.bind_some, Int.toNat_natCast, List.nil_append, List.length_nil, List.length_append, List.length_singleton, List.length_take, List.length_drop]
          refine evp (by omega) (evp (by omega) (evn c1 (evn c2 ?_)))
          repeat (first | exact evs _ | (refine evp ?hc ?_; (case hc => omega)) | (refine evn ?hc ?_; (case hc => omega)))
        · rw [List.append_assoc]
          refine List.pairwise_append.2 ⟨hp.sublist (List.take_sublist j l), ?_, fun a ha b hb' => ?_⟩
          · rw [List.singleton_append, List.pairwise_cons]
            exact ⟨hd, hp.sublist (List.drop_sublist j l)⟩
          · rw [List.singleton_append, List.mem_cons] at hb'
            have := hb a ha
            rcases hb' with rfl | hb'
            · exact this
            · have := hd b hb'; omega
        · have e : y ∈ l ↔ y ∈ l.take j ∨ y ∈ l.drop j := by rw [← List.mem_append, List.take_append_drop]
          rw [e, List.mem_append, List.mem_append, List.mem_singleton]
          constructor
          · rintro ((h | h) | h)
            · exact .inr (.inl h)
            · exact .inl h
            · exact .inr (.inr h)
          · rintro (h | h | h)
            · exact .inl (.inr h)
            · exact .inl (.inl h)
            · exact .inr h
theorem ev_l1Put (l : List Int) (x : Int) (hl : l.length ≤ 1048576) (hp : l.Pairwise (· < ·)) : ∃ R : List Int, Ev (fun k => spec_l1Put.f k l x) R ∧ R.Pairwise (· < ·) ∧ (∀ y, y ∈ R ↔ y = x ∨ y ∈ l) ∧ R.length ≤ l.length + 1 := by
  unfold spec_l1Put.f
  exact l1Put_loop l x hl hp l.length 0 (by omega) (by simp)
theorem ev_l2With (n : Int) (ring : Bool) (l : List Int) (p : Int) (hl : l.length ≤ 1048576) (hp : l.Pairwise (· < ·)) : ∃ R : List Int, Ev (fun k => spec_l2With.f k n ring l p) (n, ring, R) ∧ R.Pairwise (· < ·) ∧ (∀ y, y ∈ R ↔ y = p ∨ y ∈ l) ∧ R.length ≤ l.length + 1 := by
  obtain ⟨R, h1, h2⟩ := ev_l1Put l p hl hp
  refine ⟨R, ?_, h2⟩
  unfold spec_l2With.f
  simp only [l1Own l hl, Option.bind_some, spec_l2Made.f]
  exact evb h1 (evs _)
theorem toIntS_loop (l : List Int) (hl : l.length ≤ 1048576) : ∀ d j, j + d = l.length → Ev (fun k => laws_toIntS.l0 k l (l.take j ++ List.replicate (l.length - j) 0) (j : Int)) l
  | 0, j, h => by
    apply evshift
    simp only [laws_toIntS.l0]
    refine evn (by omega) ?_
    have e : l.take j ++ List.replicate (l.length - j) 0 = l := by rw [show j = l.length by omega]; simp
    rw [e]
    exact evs _
  | d + 1, j, h => by
    have ih := toIntS_loop l hl d (j + 1) (by omega)
    apply evshift
    simp only [laws_toIntS.l0]
    refine evp (by omega) (evp (by omega) (evp (by simp; omega) ?_))
    rw [Int.toNat_natCast, set_copy l j (by omega), wnext j (by omega)]
    exact ih
theorem ev_toIntS (l : List Int) (hl : l.length ≤ 1048576) : Ev (fun k => laws_toIntS.f k l) l := by
  unfold laws_toIntS.f
  refine evp (by omega) (evp (by omega) ?_)
  have h := toIntS_loop l hl l.length 0 (by omega)
  simpa using h
theorem ev_toRow (a : Int) (b : Bool) (l : List Int) (hl : l.length ≤ 1048576) : Ev (fun k => laws_toRow.f k a b l) (a, b, l) := by
  unfold laws_toRow.f
  exact evb (ev_toIntS l hl) (evs _)
theorem in_impl (a lo hi : Int) : impl_within.f a lo hi = some (decide (lo ≤ a ∧ a ≤ hi)) := by
  unfold impl_within.f
  split
  · congr 1; simp; omega
  · congr 1; simp; omega
theorem allWithin_loop (l : List Int) (lo hi : Int) (hl : l.length ≤ 1048576) : ∀ d j, j + d = l.length → Ev (fun k => impl_allWithin.l0 k lo hi l (l.length : Int) (j : Int)) ((l.drop j).all fun x => decide (lo ≤ x ∧ x ≤ hi))
  | 0, j, h => by
    apply evshift
    simp only [impl_allWithin.l0]
    refine evn (by omega) ?_
    rw [List.drop_eq_nil_of_le (by omega)]
    exact evs _
  | d + 1, j, h => by
    have ih := allWithin_loop l lo hi hl d (j + 1) (by omega)
    apply evshift
    simp only [impl_allWithin.l0, in_impl, Option.bind_some]
    refine evp (by omega) (evp (by omega) (evp (by omega) ?_))
    rw [drop_cons (by omega : j < l.length), List.all_cons]
    by_cases h1 : lo ≤ rd l (j : Int) ∧ rd l (j : Int) ≤ hi
    · refine evp (by simpa using h1) ?_
      rw [wnext j (by omega)]
      simpa [h1] using ih
    · refine evn (by simpa using h1) ?_
      simpa [h1] using evs false
theorem ev_allWithin (l : List Int) (lo hi : Int) (hl : l.length ≤ 1048576) : Ev (fun k => impl_allWithin.f k l lo hi) (l.all fun x => decide (lo ≤ x ∧ x ≤ hi)) := by
  unfold impl_allWithin.f
  have h := allWithin_loop l lo hi hl l.length 0 (by omega)
  simpa using h
theorem ev_benchHas (n : Int) (ring : Bool) (l : List Int) (hl : l.length ≤ 1048576) : Ev (fun k => impl_bench_has.f k n ring l) (l.all fun x => decide (0 ≤ x ∧ x ≤ wrap64 (n - 1))) := by
  unfold impl_bench_has.f
  exact evb (ev_allWithin l 0 _ hl) (evs _)
theorem benchValid (n : Int) (ring : Bool) : impl_bench_valid.f n ring = some (decide (2 ≤ n ∧ n ≤ 24) && (!ring || decide (3 ≤ n))) := by
  unfold impl_bench_valid.f
  simp only [in_impl, Option.bind_some]
  by_cases h1 : 2 ≤ n ∧ n ≤ 24
  · rw [if_pos (by simpa using h1)]
    cases ring <;> simp [h1]
  · rw [if_neg (by simpa using h1)]
    simp [h1]
theorem isRow_loop (n : Int) (ring : Bool) (l : List Int) (hl : l.length ≤ 1048576) : ∀ d j, j + d = l.length →
    Ev (fun k => impl_IsRow.l0 k l (l.length : Int) (j : Int) n ring l) (okFrom (wrap64 (n - 1)) l d j && (decide (2 ≤ n ∧ n ≤ 24) && (!ring || decide (3 ≤ n))))
  | 0, j, h => by
    apply evshift
    simp only [impl_IsRow.l0, impl_Row_bench.f, Option.bind_some, benchValid]
    refine evn (by omega) ?_
    simpa [okFrom] using evs _
  | d + 1, j, h => by
    have ih := isRow_loop n ring l hl d (j + 1) (by omega)
    apply evshift
    simp only [impl_IsRow.l0, impl_Row_bench.f, Option.bind_some]
    refine evp (by omega) (evp (by omega) (evp (by omega) ?_))
    refine evb (ev_benchHas n ring [rd l (j : Int)] (by simp)) ?_
    simp only [okFrom, okAt, List.all_cons, List.all_nil, Bool.and_true]
    by_cases h1 : 0 ≤ rd l (j : Int) ∧ rd l (j : Int) ≤ wrap64 (n - 1)
    · refine evp (by simpa using h1) ?_
      rw [decide_eq_true h1, Bool.true_and]
      by_cases h2 : j = 0
      · refine evn (by omega) ?_
        rw [wnext j (by omega), decide_eq_true h2, Bool.true_or, Bool.true_and]
        exact ih
      · refine evp (by omega) ?_
        rw [w64 (by omega) (by omega)]
        refine evp (by omega) (evp (by omega) ?_)
        by_cases h3 : rd l ((j : Int) - 1) < rd l (j : Int)
        · refine evn (by omega) ?_
          rw [wnext j (by omega)]
          simpa [h3] using ih
        · refine evp (by omega) ?_
          simpa [h2, h3] using evs false
    · refine evn (by simpa using h1) ?_
      simpa [h1] using evs false
theorem ev_isRow (n : Int) (ring : Bool) (l : List Int) (hl : l.length ≤ 1048576) : Ev (fun k => impl_IsRow.f k n ring l) (rowB n ring l) := by
  unfold impl_IsRow.f
  refine eve (isRow_loop n ring l hl l.length 0 (by omega)) ?_
  unfold rowB
  by_cases h1 : 2 ≤ n ∧ n ≤ 24
  · rw [w64 (by omega) (by omega)]
    cases okFrom (n - 1) l l.length 0 <;> simp [h1]
  · simp [h1]
theorem tz_table : ∀ t : Nat, t < 32 → (0 ≤ ((((2 ^ t : Nat) : Int) * 125613361) % 4294967296) / 134217728) ∧ ((((2 ^ t : Nat) : Int) * 125613361) % 4294967296) / 134217728 < 32 ∧ wrap64 (rd xtab0 (((((2 ^ t : Nat) : Int) * 125613361) % 4294967296) / 134217728)) = (t : Int) := by decide +kernel
theorem tz_at {P : Nat → Bool} {t : Nat} (h32 : t < 32) (ht : P t = true) (hl : ∀ i, i < t → P i = false) : bits_TrailingZeros32.f (M P : Int) = some (t : Int) := by
  have h0 : ¬ ((M P : Nat) : Int) = 0 := fun h => by have := M_eq_zero.1 h t h32; rw [this] at ht; cases ht
  obtain ⟨h1, h2, h3⟩ := tz_table t h32
  unfold bits_TrailingZeros32.f
  rw [if_neg h0, (M_low h32 ht hl).1, if_pos h1, if_pos h2, h3]
theorem list_loop : ∀ (d : Nat) (P : Nat → Bool) (acc : List Int), (sel 32 P).length = d → acc.length + d ≤ 1048576 → Ev (fun k => impl_set_list.l0 k (M P : Int) acc) (acc ++ sel 32 P)
  | 0, P, acc, h, _ => by
    have hn : sel 32 P = [] := List.eq_nil_of_length_eq_zero h
    have hz : ∀ i, i < 32 → P i = false := fun i hi => by
      cases hp : P i with
      | false => rfl
      | true =>
        have : (i : Int) ∈ sel 32 P := mem_sel.2 ⟨i, hi, hp, rfl⟩
        rw [hn] at this; cases this
    apply evshift
    simp only [impl_set_list.l0]
    refine evp (M_eq_zero.2 hz) ?_
    rw [hn, List.append_nil]
    exact evs _
  | d + 1, P, acc, h, hb => by
    have hex : ∃ i, i < 32 ∧ P i = true := by
      rcases Classical.em (∃ i, i < 32 ∧ P i = true) with h1 | h1
      · exact h1
      · have : sel 32 P = [] := sel_none fun i hi => by
          cases hp : P i with
          | false => rfl
          | true => exact absurd ⟨i, hi, hp⟩ h1
        rw [this] at h; cases h
    obtain ⟨t, h1, h2, h3⟩ := least_of hex
    have hs := sel_low h1 h2 h3
    have h0 : ¬ ((M P : Nat) : Int) = 0 := fun h => by have := M_eq_zero.1 h t h1; rw [this] at h2; cases h2
    apply evshift
    simp only [impl_set_list.l0, tz_at h1 h2 h3, Option.bind_some, (M_low h1 h2 h3).2]
    refine evn h0 (evp (by omega) ?_)
    rw [hs, List.length_cons] at h
    refine eve (list_loop d _ (acc ++ [(t : Int)]) (by omega) (by rw [List.length_append, List.length_singleton]; omega)) ?_
    rw [hs, List.append_assoc]; rfl
theorem ev_list (P : Nat → Bool) : Ev (fun k => impl_set_list.f k (M P : Int)) (sel 32 P) := by
  unfold impl_set_list.f
  have h := list_loop _ P [] rfl (by have := sel_len_le 32 P; simp; omega)
  simpa using h
theorem benchGap {n a b : Int} {ring : Bool} (h1 : 0 ≤ a) (h2 : a ≤ 1048576) (h3 : 0 ≤ b) (h4 : b ≤ 1048576) (h5 : 0 ≤ n) (h6 : n ≤ 1048576) : impl_bench_gap.f n ring a b = some (gapF n ring a b) := by
  have hb := mx_bd (a := a - b) (b := b - a) (B := 1048576) (by omega) (by omega) (by omega) (by omega)
  unfold impl_bench_gap.f gapF
  rw [w64 (by omega) (by omega), w64 (by omega) (by omega), w64 (by omega) (by omega)]
  split <;> rfl
theorem nearest_loop (n : Int) (ring : Bool) (l : List Int) (p : Int) (hl : l.length ≤ 1048576) (hm : ∀ x ∈ l, 0 ≤ x ∧ x < n) (h1 : 0 ≤ p) (h2 : p < n) (hn : n ≤ 1048576) : ∀ d j b m, j + d = l.length →
    Ev (fun k => impl_bench_nearest.l0 k p b m l (l.length : Int) (j : Int) n ring) ((nearF n ring p l d j b m).1, mx 0 (nearF n ring p l d j b m).2, decide ((nearF n ring p l d j b m).2 ≥ 0))
  | 0, j, b, m, h => by
    apply evshift
    simp only [impl_bench_nearest.l0]
    exact evn (by omega) (evs _)
  | d + 1, j, b, m, h => by
    have r := rd_bd hm (by omega : j < l.length)
    apply evshift
    simp only [impl_bench_nearest.l0]
    refine evp (by omega) (evp (by omega) (evp (by omega) (evc (benchGap h1 (by omega) r.1 (by omega) (by omega) hn) ?_)))
    rw [wnext j (by omega)]
    unfold nearF
    by_cases c2 : m < 0
    · rw [if_pos (show m < 0 ∨ gapF n ring p (rd l (j : Int)) < m from .inl c2)]
      exact evp c2 (nearest_loop n ring l p hl hm h1 h2 hn d (j + 1) _ _ (by omega))
    · by_cases c3 : gapF n ring p (rd l (j : Int)) < m
      · rw [if_pos (show m < 0 ∨ gapF n ring p (rd l (j : Int)) < m from .inr c3)]
        exact evn c2 <| evp c3 (nearest_loop n ring l p hl hm h1 h2 hn d (j + 1) _ _ (by omega))
      · rw [if_neg (show ¬ (m < 0 ∨ gapF n ring p (rd l (j : Int)) < m) by omega)]
        exact evn c2 <| evn c3 (nearest_loop n ring l p hl hm h1 h2 hn d (j + 1) _ _ (by omega))
theorem ev_nearest (n : Int) (ring : Bool) (P : Nat → Bool) (l : List Int) (p : Int) (hs : sel 32 P = l) (hm : ∀ x ∈ l, 0 ≤ x ∧ x < n) (h1 : 0 ≤ p) (h2 : p < n) (hn : n ≤ 1048576) :
    Ev (fun k => impl_bench_nearest.f k n ring p (M P : Int)) ((nearF n ring p l l.length 0 0 (-1)).1, mx 0 (nearF n ring p l l.length 0 0 (-1)).2, decide ((nearF n ring p l l.length 0 0 (-1)).2 ≥ 0)) := by
  unfold impl_bench_nearest.f
  have hl : l.length ≤ 32 := by rw [← hs]; exact sel_len_le 32 P
  refine evb (eve (ev_list P) hs) ?_
  exact nearest_loop n ring l p (by omega) hm h1 h2 hn l.length 0 _ _ (by omega)
theorem ev_nearest0 (n : Int) (ring : Bool) (P : Nat → Bool) (p : Int) (hs : sel 32 P = []) (h1 : 0 ≤ p) (h2 : p < n) (hn : n ≤ 1048576) : Ev (fun k => impl_bench_nearest.f k n ring p (M P : Int)) (0, 0, false) := by
  have h := ev_nearest n ring P [] p hs (by simp) h1 h2 hn
  simpa [nearF, mx] using h
theorem ev_nearest1 (n : Int) (ring : Bool) (P : Nat → Bool) (l : List Int) (p : Int) (hs : sel 32 P = l) (hm : ∀ x ∈ l, 0 ≤ x ∧ x < n) (h1 : 0 ≤ p) (h2 : p < n) (hn : n ≤ 1048576) (h0 : 0 < l.length) :
    Ev (fun k => impl_bench_nearest.f k n ring p (M P : Int)) ((nearF n ring p l l.length 0 (-1) (-1)).1, (nearF n ring p l l.length 0 (-1) (-1)).2, true) := by
  have h := ev_nearest n ring P l p hs hm h1 h2 hn
  rw [nearF_start l.length 0 0 (-1) h0] at h
  have hp := nearF_pos (ring := ring) h1 h2 hm l.length 0 (-1) (-1) (by omega) (.inl h0) (by omega)
  refine eve h ?_
  rw [decide_eq_true hp.1, show mx 0 (nearF n ring p l l.length 0 (-1) (-1)).2 = (nearF n ring p l l.length 0 (-1) (-1)).2 by unfold mx; split <;> omega]
theorem farness_loop (n : Nat) (ring : Bool) (P : Nat → Bool) (l : List Int) (hs : sel 32 P = l) (hm : ∀ x ∈ l, 0 ≤ x ∧ x < (n : Int)) (hn : n ≤ 1048576) : ∀ d j, j + d = n → Ev (fun k => impl_bench_farness.l0 k (M P : Int) (listF (farF n ring l) j) (n : Int) (j : Int) (n : Int) ring) (listF (farF n ring l) n)
  | 0, j, h => by
    obtain rfl : j = n := by omega
    apply evshift
    simp only [impl_bench_farness.l0]
    exact evn (by omega) (evs _)
  | d + 1, j, h => by
    have ih := farness_loop n ring P l hs hm hn d (j + 1) (by omega)
    rw [listF_succ] at ih
    have hf := listF_len (farF n ring l) j
    apply evshift
    simp only [impl_bench_farness.l0]
    by_cases h0 : l.length = 0
    · have hl0 : l = [] := List.length_eq_zero_iff.1 h0
      refine evp (by omega) (evb (ev_nearest0 n ring P j (by rw [hs, hl0]) (by omega) (by omega) (by omega)) (evn (by simp) (evp (by omega) ?_)))
      rw [wnext j (by omega)]
      rw [show farF n ring l (j : Int) = n by unfold farF; rw [if_pos h0]] at ih
      exact ih
    · refine evp (by omega) (evb (ev_nearest1 n ring P l j hs hm (by omega) (by omega) (by omega) (by omega)) (evp rfl (evp (by omega) ?_)))
      rw [wnext j (by omega)]
      rw [show farF n ring l (j : Int) = (nearF n ring j l l.length 0 (-1) (-1)).2 by unfold farF; rw [if_neg h0]] at ih
      exact ih
theorem ev_farness (n : Nat) (ring : Bool) (P : Nat → Bool) (l : List Int) (hs : sel 32 P = l) (hm : ∀ x ∈ l, 0 ≤ x ∧ x < (n : Int)) (hn : n ≤ 1048576) : Ev (fun k => impl_bench_farness.f k (n : Int) ring (M P : Int)) (listF (farF n ring l) n) := by
  unfold impl_bench_farness.f
  have h := farness_loop n ring P l hs hm hn n 0 (by omega)
  simpa [listF] using h
theorem polite_loop (F : Int → Int) (n : Nat) (hn : n ≤ 32) (hF : ∀ j : Nat, j < n → 0 ≤ F (j : Int)) : ∀ d j, j + d = n → Ev (fun k => impl_bench_polite.l0 k (M (fun i => decide (i < j) && topB F j i) : Int) (pkF F j) (listF F n) (n : Int) (j : Int)) ((M (fun i => decide (i < n) && topB F n i) : Int), pkF F n)
  | 0, j, h => by
    obtain rfl : j = n := by omega
    apply evshift
    simp only [impl_bench_polite.l0]
    exact evn (by omega) (evs _)
  | d + 1, j, h => by
    have ih := polite_loop F n hn hF d (j + 1) (by omega)
    have h0 := hF j (by omega)
    have hp := pkF_nonneg F j
    have hm := mx_ge (pkF F j) (F (j : Int))
    have same : (F (j : Int) = 0 ∨ F (j : Int) < pkF F j) → pkF F (j + 1) = pkF F j ∧ M (fun i => decide (i < j + 1) && topB F (j + 1) i) = M (fun i => decide (i < j) && topB F j i) := fun hc => by
      have e : pkF F (j + 1) = pkF F j := by rw [pkF]; omega
      refine ⟨e, M_congr fun i _ => ?_⟩
      unfold topB
      rw [e]
      by_cases e2 : i = j
      · subst e2
        by_cases c : F (i : Int) = pkF F i
        · simp [c]; omega
        · simp [c]
      · congr 1
        simp; omega
    apply evshift
    simp only [impl_bench_polite.l0]
    refine evp (by omega) (evp (by omega) (evp (by rw [listF_len]; omega) ?_))
    rw [rd_listF (by omega)]
    have skip : ∀ b : Bool, b = true → (F (j : Int) = 0 ∨ F (j : Int) < pkF F j) → Ev (fun k => impl_bench_polite.j1 k (M (fun i => decide (i < j) && topB F j i) : Int) (pkF F j) (j : Int) (F (j : Int)) (listF F n) (n : Int) (j : Int) b) ((M (fun i => decide (i < n) && topB F n i) : Int), pkF F n) := fun b hb hc => by
      obtain ⟨e1, e2⟩ := same hc
      rw [e1, e2] at ih
      apply evshift
      simp only [impl_bench_polite.j1]
      rw [wnext j (by omega)]
      exact evp hb ih
    by_cases c0 : F (j : Int) = 0
    · exact evp c0 (skip true rfl (.inl c0))
    · refine evn c0 ?_
      by_cases c1 : F (j : Int) < pkF F j
      · exact skip _ (decide_eq_true c1) (.inr c1)
      · apply evshift
        simp only [impl_bench_polite.j1]
        rw [wnext j (by omega)]
        refine evn (by simpa using c1) ?_
        by_cases c2 : F (j : Int) > pkF F j
        · refine evp c2 (evp (by omega) ?_)
          have e : pkF F (j + 1) = F (j : Int) := by rw [pkF]; omega
          rw [e, M_congr (P := fun i => decide (i < j + 1) && topB F (j + 1) i) (Q := fun i => (fun _ => false) i || decide (i = j)) fun i _ => ?_] at ih
          · rw [M_zero, M_one (by omega : j < 32), M_or]
            exact ih
          · unfold topB
            rw [e]
            by_cases e2 : i = j
            · subst e2
              simp; omega
            · by_cases e3 : i < j
              · have := pkF_ge F j i e3
                simp [e2]; omega
              · simp [e2]; omega
        · refine evn c2 (evp (by omega) ?_)
          have e : pkF F (j + 1) = pkF F j := by rw [pkF]; omega
          rw [e, M_congr (P := fun i => decide (i < j + 1) && topB F (j + 1) i) (Q := fun i => (decide (i < j) && topB F j i) || decide (i = j)) fun i _ => ?_] at ih
          · rw [M_one (by omega : j < 32), M_or]
            exact ih
          · unfold topB
            rw [e]
            by_cases e2 : i = j
            · subst e2
              simp; omega
            · simp only [e2, decide_false, Bool.or_false]
              congr 1
              simp; omega
theorem ev_polite (n : Nat) (ring : Bool) (P : Nat → Bool) (l : List Int) (hs : sel 32 P = l) (hm : ∀ x ∈ l, 0 ≤ x ∧ x < (n : Int)) (hn : n ≤ 32) : Ev (fun k => impl_bench_polite.f k (n : Int) ring (M P : Int)) ((M (fun i => decide (i < n) && topB (farF n ring l) n i) : Int), pkF (farF n ring l) n) := by
  unfold impl_bench_polite.f
  refine evb (ev_farness n ring P l hs hm (by omega)) ?_
  rw [listF_len]
  have h := polite_loop (farF n ring l) n hn (fun j hj => (farF_bd (by omega) (by omega) hm).1) n 0 (by omega)
  rw [M_congr (P := fun i => decide (i < 0) && topB (farF n ring l) 0 i) (Q := fun _ => false) fun i _ => by simp, ← M_zero] at h
  exact h
theorem setOf_loop (l : List Int) (hm : ∀ x ∈ l, 0 ≤ x ∧ x < 32) (hl : l.length ≤ 1048576) : ∀ d j (P : Nat → Bool), j + d = l.length →
    Ev (fun k => impl_setOf.l0 k (M P : Int) l (l.length : Int) (j : Int)) (M (fun i => P i || decide ((i : Int) ∈ l.drop j)) : Int)
  | 0, j, P, h => by
    apply evshift
    simp only [impl_setOf.l0]
    refine evn (by omega) ?_
    rw [List.drop_eq_nil_of_le (by omega)]
    simpa using evs _
  | d + 1, j, P, h => by
    apply evshift
    simp only [impl_setOf.l0]
    have hr := hm _ (rd_mem (by omega : j < l.length))
    refine evp (by omega) (evp (by omega) (evp (by omega) (evp (by omega) ?_)))
    obtain ⟨p, hp⟩ : ∃ p : Nat, rd l (j : Int) = (p : Int) := ⟨(rd l (j : Int)).toNat, by omega⟩
    rw [hp] at hr
    rw [hp, M_one (by omega), M_or, wnext j (by omega)]
    refine eve (setOf_loop l hm hl d (j + 1) _ (by omega)) ?_
    rw [drop_cons (by omega : j < l.length), hp]
    refine congrArg _ (M_congr fun i _ => ?_)
    by_cases e : i = p
    · subst e; simp
    · have : ¬ (i : Int) = (p : Int) := by omega
      simp [e, this]
theorem ev_setOf (l : List Int) (hm : ∀ x ∈ l, 0 ≤ x ∧ x < 32) (hl : l.length ≤ 1048576) : Ev (fun k => impl_setOf.f k l) (M (fun i => decide ((i : Int) ∈ l)) : Int) := by
  unfold impl_setOf.f
  have h := setOf_loop l hm hl l.length 0 (fun _ => false) (by omega)
  rw [← M_zero] at h
  simpa using h
theorem ev_taken (n : Int) (ring : Bool) (l : List Int) (hm : ∀ x ∈ l, 0 ≤ x ∧ x < 32) (hl : l.length ≤ 1048576) : Ev (fun k => impl_Row_taken.f k n ring l) (M (fun i => decide ((i : Int) ∈ l)) : Int) := by
  unfold impl_Row_taken.f
  exact evb (ev_setOf l hm hl) (evs _)
theorem ev_benchRow (n : Int) (ring : Bool) (P : Nat → Bool) : Ev (fun k => impl_bench_row.f k n ring (M P : Int)) (n, ring, sel 32 P) := by
  unfold impl_bench_row.f
  exact evb (ev_list P) (evs _)
theorem eqIntS_loop (l : List Int) (hl : l.length ≤ 1048576) : ∀ d j, j + d = l.length → Ev (fun k => laws_eqIntS.l0 k l l (j : Int)) true
  | 0, j, h => by
    apply evshift
    simp only [laws_eqIntS.l0]
    exact evn (by omega) (evs _)
  | d + 1, j, h => by
    have ih := eqIntS_loop l hl d (j + 1) (by omega)
    apply evshift
    simp only [laws_eqIntS.l0]
    refine evp (by omega) (evp (by omega) (evp (by omega) (evp (by trivial) ?_)))
    rw [wnext j (by omega)]
    exact ih
theorem ev_eqIntS (l : List Int) (hl : l.length ≤ 1048576) : Ev (fun k => laws_eqIntS.f k l l) true := by
  unfold laws_eqIntS.f
  exact evp (by trivial) (eqIntS_loop l hl l.length 0 (by omega))
theorem ev_eqRow (a : Int) (b : Bool) (l : List Int) (hl : l.length ≤ 1048576) : Ev (fun k => laws_eqRow.f k a b l a b l) true := by
  unfold laws_eqRow.f
  refine evp (by simp) (evn (by simp) ?_)
  exact evb (ev_eqIntS l hl) (evp (by trivial) (evs _))
theorem markIntS_loop (l : List Int) (m : Int) (hl : l.length ≤ 1048576) (h0 : 0 ≤ m) (hm : m ≤ 1099511627776) : ∀ d j, j + d = l.length → Ev (fun k => laws_markIntS.l0 k (marks m j ++ l.drop j) (m + (j : Int)) (j : Int)) (m + (l.length : Int), marks m l.length)
  | 0, j, h => by
    obtain rfl : j = l.length := by omega
    apply evshift
    simp only [laws_markIntS.l0]
    refine evn (by simp [marks_len]) ?_
    simp only [List.drop_length, List.append_nil]
    exact evs _
  | d + 1, j, h => by
    have ih := markIntS_loop l m hl h0 hm d (j + 1) (by omega)
    apply evshift
    simp only [laws_markIntS.l0]
    refine evp (by simp [marks_len]; omega) (evp (by omega) ?_)
    rw [Int.toNat_natCast, set_marks m l j (by omega), wnext j (by omega), w64 (by omega) (by omega), show m + (j : Int) + 1 = m + ((j + 1 : Nat) : Int) by omega]
    exact ih
theorem ev_markIntS (l : List Int) (m : Int) (hl : l.length ≤ 1048576) (h0 : 0 ≤ m) (hm : m ≤ 1099511627776) : Ev (fun k => laws_markIntS.f k l m) (m + (l.length : Int), marks m l.length) := by
  unfold laws_markIntS.f
  have h := markIntS_loop l m hl h0 hm l.length 0 (by omega)
  simpa [marks] using h
theorem ev_markRow (a : Int) (b : Bool) (l : List Int) (m : Int) (hl : l.length ≤ 1048576) (h0 : 0 ≤ m) (hm : m ≤ 1099511627776) : Ev (fun k => laws_markRow.f k a b l m) (m + (l.length : Int), marks m l.length) := by
  unfold laws_markRow.f
  exact evb (ev_markIntS l m hl h0 hm) (evs _)
theorem heldIntS_loop (n : Nat) (m : Int) (hn : n ≤ 1048576) (h0 : 0 ≤ m) (hm : m ≤ 1099511627776) : ∀ d j, j + d = n → Ev (fun k => laws_heldIntS.l0 k (marks m n) (m + (j : Int)) (j : Int)) (m + (n : Int))
  | 0, j, h => by
    obtain rfl : j = n := by omega
    apply evshift
    simp only [laws_heldIntS.l0]
    exact evn (by rw [marks_len]; omega) (evs _)
  | d + 1, j, h => by
    have ih := heldIntS_loop n m hn h0 hm d (j + 1) (by omega)
    apply evshift
    simp only [laws_heldIntS.l0]
    refine evp (by rw [marks_len]; omega) (evp (by omega) (evp (rd_marks (by omega)) ?_))
    rw [wnext j (by omega), w64 (by omega) (by omega), show m + (j : Int) + 1 = m + ((j + 1 : Nat) : Int) by omega]
    exact ih
theorem ev_heldIntS (n : Nat) (m : Int) (hn : n ≤ 1048576) (h0 : 0 ≤ m) (hm : m ≤ 1099511627776) : Ev (fun k => laws_heldIntS.f k (marks m n) m) (m + (n : Int)) := by
  unfold laws_heldIntS.f
  have h := heldIntS_loop n m hn h0 hm n 0 (by omega)
  simpa using h
theorem ev_heldRow (a : Int) (b : Bool) (n : Nat) (m : Int) (hn : n ≤ 1048576) (h0 : 0 ≤ m) (hm : m ≤ 1099511627776) : Ev (fun k => laws_heldRow.f k a b (marks m n) m) (m + (n : Int)) := by
  unfold laws_heldRow.f
  exact evb (ev_heldIntS n m hn h0 hm) (evn (by omega) (evs _))
theorem settle_loop (m : Nat) (ring : Bool) (hm2 : m ≤ 24) : ∀ f (P : Nat → Bool) (acc : List Int), (∀ i, P i = true → i < m) → (sel 32 P).length + f = m → acc.length + f ≤ m →
    ∃ (A : List Int) (P' : Nat → Bool), Ev (fun k => spec_l3Settle.l0 k (acc.length : Int) (m : Int) ring (sel 32 P)) ((m : Int), ring, sel 32 P', (A.length : Int)) ∧ Ev (fun k => impl_bench_newcomers.l0 k (M P : Int) 2 24 acc (m : Int) ring) ((M P' : Int), A) ∧ A.length ≤ m := by
  intro f
  induction f with
  | zero =>
    intro P acc hP hf ha
    have h0 : ¬ 0 < pkF (farF m ring (sel 32 P)) m := fun h => by
      obtain ⟨t, h1, h2, _⟩ := top_step m ring P (by omega) hP h
      have h3 := sel_add h2 (n := m) h1
      have h4 := sel_len_le m (addP P (t : Int))
      rw [← P_cut (by omega) hP] at h3
      omega
    have hsl := sel_len_le 32 P
    have hz := top_none h0
    refine ⟨acc, P, ?_, ?_, by omega⟩
    · have hp := ev_l3Polite m ring (sel 32 P) (by omega) (P_mem hP) (by omega)
      rw [hz.2] at hp
      apply evshift
      simp only [spec_l3Settle.l0]
      exact evb hp (evp (by simp) (evs _))
    · apply evshift
      simp only [impl_bench_newcomers.l0]
      by_cases c : (acc.length : Int) < 24
      · exact evp c (evb (ev_polite m ring P _ rfl (P_mem hP) (by omega)) (evp hz.1 (evs _)))
      · exact evn c (evs _)
  | succ f ih =>
    intro P acc hP hf ha
    have hsl := sel_len_le 32 P
    have hp := ev_l3Polite m ring (sel 32 P) (by omega) (P_mem hP) (by omega)
    by_cases c0 : 0 < pkF (farF m ring (sel 32 P)) m
    · obtain ⟨t, h1, h2, h3, h4, h5⟩ := top_step m ring P (by omega) hP c0
      obtain ⟨m1, m2, m3, m4⟩ := top_mask (P := P) (by omega) h1 h3 h4
      have hfar := ev_l3Far (m : Int) ring (sel 32 P) (t : Int) (by omega) (P_mem hP) (by omega) (by omega) (by omega)
      rw [h5] at hfar
      by_cases c1 : pkF (farF m ring (sel 32 P)) m < 2
      · refine ⟨acc, P, ?_, ?_, by omega⟩
        · apply evshift
          simp only [spec_l3Settle.l0]
          refine evb hp (evn (by omega) (evp (by omega) ?_))
          rw [m2]
          exact evb hfar (evp c1 (evs _))
        · apply evshift
          simp only [impl_bench_newcomers.l0]
          exact evp (by omega) (evb (ev_polite m ring P _ rfl (P_mem hP) (by omega)) (evn m1 (evp c1 (evs _))))
      · have hadd := sel_add h2 (n := 32) (by omega)
        obtain ⟨A, P', e1, e2, e3⟩ := ih (addP P (t : Int)) (acc ++ [(t : Int)]) (addP_lt hP h1) (by omega) (by simp; omega)
        refine ⟨A, P', ?_, ?_, e3⟩
        · obtain ⟨R, r1, r2, r3, _⟩ := ev_l2With (m : Int) ring (sel 32 P) (t : Int) (by omega) (sel_inc _ _)
          apply evshift
          simp only [spec_l3Settle.l0]
          refine evb hp (evn (by omega) (evp (by omega) ?_))
          rw [m2]
          refine evb hfar (evn c1 (evb r1 ?_))
          rw [addP_sel (by omega) r2 r3, wnext acc.length (by omega)]
          rw [List.length_append, List.length_singleton] at e1
          exact e1
        · have hL := ev_list fun i => decide (i < m) && topB (farF m ring (sel 32 P)) m i
          rw [sel_32 (by omega)] at hL
          apply evshift
          simp only [impl_bench_newcomers.l0]
          refine evp (by omega) (evb (ev_polite m ring P _ rfl (P_mem hP) (by omega)) (evn m1 (evn c1 (evb hL (evp (by omega) (evp (by omega) ?_))))))
          dsimp only
          rw [m2, m4]
          exact e2
    · have hz := top_none c0
      rw [hz.2] at hp
      refine ⟨acc, P, ?_, ?_, by omega⟩
      · apply evshift
        simp only [spec_l3Settle.l0]
        exact evb hp (evp (by simp) (evs _))
      · apply evshift
        simp only [impl_bench_newcomers.l0]
        exact evp (by omega) (evb (ev_polite m ring P _ rfl (P_mem hP) (by omega)) (evp hz.1 (evs _)))
theorem bothSettleRow (n : Int) (ring : Bool) (l : List Int) (hl : l.length ≤ 1048576) : ∃ n' b' R v ok, Ev (fun k => spec_SettleRow.f k n ring l) (n', b', R, v, ok) ∧ Ev (fun k => impl_SettleRow.f k n ring l) (n', b', R, v, ok) ∧ R.length ≤ 1048576 := by
  have hS := ev_l2Row n ring l hl
  have hI := ev_isRow n ring l hl
  unfold spec_SettleRow.f impl_SettleRow.f
  cases hb : rowB n ring l with
  | false =>
    rw [hb] at hS hI
    exact ⟨_, _, _, _, _, evb hS (evn (by simp) (evs _)), evb hI (evn (by simp) (evs _)), by simp⟩
  | true =>
    rw [hb] at hS hI
    have ok := rowB_ok hb
    have := ok.lo; have := ok.hi; have := ok.len
    obtain ⟨m, rfl⟩ : ∃ m : Nat, n = m := ⟨n.toNat, by omega⟩
    simp only [impl_Row_bench.f, spec_l2Made.f, l1Own l hl, Option.bind_some]
    have hT := ev_taken (m : Int) ring l ok.m32 hl
    have h := settle_loop m ring (by omega) (m - l.length) (fun i => decide ((i : Int) ∈ l)) [] (fun i hi => by
      have := ok.mem (i : Int) (by simpa using hi)
      omega) (by rw [ok.sel32]; omega) (by simp)
    rw [ok.sel32] at h
    obtain ⟨A, P', e1, e2, e3⟩ := h
    have hr := ev_benchRow (m : Int) ring P'
    have hsl := sel_len_le 32 P'
    refine ⟨(m : Int), ring, sel 32 P', (A.length : Int), true, evb hS (evp rfl (evb (a := ((m : Int), ring, sel 32 P', (A.length : Int))) ?_ (evs _))), evb hI (evp rfl (evb hT (evb (a := ((M P' : Int), A)) ?_ (evb hr (evs _))))), by omega⟩
    · unfold spec_l3Settle.f
      exact e1
    · unfold impl_bench_newcomers.f
      exact e2
theorem FnExactSettleRow : laws_FnExactSettleRow.Pure := by
  intro n ring l _ hm _
  refine Ev.rounds (g := fun k => laws_FnExactSettleRow.f k n ring l) ?_
  unfold laws_FnExactSettleRow.f
  by_cases hl : l.length ≤ 1048576
  · obtain ⟨n', b', R, v, ok, hS, hI, hR⟩ := bothSettleRow n ring l hl
    refine evc (szRow_ok (by omega) (by omega)) ?_
    repeat (first
      | exact evs true
      | (with_reducible refine evb hS ?_)
      | (with_reducible refine evb hI ?_)
      | (with_reducible refine evb (ev_toIntS _ (by assumption)) ?_)
      | (with_reducible refine evb (ev_toRow _ _ _ (by assumption)) ?_)
      | (with_reducible refine evb (ev_eqIntS _ (by assumption)) ?_)
      | (with_reducible refine evb (ev_eqRow _ _ _ (by assumption)) ?_)
      | (with_reducible refine evb (ev_markIntS _ _ (by assumption) (by omega) (by omega)) ?_)
      | (with_reducible refine evb (ev_markRow _ _ _ _ (by assumption) (by omega) (by omega)) ?_)
      | (with_reducible refine evb (ev_heldIntS _ _ (by assumption) (by omega) (by omega)) ?_)
      | (with_reducible refine evb (ev_heldRow _ _ _ _ (by assumption) (by omega) (by omega)) ?_)
      | (with_reducible show Ev (fun k => laws_FnExactSettleRow.j0 k _ _ _ _ _ _ _ _ _ _ _ _ _ _ _ _ _) _; apply evshift; simp only [laws_FnExactSettleRow.j0])
      | (with_reducible show Ev (fun k => laws_FnExactSettleRow.j1 k _ _ _ _ _ _ _ _ _ _ _ _) _; apply evshift; simp only [laws_FnExactSettleRow.j1])
      | (with_reducible show Ev (fun k => laws_FnExactSettleRow.j2 k _ _ _ _ _) _; apply evshift; simp only [laws_FnExactSettleRow.j2])
      | (refine evp ?hc ?_; (case hc => first | omega | (simp; done)))
      | (refine evn ?hc ?_; (case hc => first | omega | (simp; done)))
      | dsimp only)
  · exact evc (szRow_big (by omega) hm) (evp (by omega) (evs _))

end Go.Proofs.YtjbegmeibbpnmaaDoor.Pure
