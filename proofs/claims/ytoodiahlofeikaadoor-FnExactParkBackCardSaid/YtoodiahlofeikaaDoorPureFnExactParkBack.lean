/- The law laws.FnExactParkBack, told as plain Lean functions of numbers, lists and strings, answers true for every input, if enough rounds are given: the program's ParkBack answers what the reference's answers. Conditions: none but the kinds' own (each number one of its kind, each length one that the model reads). -/
import Derived.Test.YtoodiahlofeikaaDoorPFnExactParkBackx10
import Derived.Test.YtoodiahlofeikaaDoorSFnExactParkBack
namespace Go.Proofs.YtoodiahlofeikaaDoor.Pure
open Go.RowKit Go.Proofs.YtoodiahlofeikaaDoor.PFnExactParkBack Go.Proofs.YtoodiahlofeikaaDoorW.PrintWords Go.Proofs.YtoodiahlofeikaaDoorW.PrintLast Go.Proofs.YtoodiahlofeikaaDoorW.PrintMore Go.Proofs.YtoodiahlofeikaaDoor.Base

/-- The first free seat from p on, d behind it first: f of them are looked at. -/
def aheadF (m : Nat) (ring : Bool) (P : Nat → Bool) (p : Nat) : Nat → Nat → Int
  | 0, _ => -1
  | f + 1, d => if ring = false ∧ m ≤ p + d then -1 else if P ((p + d) % m) = true then aheadF m ring P p f (d + 1) else (((p + d) % m : Nat) : Int)
def parkF (m : Nat) (ring : Bool) (P : Nat → Bool) (p : Nat) : Int := if P p = true then aheadF m ring P p m 0 else (p : Int)
theorem aheadF_bd {m : Nat} {ring : Bool} {P : Nat → Bool} {p : Nat} (hm : 0 < m) : ∀ f d, -1 ≤ aheadF m ring P p f d ∧ aheadF m ring P p f d < (m : Int)
  | 0, d => by unfold aheadF; omega
  | f + 1, d => by
    have := aheadF_bd (ring := ring) (P := P) (p := p) hm f (d + 1)
    have := Nat.mod_lt (p + d) hm
    unfold aheadF
    split
    · omega
    · split <;> omega
theorem parkF_bd {m : Nat} {ring : Bool} {P : Nat → Bool} {p : Nat} (hp : p < m) : -1 ≤ parkF m ring P p ∧ parkF m ring P p < (m : Int) := by
  have := aheadF_bd (ring := ring) (P := P) (p := p) (show 0 < m by omega) m 0
  unfold parkF
  split <;> omega
theorem aheadF_one {m : Nat} {ring : Bool} {P : Nat → Bool} {p : Nat} (hp : p < m) (h : P p = true) : aheadF m ring P p m 0 = aheadF m ring P p (m - 1) 1 := by
  obtain ⟨f, rfl⟩ : ∃ f, m = f + 1 := ⟨m - 1, by omega⟩
  rw [aheadF, if_neg (by omega), Nat.add_zero, Nat.mod_eq_of_lt hp, if_pos h]
  rfl
def addP (P : Nat → Bool) (s : Int) : Nat → Bool := fun i => P i || decide ((i : Int) = s)
/-- Where the cars of the list park, one after the other, and which seats are taken then. -/
def parkL (m : Nat) (ring : Bool) : (Nat → Bool) → List Int → List Int
  | _, [] => []
  | P, x :: xs => parkF m ring P x.toNat :: parkL m ring (addP P (parkF m ring P x.toNat)) xs
def parkP (m : Nat) (ring : Bool) : (Nat → Bool) → List Int → (Nat → Bool)
  | P, [] => P
  | P, x :: xs => parkP m ring (addP P (parkF m ring P x.toNat)) xs
theorem parkL_len (m : Nat) (ring : Bool) : ∀ (xs : List Int) (P : Nat → Bool), (parkL m ring P xs).length = xs.length
  | [], _ => rfl
  | x :: xs, P => by simp [parkL, parkL_len m ring xs]
theorem parkL_mem (m : Nat) (ring : Bool) : ∀ (xs : List Int) (P : Nat → Bool), (∀ x ∈ xs, 0 ≤ x ∧ x < (m : Int)) → ∀ y ∈ parkL m ring P xs, -1 ≤ y ∧ y < (m : Int)
  | [], _, _, y, h => by simp [parkL] at h
  | x :: xs, P, hx, y, h => by
    rw [parkL, List.mem_cons] at h
    rcases h with rfl | h
    · have := hx x (by simp)
      exact parkF_bd (by omega)
    · exact parkL_mem m ring xs _ (fun z hz => hx z (by simp [hz])) y h
theorem addP_neg {P : Nat → Bool} {s : Int} (h : s < 0) : addP P s = P := by
  funext i
  unfold addP
  rw [decide_eq_false (by omega), Bool.or_false]
theorem addP_sel {P : Nat → Bool} {s : Nat} {R : List Int} (hs : s < 32) (hp : R.Pairwise (· < ·)) (h : ∀ y, y ∈ R ↔ y = (s : Int) ∨ y ∈ sel 32 P) : R = sel 32 (addP P (s : Int)) := by
  refine (sel_is hp fun y => ?_).symm
  rw [h, mem_sel]
  constructor
  · rintro (rfl | ⟨i, h1, h2, rfl⟩)
    · exact ⟨s, hs, by simp [addP], rfl⟩
    · exact ⟨i, h1, by simp [addP, h2], rfl⟩
  · rintro ⟨i, h1, h2, rfl⟩
    unfold addP at h2
    rw [Bool.or_eq_true, decide_eq_true_eq] at h2
    rcases h2 with h2 | h2
    · exact .inr ⟨i, h1, h2, rfl⟩
    · exact .inl h2
theorem addP_M {P : Nat → Bool} {s : Nat} (hs : s < 32) : Go.bits .or .u32 (M P : Int) (shl .u32 1 (s : Int)) = (M (addP P (s : Int)) : Int) := by
  rw [M_one hs, M_or]
  refine congrArg _ (M_congr fun i _ => ?_)
  unfold addP
  congr 1
  exact decide_eq_decide.2 (by omega)
theorem in_sel {P : Nat → Bool} {q : Nat} (hq : q < 32) : decide ((q : Int) ∈ sel 32 P) = P q := by
  rw [Bool.eq_iff_iff, decide_eq_true_eq, mem_sel]
  constructor
  · rintro ⟨i, _, h2, e⟩
    obtain rfl : q = i := by omega
    exact h2
  · exact fun h => ⟨q, hq, h, rfl⟩
def streetB (n : Int) (ring : Bool) (l xs : List Int) : Bool := (rowB n ring l && xs.all fun p => decide (0 ≤ p ∧ p ≤ n - 1)) && decide ((xs.length : Int) ≤ 12)
theorem streetB_ok {n : Int} {ring : Bool} {l xs : List Int} (h : streetB n ring l xs = true) : RowOK n ring l ∧ (∀ x ∈ xs, 0 ≤ x ∧ x < n) ∧ xs.length ≤ 12 := by
  simp only [streetB, Bool.and_eq_true, List.all_eq_true, decide_eq_true_eq] at h
  exact ⟨rowB_ok h.1.1, fun x hx => by have := h.1.2 x hx; omega, by omega⟩
theorem eqIntS_loop (l : List Int) (hl : l.length ≤ 1048576) : ∀ d j, j + d = l.length → Ev (fun k => laws_eqIntS.l0 k l l (j : Int)) true
  | 0, j, h => by
    apply evshift
    simp only [laws_eqIntS.l0]
    exact evn (by omega) (evs _)
  | d + 1, j, h => by
    have ih := eqIntS_loop l hl d (j + 1) (by omega)
    apply evshift
    simp only [laws_eqIntS.l0]
    refine evp (by omega) (evp (by omega) (evp (by omega) (evp (by trivial) ?_)))
    rw [wnext j (by omega)]
    exact ih
theorem ev_eqIntS (l : List Int) (hl : l.length ≤ 1048576) : Ev (fun k => laws_eqIntS.f k l l) true := by
  unfold laws_eqIntS.f
  exact evp (by trivial) (eqIntS_loop l hl l.length 0 (by omega))
theorem markIntS_loop (l : List Int) (m : Int) (hl : l.length ≤ 1048576) (h0 : 0 ≤ m) (hm : m ≤ 1099511627776) : ∀ d j, j + d = l.length → Ev (fun k => laws_markIntS.l0 k (marks m j ++ l.drop j) (m + (j : Int)) (j : Int)) (m + (l.length : Int), marks m l.length)
  | 0, j, h => by
    obtain rfl : j = l.length := by omega
    apply evshift
    simp only [laws_markIntS.l0]
    refine evn (by simp [marks_len]) ?_
    simp only [List.drop_length, List.append_nil]
    exact evs _
  | d + 1, j, h => by
    have ih := markIntS_loop l m hl h0 hm d (j + 1) (by omega)
    apply evshift
    simp only [laws_markIntS.l0]
    refine evp (by simp [marks_len]; omega) (evp (by omega) ?_)
    rw [Int.toNat_natCast, set_marks m l j (by omega), wnext j (by omega), w64 (by omega) (by omega), show m + (j : Int) + 1 = m + ((j + 1 : Nat) : Int) by omega]
    exact ih
theorem ev_markIntS (l : List Int) (m : Int) (hl : l.length ≤ 1048576) (h0 : 0 ≤ m) (hm : m ≤ 1099511627776) : Ev (fun k => laws_markIntS.f k l m) (m + (l.length : Int), marks m l.length) := by
  unfold laws_markIntS.f
  have h := markIntS_loop l m hl h0 hm l.length 0 (by omega)
  simpa [marks] using h
theorem heldIntS_loop (n : Nat) (m : Int) (hn : n ≤ 1048576) (h0 : 0 ≤ m) (hm : m ≤ 1099511627776) : ∀ d j, j + d = n → Ev (fun k => laws_heldIntS.l0 k (marks m n) (m + (j : Int)) (j : Int)) (m + (n : Int))
  | 0, j, h => by
    obtain rfl : j = n := by omega
    apply evshift
    simp only [laws_heldIntS.l0]
    exact evn (by rw [marks_len]; omega) (evs _)
  | d + 1, j, h => by
    have ih := heldIntS_loop n m hn h0 hm d (j + 1) (by omega)
    apply evshift
    simp only [laws_heldIntS.l0]
    refine evp (by rw [marks_len]; omega) (evp (by omega) (evp (rd_marks (by omega)) ?_))
    rw [wnext j (by omega), w64 (by omega) (by omega), show m + (j : Int) + 1 = m + ((j + 1 : Nat) : Int) by omega]
    exact ih
theorem ev_heldIntS (n : Nat) (m : Int) (hn : n ≤ 1048576) (h0 : 0 ≤ m) (hm : m ≤ 1099511627776) : Ev (fun k => laws_heldIntS.f k (marks m n) m) (m + (n : Int)) := by
  unfold laws_heldIntS.f
  have h := heldIntS_loop n m hn h0 hm n 0 (by omega)
  simpa using h
theorem sz_big {l : List Int} (h : 1048576 < l.length) (hm : l.length ≤ maxLen) : laws_szIntS.f l 1048576 = some (-1) := by
  unfold maxLen at hm
  unfold laws_szIntS.f
  rw [w64 (by omega) (by omega), if_pos (by omega)]
theorem sz_ok {l : List Int} {m : Int} (h : (l.length : Int) ≤ m) (hm : m ≤ 1048576) : laws_szIntS.f l m = some (m - l.length) := by
  unfold laws_szIntS.f
  rw [w64 (by omega) (by omega), if_neg (by omega)]
theorem szRow_big {a : Int} {b : Bool} {l : List Int} (h : 1048576 < l.length) (hm : l.length ≤ maxLen) : laws_szRow.f a b l 1048576 = some (-1) := by
  unfold laws_szRow.f
  rw [sz_big h hm]
  rfl
theorem szRow_ok {a : Int} {b : Bool} {l : List Int} {m : Int} (h : (l.length : Int) ≤ m) (hm : m ≤ 1048576) : laws_szRow.f a b l m = some (m - l.length) := by
  unfold laws_szRow.f
  rw [sz_ok h hm]
  simp only [Option.bind_some]
  rw [if_neg (by omega)]
theorem toIntS_loop (l : List Int) (hl : l.length ≤ 1048576) : ∀ d j, j + d = l.length → Ev (fun k => laws_toIntS.l0 k l (l.take j ++ List.replicate (l.length - j) 0) (j : Int)) l
  | 0, j, h => by
    apply evshift
    simp only [laws_toIntS.l0]
    refine evn (by omega) ?_
    have e : l.take j ++ List.replicate (l.length - j) 0 = l := by rw [show j = l.length by omega]; simp
    rw [e]
    exact evs _
  | d + 1, j, h => by
    have ih := toIntS_loop l hl d (j + 1) (by omega)
    apply evshift
    simp only [laws_toIntS.l0]
    refine evp (by omega) (evp (by omega) (evp (by simp; omega) ?_))
    rw [Int.toNat_natCast, set_copy l j (by omega), wnext j (by omega)]
    exact ih
theorem ev_toIntS (l : List Int) (hl : l.length ≤ 1048576) : Ev (fun k => laws_toIntS.f k l) l := by
  unfold laws_toIntS.f
  refine evp (by omega) (evp (by omega) ?_)
  have h := toIntS_loop l hl l.length 0 (by omega)
  simpa using h
theorem ev_toRow (a : Int) (b : Bool) (l : List Int) (hl : l.length ≤ 1048576) : Ev (fun k => laws_toRow.f k a b l) (a, b, l) := by
  unfold laws_toRow.f
  exact evb (ev_toIntS l hl) (evs _)
theorem ev_eqRow (a : Int) (b : Bool) (l : List Int) (hl : l.length ≤ 1048576) : Ev (fun k => laws_eqRow.f k a b l a b l) true := by
  unfold laws_eqRow.f
  refine evp (by simp) (evn (by simp) ?_)
  exact evb (ev_eqIntS l hl) (evp (by trivial) (evs _))
theorem ev_markRow (a : Int) (b : Bool) (l : List Int) (m : Int) (hl : l.length ≤ 1048576) (h0 : 0 ≤ m) (hm : m ≤ 1099511627776) : Ev (fun k => laws_markRow.f k a b l m) (m + (l.length : Int), marks m l.length) := by
  unfold laws_markRow.f
  exact evb (ev_markIntS l m hl h0 hm) (evs _)
theorem in_spec (a lo hi : Int) : spec_l1In.f a lo hi = some (decide (lo ≤ a ∧ a ≤ hi)) := by
  unfold spec_l1In.f
  split
  · congr 1; simp; omega
  · congr 1; simp; omega
theorem rising_loop (l : List Int) (m : Int) (hl : l.length ≤ 1048576) : ∀ d j, j + d = l.length → Ev (fun k => spec_l1Rising.l0 k l 0 m (j : Int)) (okFrom m l d j)
  | 0, j, h => by
    apply evshift
    simp only [spec_l1Rising.l0]
    exact evn (by omega) (evs _)
  | d + 1, j, h => by
    have ih := rising_loop l m hl d (j + 1) (by omega)
    apply evshift
    simp only [spec_l1Rising.l0, in_spec, Option.bind_some]
    refine evp (by omega) (evp (by omega) ?_)
    simp only [okFrom, okAt]
    by_cases h1 : 0 ≤ rd l (j : Int) ∧ rd l (j : Int) ≤ m
    · refine evp (by simpa using h1) ?_
      rw [decide_eq_true h1, Bool.true_and]
      by_cases h2 : j = 0
      · refine evn (by omega) ?_
        rw [wnext j (by omega), decide_eq_true h2, Bool.true_or, Bool.true_and]
        exact ih
      · refine evp (by omega) ?_
        rw [w64 (by omega) (by omega)]
        refine evp (by omega) (evp (by omega) ?_)
        by_cases h3 : rd l ((j : Int) - 1) < rd l (j : Int)
        · refine evn (by omega) ?_
          rw [wnext j (by omega)]
          simpa [h3] using ih
        · refine evp (by omega) ?_
          simpa [h2, h3] using evs false
    · refine evn (by simpa using h1) ?_
      simpa [h1] using evs false
theorem ev_rising (l : List Int) (m : Int) (hl : l.length ≤ 1048576) : Ev (fun k => spec_l1Rising.f k l 0 m) (okFrom m l l.length 0) := by
  unfold spec_l1Rising.f
  exact rising_loop l m hl l.length 0 (by omega)
theorem ev_l2Row (n : Int) (ring : Bool) (l : List Int) (hl : l.length ≤ 1048576) : Ev (fun k => spec_l2Row.f k n ring l) (rowB n ring l) := by
  unfold spec_l2Row.f
  simp only [in_spec, Option.bind_some, rowB]
  by_cases h1 : 2 ≤ n ∧ n ≤ 24
  · refine evp (by simpa using h1) ?_
    rw [w64 (by omega) (by omega)]
    cases ring with
    | true =>
      refine evp rfl ?_
      by_cases h2 : n > 2
      · refine evp h2 (evb (ev_rising l _ hl) ?_)
        have h3 : 3 ≤ n := by omega
        simpa [h1, h3] using evs _
      · refine evn h2 ?_
        have h3 : ¬ 3 ≤ n := by omega
        simpa [h3] using evs false
    | false =>
      refine evn (by simp) (evb (ev_rising l _ hl) ?_)
      simpa [h1] using evs _
  · refine evn (by simpa using h1) ?_
    simpa [h1] using evs false
theorem ev_l2Seat (n : Int) (ring : Bool) (l : List Int) (p : Int) (hl : l.length ≤ 1048576) : Ev (fun k => spec_l2Seat.f k n ring l p) (rowB n ring l && decide (0 ≤ p ∧ p ≤ n - 1)) := by
  unfold spec_l2Seat.f
  refine evb (ev_l2Row n ring l hl) ?_
  by_cases h : rowB n ring l = true
  · have ok := rowB_ok h
    have := ok.lo; have := ok.hi
    refine evp h ?_
    simp only [in_spec, Option.bind_some]
    rw [w64 (by omega) (by omega), h, Bool.true_and]
    exact evs _
  · refine evn h ?_
    rw [Bool.not_eq_true] at h
    rw [h, Bool.false_and]
    exact evs _
theorem l6Cars_few (n : Int) (ring : Bool) (l xs : List Int) (hl : l.length ≤ 1048576) (h12 : xs.length ≤ 12) : ∀ d j, j + d = xs.length → Ev (fun k => spec_l6Cars.l0 k xs (j : Int) n ring l) (rowB n ring l && (xs.drop j).all fun p => decide (0 ≤ p ∧ p ≤ n - 1))
  | 0, j, h => by
    rw [List.drop_eq_nil_of_le (by omega), List.all_nil, Bool.and_true]
    apply evshift
    simp only [spec_l6Cars.l0]
    refine evn (by omega) ?_
    apply evshift
    simp only [spec_l6Cars.j1]
    refine evn (by simp) (evb (ev_l2Row n ring l hl) ?_)
    cases hb : rowB n ring l with
    | false => exact evn (by simp) (evs _)
    | true => exact eve (evp rfl (evs _)) (decide_eq_true (by omega))
  | d + 1, j, h => by
    have ih := l6Cars_few n ring l xs hl h12 d (j + 1) (by omega)
    rw [drop_cons (by omega : j < xs.length), List.all_cons]
    apply evshift
    simp only [spec_l6Cars.l0]
    refine evp (by omega) ?_
    apply evshift
    simp only [spec_l6Cars.j1]
    refine evp (by simp; omega) (evp (by omega) (evp (by omega) (evb (ev_l2Seat n ring l _ hl) ?_)))
    rw [wnext j (by omega)]
    cases hb : rowB n ring l with
    | false => exact evn (by simp) (evs _)
    | true =>
      rw [hb] at ih
      by_cases c : 0 ≤ rd xs (j : Int) ∧ rd xs (j : Int) ≤ n - 1
      · rw [decide_eq_true c]
        refine evp (by simp) ?_
        simpa using ih
      · rw [decide_eq_false c]
        exact evn (by simp) (evs _)
theorem l6Cars_many (n : Int) (ring : Bool) (l xs : List Int) (hl : l.length ≤ 1048576) (h12 : 12 < xs.length) : ∀ d (j : Nat), j + d = 13 → Ev (fun k => spec_l6Cars.l0 k xs (j : Int) n ring l) false
  | 0, j, h => by
    have go : Ev (fun k => spec_l6Cars.j1 k xs (j : Int) false n ring l) false := by
      apply evshift
      simp only [spec_l6Cars.j1]
      refine evn (by simp) (evb (ev_l2Row n ring l hl) ?_)
      cases hb : rowB n ring l with
      | false => exact evn (by simp) (evs _)
      | true => exact eve (evp rfl (evs _)) (decide_eq_false (by omega))
    apply evshift
    simp only [spec_l6Cars.l0]
    rw [decide_eq_false (by omega : ¬ (j : Int) ≤ 12)]
    by_cases c : (j : Int) < (xs.length : Int)
    · exact evp c go
    · exact evn c go
  | d + 1, j, h => by
    have ih := l6Cars_many n ring l xs hl h12 d (j + 1) (by omega)
    apply evshift
    simp only [spec_l6Cars.l0]
    refine evp (by omega) ?_
    apply evshift
    simp only [spec_l6Cars.j1]
    refine evp (by simp; omega) (evp (by omega) (evp (by omega) (evb (ev_l2Seat n ring l _ hl) ?_)))
    rw [wnext j (by omega)]
    by_cases c : (rowB n ring l && decide (0 ≤ rd xs (j : Int) ∧ rd xs (j : Int) ≤ n - 1)) = true
    · exact evp c ih
    · exact evn c (evs _)
theorem ev_l6Cars (n : Int) (ring : Bool) (l xs : List Int) (hl : l.length ≤ 1048576) : Ev (fun k => spec_l6Cars.f k n ring l xs) (streetB n ring l xs) := by
  unfold spec_l6Cars.f streetB
  by_cases h : xs.length ≤ 12
  · rw [decide_eq_true (by omega : (xs.length : Int) ≤ 12), Bool.and_true]
    have h := l6Cars_few n ring l xs hl h xs.length 0 (by omega)
    simpa using h
  · rw [decide_eq_false (by omega : ¬ (xs.length : Int) ≤ 12), Bool.and_false]
    exact l6Cars_many n ring l xs hl (by omega) 13 0 (by omega)
theorem l1Own (l : List Int) (hl : l.length ≤ 1048576) : spec_l1Own.f l = some l := by
  unfold spec_l1Own.f
  simp only [Option.bind_some, List.length_nil, List.nil_append]
  rw [if_pos (by omega)]
theorem l1Put_loop (l : List Int) (x : Int) (hl : l.length ≤ 1048576) (hp : l.Pairwise (· < ·)) : ∀ d j, j + d = l.length → (∀ y ∈ l.take j, y < x) →
    ∃ R : List Int, Ev (fun k => spec_l1Put.l0 k l x (j : Int)) R ∧ R.Pairwise (· < ·) ∧ (∀ y, y ∈ R ↔ y = x ∨ y ∈ l) ∧ R.length ≤ l.length + 1
  | 0, j, h, hb => by
    obtain rfl : j = l.length := by omega
    rw [List.take_length] at hb
    refine ⟨l ++ [x], ?_, ?_, fun y => by simp [or_comm], by simp⟩
    · apply evshift
      simp only [spec_l1Put.l0, Option.bind_some, Int.toNat_natCast, List.take_length, List.drop_length, List.nil_append, List.length_nil, List.length_append, List.length_singleton, List.append_nil]
      refine evn (by omega) ?_
      repeat (first | exact evs _ | (refine evp ?hc ?_; (case hc => omega)) | (refine evn ?hc ?_; (case hc => omega)))
    · refine List.pairwise_append.2 ⟨hp, List.pairwise_singleton _ _, fun a ha b hb' => ?_⟩
      rw [List.mem_singleton.1 hb']; exact hb a ha
  | d + 1, j, h, hb => by
    have hj : j < l.length := by omega
    by_cases c1 : rd l (j : Int) < x
    · obtain ⟨R, h1, h2⟩ := l1Put_loop l x hl hp d (j + 1) (by omega) (fun y hy => by
        rw [List.take_succ_eq_append_getElem hj, List.mem_append, List.mem_singleton] at hy
        rcases hy with hy | rfl
        · exact hb y hy
        · rw [rd_lt hj] at c1; exact c1)
      refine ⟨R, ?_, h2⟩
      apply evshift
      simp only [spec_l1Put.l0]
      refine evp (by omega) (evp (by omega) (evp c1 ?_))
      rw [wnext j (by omega)]
      exact h1
    · by_cases c2 : rd l (j : Int) = x
      · refine ⟨l, ?_, hp, fun y => ⟨.inr, fun hy => ?_⟩, by omega⟩
        · apply evshift
          simp only [spec_l1Put.l0]
          exact evp (by omega) (evp (by omega) (evn c1 (evp c2 (evs _))))
        · rcases hy with rfl | hy
          · rw [← c2]; exact rd_mem hj
          · exact hy
      · have hd : ∀ y ∈ l.drop j, x < y := fun y hy => by
          rw [drop_cons hj, List.mem_cons] at hy
          rcases hy with rfl | hy
          · omega
          · have := hp.sublist (List.drop_sublist j l)
            rw [drop_cons hj, List.pairwise_cons] at this
            have := this.1 y hy
            omega
        refine ⟨l.take j ++ [x] ++ l.drop j, ?_, ?_, fun y => ?_, by simp; omega⟩
        · apply evshift
          simp only [spec_l1Put.l0, Option.bind_some, Int.toNat_natCast, List.nil_append, List.length_nil, List.length_append, List.length_singleton, List.length_take, List.length_drop]
          refine evp (by omega) (evp (by omega) (evn c1 (evn c2 ?_)))
          repeat (first | exact evs _ | (refine evp ?hc ?_; (case hc => omega)) | (refine evn ?hc ?_; (case hc => omega)))
        · rw [List.append_assoc]
          refine List.pairwise_append.2 ⟨hp.sublist (List.take_sublist j l), ?_, fun a ha b hb' => ?_⟩
          · rw [List.singleton_append, List.pairwise_cons]
            exact ⟨hd, hp.sublist (List.drop_sublist j l)⟩
          · rw [List.singleton_append, List.mem_cons] at hb'
            have := hb a ha
            rcases hb' with rfl | hb'
            · exact this
            · have := hd b hb'; omega
        · have e : y ∈ l ↔ y ∈ l.take j ∨ y ∈ l.drop j := by rw [← List.mem_append, List.take_append_drop]
          rw [e, List.mem_append, List.mem_append, List.mem_singleton]
          constructor
          · rintro ((h | h) | h)
            · exact .inr (.inl h)
            · exact .inl h
            · exact .inr (.inr h)
          · rintro (h | h | h)
            · exact .inl (.inr h)
            · exact .inl (.inl h)
            · exact .inr h
theorem ev_l1Put (l : List Int) (x : Int) (hl : l.length ≤ 1048576) (hp : l.Pairwise (· < ·)) : ∃ R : List Int, Ev (fun k => spec_l1Put.f k l x) R ∧ R.Pairwise (· < ·) ∧ (∀ y, y ∈ R ↔ y = x ∨ y ∈ l) ∧ R.length ≤ l.length + 1 := by
  unfold spec_l1Put.f
  exact l1Put_loop l x hl hp l.length 0 (by omega) (by simp)
theorem ev_l2With (n : Int) (ring : Bool) (l : List Int) (p : Int) (hl : l.length ≤ 1048576) (hp : l.Pairwise (· < ·)) : ∃ R : List Int, Ev (fun k => spec_l2With.f k n ring l p) (n, ring, R) ∧ R.Pairwise (· < ·) ∧ (∀ y, y ∈ R ↔ y = p ∨ y ∈ l) ∧ R.length ≤ l.length + 1 := by
  obtain ⟨R, h1, h2⟩ := ev_l1Put l p hl hp
  refine ⟨R, ?_, h2⟩
  unfold spec_l2With.f
  simp only [l1Own l hl, Option.bind_some, spec_l2Made.f]
  exact evb h1 (evs _)
theorem l1Has_loop (l : List Int) (x : Int) (hl : l.length ≤ 1048576) : ∀ d j, j + d = l.length → Ev (fun k => spec_l1Has.l0 k l x (j : Int)) (decide (x ∈ l.drop j))
  | 0, j, h => by
    apply evshift
    simp only [spec_l1Has.l0]
    refine evn (by omega) ?_
    rw [List.drop_eq_nil_of_le (by omega)]
    simpa using evs false
  | d + 1, j, h => by
    have ih := l1Has_loop l x hl d (j + 1) (by omega)
    apply evshift
    simp only [spec_l1Has.l0]
    refine evp (by omega) (evp (by omega) ?_)
    rw [drop_cons (by omega : j < l.length)]
    by_cases h1 : rd l (j : Int) = x
    · refine evp h1 ?_
      simpa [h1] using evs true
    · refine evn h1 ?_
      have h2 : ¬ x = rd l (j : Int) := fun h => h1 h.symm
      rw [wnext j (by omega)]
      simpa [h2] using ih
theorem ev_l1Has (l : List Int) (x : Int) (hl : l.length ≤ 1048576) : Ev (fun k => spec_l1Has.f k l x) (decide (x ∈ l)) := by
  unfold spec_l1Has.f
  have h := l1Has_loop l x hl l.length 0 (by omega)
  simpa using h
theorem ev_l2Is (n : Int) (ring : Bool) (l : List Int) (x : Int) (hl : l.length ≤ 1048576) : Ev (fun k => spec_l2Is.f k n ring l x) (decide (x ∈ l)) := by
  unfold spec_l2Is.f
  exact evb (ev_l1Has l x hl) (evs _)
theorem ahead_at (m q j : Nat) (h : q ≤ 1048576) (h' : j ≤ 1048576) : Int.tmod (wrap64 ((q : Int) + (j : Int))) (m : Int) = (((q + j) % m : Nat) : Int) := by
  rw [w64 (by omega) (by omega)]
  rw [show ((q : Int) + (j : Int)) = ((q + j : Nat) : Int) by omega]
  exact (Int.ofNat_tmod _ _).symm
theorem l6Ahead_loop (m : Nat) (ring : Bool) (P : Nat → Bool) (p : Nat) (hm : 0 < m) (hm2 : m ≤ 32) (hp : p < m) : ∀ f d, d + f = m → Ev (fun k => spec_l6Ahead.l0 k (p : Int) (d : Int) (m : Int) ring (sel 32 P)) (aheadF m ring P p f d)
  | 0, d, h => by
    apply evshift
    simp only [spec_l6Ahead.l0]
    exact evn (by omega) (evs _)
  | f + 1, d, h => by
    have ih := l6Ahead_loop m ring P p hm hm2 hp f (d + 1) (by omega)
    have hlt := Nat.mod_lt (p + d) hm
    have hl := sel_len_le 32 P
    have go : ¬ (ring = false ∧ m ≤ p + d) → Ev (fun k => spec_l6Ahead.j1 k (p : Int) (d : Int) false (m : Int) ring (sel 32 P)) (aheadF m ring P p (f + 1) d) := fun hc => by
      rw [aheadF, if_neg hc]
      apply evshift
      simp only [spec_l6Ahead.j1]
      rw [ahead_at m p d (by omega) (by omega), wnext d (by omega)]
      refine evn (by simp) (evn (by omega) (evb (ev_l2Is _ ring _ _ (by omega)) ?_))
      rw [in_sel (by omega)]
      by_cases c : P ((p + d) % m) = true
      · rw [if_pos c]; exact evp c ih
      · rw [if_neg c]; exact evn c (evs _)
    apply evshift
    simp only [spec_l6Ahead.l0]
    refine evp (by omega) ?_
    by_cases hr : ring = true
    · exact evp hr (go (by simp [hr]))
    · refine evn hr ?_
      rw [w64 (by omega) (by omega)]
      by_cases hg : m ≤ p + d
      · rw [decide_eq_true (by omega : (p : Int) + (d : Int) ≥ (m : Int)), aheadF, if_pos ⟨by simpa using hr, hg⟩]
        apply evshift
        simp only [spec_l6Ahead.j1]
        exact evp (by simp) (evs _)
      · rw [decide_eq_false (by omega : ¬ (p : Int) + (d : Int) ≥ (m : Int))]
        exact go (by omega)
theorem ev_l6Ahead (m : Nat) (ring : Bool) (P : Nat → Bool) (p : Nat) (hm2 : m ≤ 32) (hp : p < m) : Ev (fun k => spec_l6Ahead.f k (m : Int) ring (sel 32 P) (p : Int)) (aheadF m ring P p m 0) := by
  unfold spec_l6Ahead.f
  exact l6Ahead_loop m ring P p (by omega) hm2 hp m 0 (by omega)
theorem in_impl (a lo hi : Int) : impl_within.f a lo hi = some (decide (lo ≤ a ∧ a ≤ hi)) := by
  unfold impl_within.f
  split
  · congr 1; simp; omega
  · congr 1; simp; omega
theorem benchValid (n : Int) (ring : Bool) : impl_bench_valid.f n ring = some (decide (2 ≤ n ∧ n ≤ 24) && (!ring || decide (3 ≤ n))) := by
  unfold impl_bench_valid.f
  simp only [in_impl, Option.bind_some]
  by_cases h1 : 2 ≤ n ∧ n ≤ 24
  · rw [if_pos (by simpa using h1)]
    cases ring <;> simp [h1]
  · rw [if_neg (by simpa using h1)]
    simp [h1]
theorem allWithin_loop (l : List Int) (lo hi : Int) (hl : l.length ≤ 1048576) : ∀ d j, j + d = l.length → Ev (fun k => impl_allWithin.l0 k lo hi l (l.length : Int) (j : Int)) ((l.drop j).all fun x => decide (lo ≤ x ∧ x ≤ hi))
  | 0, j, h => by
    apply evshift
    simp only [impl_allWithin.l0]
    refine evn (by omega) ?_
    rw [List.drop_eq_nil_of_le (by omega)]
    exact evs _
  | d + 1, j, h => by
    have ih := allWithin_loop l lo hi hl d (j + 1) (by omega)
    apply evshift
    simp only [impl_allWithin.l0, in_impl, Option.bind_some]
    refine evp (by omega) (evp (by omega) (evp (by omega) ?_))
    rw [drop_cons (by omega : j < l.length), List.all_cons]
    by_cases h1 : lo ≤ rd l (j : Int) ∧ rd l (j : Int) ≤ hi
    · refine evp (by simpa using h1) ?_
      rw [wnext j (by omega)]
      simpa [h1] using ih
    · refine evn (by simpa using h1) ?_
      simpa [h1] using evs false
theorem ev_allWithin (l : List Int) (lo hi : Int) (hl : l.length ≤ 1048576) : Ev (fun k => impl_allWithin.f k l lo hi) (l.all fun x => decide (lo ≤ x ∧ x ≤ hi)) := by
  unfold impl_allWithin.f
  have h := allWithin_loop l lo hi hl l.length 0 (by omega)
  simpa using h
theorem ev_benchHas (n : Int) (ring : Bool) (l : List Int) (hl : l.length ≤ 1048576) : Ev (fun k => impl_bench_has.f k n ring l) (l.all fun x => decide (0 ≤ x ∧ x ≤ wrap64 (n - 1))) := by
  unfold impl_bench_has.f
  exact evb (ev_allWithin l 0 _ hl) (evs _)
theorem isRow_loop (n : Int) (ring : Bool) (l : List Int) (hl : l.length ≤ 1048576) : ∀ d j, j + d = l.length →
    Ev (fun k => impl_IsRow.l0 k l (l.length : Int) (j : Int) n ring l) (okFrom (wrap64 (n - 1)) l d j && (decide (2 ≤ n ∧ n ≤ 24) && (!ring || decide (3 ≤ n))))
  | 0, j, h => by
    apply evshift
    simp only [impl_IsRow.l0, impl_Row_bench.f, Option.bind_some, benchValid]
    refine evn (by omega) ?_
    simpa [okFrom] using evs _
  | d + 1, j, h => by
    have ih := isRow_loop n ring l hl d (j + 1) (by omega)
    apply evshift
    simp only [impl_IsRow.l0, impl_Row_bench.f, Option.bind_some]
    refine evp (by omega) (evp (by omega) (evp (by omega) ?_))
    refine evb (ev_benchHas n ring [rd l (j : Int)] (by simp)) ?_
    simp only [okFrom, okAt, List.all_cons, List.all_nil, Bool.and_true]
    by_cases h1 : 0 ≤ rd l (j : Int) ∧ rd l (j : Int) ≤ wrap64 (n - 1)
    · refine evp (by simpa using h1) ?_
      rw [decide_eq_true h1, Bool.true_and]
      by_cases h2 : j = 0
      · refine evn (by omega) ?_
        rw [wnext j (by omega), decide_eq_true h2, Bool.true_or, Bool.true_and]
        exact ih
      · refine evp (by omega) ?_
        rw [w64 (by omega) (by omega)]
        refine evp (by omega) (evp (by omega) ?_)
        by_cases h3 : rd l ((j : Int) - 1) < rd l (j : Int)
        · refine evn (by omega) ?_
          rw [wnext j (by omega)]
          simpa [h3] using ih
        · refine evp (by omega) ?_
          simpa [h2, h3] using evs false
    · refine evn (by simpa using h1) ?_
      simpa [h1] using evs false
theorem ev_isRow (n : Int) (ring : Bool) (l : List Int) (hl : l.length ≤ 1048576) : Ev (fun k => impl_IsRow.f k n ring l) (rowB n ring l) := by
  unfold impl_IsRow.f
  refine eve (isRow_loop n ring l hl l.length 0 (by omega)) ?_
  unfold rowB
  by_cases h1 : 2 ≤ n ∧ n ≤ 24
  · rw [w64 (by omega) (by omega)]
    cases okFrom (n - 1) l l.length 0 <;> simp [h1]
  · simp [h1]
theorem ev_isSeat (n : Int) (ring : Bool) (l ps : List Int) (hl : l.length ≤ 1048576) (hp : ps.length ≤ 1048576) : Ev (fun k => impl_isSeat.f k n ring l ps) (rowB n ring l && ps.all fun p => decide (0 ≤ p ∧ p ≤ n - 1)) := by
  unfold impl_isSeat.f
  refine evb (ev_isRow n ring l hl) ?_
  by_cases h : rowB n ring l = true
  · have ok := rowB_ok h
    have := ok.lo; have := ok.hi
    refine evp h ?_
    simp only [impl_Row_bench.f, Option.bind_some]
    refine evb (ev_benchHas n ring ps hp) ?_
    rw [w64 (by omega) (by omega), h, Bool.true_and]
    exact evs _
  · refine evn h ?_
    rw [Bool.not_eq_true] at h
    rw [h, Bool.false_and]
    exact evs _
theorem ev_isStreet (n : Int) (ring : Bool) (l xs : List Int) (hl : l.length ≤ 1048576) (hx : xs.length ≤ 1048576) : Ev (fun k => impl_isStreet.f k n ring l xs) (streetB n ring l xs) := by
  unfold impl_isStreet.f streetB
  refine evb (ev_isSeat n ring l xs hl hx) ?_
  cases hb : (rowB n ring l && xs.all fun p => decide (0 ≤ p ∧ p ≤ n - 1)) with
  | false => exact evn (by simp) (evs _)
  | true => exact eve (evp rfl (evs _)) (by simp)
theorem setOf_loop (l : List Int) (hm : ∀ x ∈ l, 0 ≤ x ∧ x < 32) (hl : l.length ≤ 1048576) : ∀ d j (P : Nat → Bool), j + d = l.length →
    Ev (fun k => impl_setOf.l0 k (M P : Int) l (l.length : Int) (j : Int)) (M (fun i => P i || decide ((i : Int) ∈ l.drop j)) : Int)
  | 0, j, P, h => by
    apply evshift
    simp only [impl_setOf.l0]
    refine evn (by omega) ?_
    rw [List.drop_eq_nil_of_le (by omega)]
    simpa using evs _
  | d + 1, j, P, h => by
    apply evshift
    simp only [impl_setOf.l0]
    have hr := hm _ (rd_mem (by omega : j < l.length))
    refine evp (by omega) (evp (by omega) (evp (by omega) (evp (by omega) ?_)))
    obtain ⟨p, hp⟩ : ∃ p : Nat, rd l (j : Int) = (p : Int) := ⟨(rd l (j : Int)).toNat, by omega⟩
    rw [hp] at hr
    rw [hp, M_one (by omega), M_or, wnext j (by omega)]
    refine eve (setOf_loop l hm hl d (j + 1) _ (by omega)) ?_
    rw [drop_cons (by omega : j < l.length), hp]
    refine congrArg _ (M_congr fun i _ => ?_)
    by_cases e : i = p
    · subst e; simp
    · have : ¬ (i : Int) = (p : Int) := by omega
      simp [e, this]
theorem ev_setOf (l : List Int) (hm : ∀ x ∈ l, 0 ≤ x ∧ x < 32) (hl : l.length ≤ 1048576) : Ev (fun k => impl_setOf.f k l) (M (fun i => decide ((i : Int) ∈ l)) : Int) := by
  unfold impl_setOf.f
  have h := setOf_loop l hm hl l.length 0 (fun _ => false) (by omega)
  rw [← M_zero] at h
  simpa using h
theorem ev_taken (n : Int) (ring : Bool) (l : List Int) (hm : ∀ x ∈ l, 0 ≤ x ∧ x < 32) (hl : l.length ≤ 1048576) : Ev (fun k => impl_Row_taken.f k n ring l) (M (fun i => decide ((i : Int) ∈ l)) : Int) := by
  unfold impl_Row_taken.f
  exact evb (ev_setOf l hm hl) (evs _)
theorem setHas {P : Nat → Bool} {p : Nat} (h : p < 32) : impl_set_has.f (M P : Int) (p : Int) = some (P p) := by
  unfold impl_set_has.f
  rw [if_pos (by omega), M_has h]
  cases P p <;> rfl
theorem park_loop (m : Nat) (ring : Bool) (P : Nat → Bool) (p : Nat) (hm : 0 < m) (hm2 : m ≤ 32) (hp : p < m) : ∀ f d, d + f = m → Ev (fun k => impl_bench_park.l1 k (M P : Int) (p : Int) (d : Int) (m : Int) ring) (aheadF m ring P p f d)
  | 0, d, h => by
    apply evshift
    simp only [impl_bench_park.l1]
    exact evn (by omega) (evs _)
  | f + 1, d, h => by
    have ih := park_loop m ring P p hm hm2 hp f (d + 1) (by omega)
    have hlt := Nat.mod_lt (p + d) hm
    have go : ¬ (ring = false ∧ m ≤ p + d) → Ev (fun k => impl_bench_park.j4 k (M P : Int) (p : Int) (d : Int) ((p + d : Nat) : Int) false (m : Int) ring) (aheadF m ring P p (f + 1) d) := fun hc => by
      rw [aheadF, if_neg hc]
      apply evshift
      simp only [impl_bench_park.j4]
      rw [show Int.tmod ((p + d : Nat) : Int) (m : Int) = (((p + d) % m : Nat) : Int) from (Int.ofNat_tmod _ _).symm, wnext d (by omega)]
      refine evn (by simp) (evn (by omega) (evc (setHas (by omega)) ?_))
      by_cases c : P ((p + d) % m) = true
      · rw [if_pos c]; exact evp c ih
      · rw [if_neg c]; exact evn c (evs _)
    apply evshift
    simp only [impl_bench_park.l1]
    rw [w64 (by omega) (by omega), show ((p : Int) + (d : Int)) = ((p + d : Nat) : Int) by omega]
    refine evp (by omega) ?_
    by_cases hg : m ≤ p + d
    · refine evp (by omega) ?_
      cases ring with
      | true => exact go (by simp)
      | false =>
        rw [aheadF, if_pos ⟨rfl, hg⟩]
        apply evshift
        simp only [impl_bench_park.j4]
        exact evp (by simp) (evs _)
    · exact evn (by omega) (go (by omega))
theorem ev_park0 (m : Nat) (ring : Bool) (P : Nat → Bool) (p : Nat) (hm2 : m ≤ 32) (hp : p < m) : Ev (fun k => impl_bench_park.f k (m : Int) ring (M P : Int) (p : Int) 0) (parkF m ring P p) := by
  unfold impl_bench_park.f parkF
  refine evc (setHas (by omega)) ?_
  by_cases c : P p = true
  · rw [if_pos c, aheadF_one hp c]
    refine evp c ?_
    apply evshift
    simp only [impl_bench_park.l0]
    refine evn ?_ ?_
    · rw [w64 (by omega) (by omega)]
      unfold mn
      repeat' split
      all_goals omega
    · apply evshift
      simp only [impl_bench_park.j2]
      exact park_loop m ring P p (by omega) hm2 hp (m - 1) 1 (by omega)
  · rw [if_neg c]
    exact evn c (evs _)
theorem tz_table : ∀ t : Nat, t < 32 → (0 ≤ ((((2 ^ t : Nat) : Int) * 125613361) % 4294967296) / 134217728) ∧ ((((2 ^ t : Nat) : Int) * 125613361) % 4294967296) / 134217728 < 32 ∧ wrap64 (rd xtab0 (((((2 ^ t : Nat) : Int) * 125613361) % 4294967296) / 134217728)) = (t : Int) := by decide +kernel
theorem tz_at {P : Nat → Bool} {t : Nat} (h32 : t < 32) (ht : P t = true) (hl : ∀ i, i < t → P i = false) : bits_TrailingZeros32.f (M P : Int) = some (t : Int) := by
  have h0 : ¬ ((M P : Nat) : Int) = 0 := fun h => by have := M_eq_zero.1 h t h32; rw [this] at ht; cases ht
  obtain ⟨h1, h2, h3⟩ := tz_table t h32
  unfold bits_TrailingZeros32.f
  rw [if_neg h0, (M_low h32 ht hl).1, if_pos h1, if_pos h2, h3]
theorem list_loop : ∀ (d : Nat) (P : Nat → Bool) (acc : List Int), (sel 32 P).length = d → acc.length + d ≤ 1048576 → Ev (fun k => impl_set_list.l0 k (M P : Int) acc) (acc ++ sel 32 P)
  | 0, P, acc, h, _ => by
    have hn : sel 32 P = [] := List.eq_nil_of_length_eq_zero h
    have hz : ∀ i, i < 32 → P i = false := fun i hi => by
      cases hp : P i with
      | false => rfl
      | true =>
        have : (i : Int) ∈ sel 32 P := mem_sel.2 ⟨i, hi, hp, rfl⟩
        rw [hn] at this; cases this
    apply evshift
    simp only [impl_set_list.l0]
    refine evp (M_eq_zero.2 hz) ?_
    rw [hn, List.append_nil]
    exact evs _
  | d + 1, P, acc, h, hb => by
    have hex : ∃ i, i < 32 ∧ P i = true := by
      rcases Classical.em (∃ i, i < 32 ∧ P i = true) with h1 | h1
      · exact h1
      · have : sel 32 P = [] := sel_none fun i hi => by
          cases hp : P i with
          | false => rfl
          | true => exact absurd ⟨i, hi, hp⟩ h1
        rw [this] at h; cases h
    obtain ⟨t, h1, h2, h3⟩ := least_of hex
    have hs := sel_low h1 h2 h3
    have h0 : ¬ ((M P : Nat) : Int) = 0 := fun h => by have := M_eq_zero.1 h t h1; rw [this] at h2; cases h2
    apply evshift
    simp only [impl_set_list.l0, tz_at h1 h2 h3, Option.bind_some, (M_low h1 h2 h3).2]
    refine evn h0 (evp (by omega) ?_)
    rw [hs, List.length_cons] at h
    refine eve (list_loop d _ (acc ++ [(t : Int)]) (by omega) (by rw [List.length_append, List.length_singleton]; omega)) ?_
    rw [hs, List.append_assoc]; rfl
theorem ev_list (P : Nat → Bool) : Ev (fun k => impl_set_list.f k (M P : Int)) (sel 32 P) := by
  unfold impl_set_list.f
  have h := list_loop _ P [] rfl (by have := sel_len_le 32 P; simp; omega)
  simpa using h
theorem ev_benchRow (n : Int) (ring : Bool) (P : Nat → Bool) : Ev (fun k => impl_bench_row.f k n ring (M P : Int)) (n, ring, sel 32 P) := by
  unfold impl_bench_row.f
  exact evb (ev_list P) (evs _)
theorem ev_heldRow (a : Int) (b : Bool) (n : Nat) (m : Int) (hn : n ≤ 1048576) (h0 : 0 ≤ m) (hm : m ≤ 1099511627776) : Ev (fun k => laws_heldRow.f k a b (marks m n) m) (m + (n : Int)) := by
  unfold laws_heldRow.f
  exact evb (ev_heldIntS n m hn h0 hm) (evn (by omega) (evs _))
/-- The first free seat on the way back from p, d behind it first: f of them are looked at. -/
def backF (m : Nat) (ring : Bool) (P : Nat → Bool) (p : Nat) : Nat → Nat → Option Int
  | 0, _ => none
  | f + 1, d => if ring = false ∧ p < d then none else if P ((p + m - d) % m) = true then backF m ring P p f (d + 1) else some (((p + m - d) % m : Nat) : Int)
def parkB (m : Nat) (ring : Bool) (kk : Nat) (P : Nat → Bool) (p : Nat) : Int := if P p = true then (backF m ring P p (min kk (m - 1)) 1).getD (aheadF m ring P p m 0) else (p : Int)
theorem backF_bd {m : Nat} {ring : Bool} {P : Nat → Bool} {p : Nat} {A : Int} (hm : 0 < m) (hA : -1 ≤ A ∧ A < (m : Int)) : ∀ f d, -1 ≤ (backF m ring P p f d).getD A ∧ (backF m ring P p f d).getD A < (m : Int)
  | 0, d => by unfold backF; exact hA
  | f + 1, d => by
    have ih := backF_bd (ring := ring) (P := P) (p := p) hm hA f (d + 1)
    have := Nat.mod_lt (p + m - d) hm
    unfold backF
    split
    · exact hA
    · split
      · exact ih
      · simp only [Option.getD_some]; omega
theorem parkB_bd {m : Nat} {ring : Bool} {kk : Nat} {P : Nat → Bool} {p : Nat} (hp : p < m) : -1 ≤ parkB m ring kk P p ∧ parkB m ring kk P p < (m : Int) := by
  unfold parkB
  split
  · exact backF_bd (by omega) (aheadF_bd (by omega) m 0) _ 1
  · omega
def parkLB (m : Nat) (ring : Bool) (kk : Nat) : (Nat → Bool) → List Int → List Int
  | _, [] => []
  | P, x :: xs => parkB m ring kk P x.toNat :: parkLB m ring kk (addP P (parkB m ring kk P x.toNat)) xs
def parkPB (m : Nat) (ring : Bool) (kk : Nat) : (Nat → Bool) → List Int → (Nat → Bool)
  | P, [] => P
  | P, x :: xs => parkPB m ring kk (addP P (parkB m ring kk P x.toNat)) xs
theorem parkLB_len (m : Nat) (ring : Bool) (kk : Nat) : ∀ (xs : List Int) (P : Nat → Bool), (parkLB m ring kk P xs).length = xs.length
  | [], _ => rfl
  | x :: xs, P => by simp [parkLB, parkLB_len m ring kk xs]
theorem back_at (m p d : Nat) (h : p ≤ 1048576) (h' : d ≤ 1048576) (hm : m ≤ 1048576) (hd : d < m) : Int.tmod (wrap64 (wrap64 ((p : Int) - (d : Int)) + (m : Int))) (m : Int) = (((p + m - d) % m : Nat) : Int) := by
  rw [w64 (x := (p : Int) - (d : Int)) (by omega) (by omega), w64 (by omega) (by omega)]
  rw [show ((p : Int) - (d : Int) + (m : Int)) = ((p + m - d : Nat) : Int) by omega]
  exact (Int.ofNat_tmod _ _).symm
theorem l6Back_loop (m : Nat) (ring : Bool) (P : Nat → Bool) (p kk : Nat) (hm2 : m ≤ 32) (hp : p < m) (hk : kk ≤ 24) : ∀ f d, d + f = min kk (m - 1) + 1 → 1 ≤ d → Ev (fun k => spec_l6Back.l0 k (p : Int) (kk : Int) (d : Int) (m : Int) ring (sel 32 P)) ((backF m ring P p f d).getD (aheadF m ring P p m 0))
  | 0, d, h, h1 => by
    have ha := ev_l6Ahead m ring P p hm2 hp
    have go : Ev (fun k => spec_l6Back.j1 k (p : Int) (kk : Int) (d : Int) false (m : Int) ring (sel 32 P)) (aheadF m ring P p m 0) := by
      apply evshift
      simp only [spec_l6Back.j1]
      exact evn (by simp) (evb ha (evs _))
    rw [backF, Option.getD_none]
    apply evshift
    simp only [spec_l6Back.l0]
    by_cases c : (d : Int) ≤ (kk : Int)
    · refine evp c ?_
      rw [decide_eq_false (by omega : ¬ (d : Int) < (m : Int))]
      exact go
    · exact evn c go
  | f + 1, d, h, h1 => by
    have ha := ev_l6Ahead m ring P p hm2 hp
    have ih := l6Back_loop m ring P p kk hm2 hp hk f (d + 1) (by omega) (by omega)
    have hl := sel_len_le 32 P
    have hlt := Nat.mod_lt (p + m - d) (show 0 < m by omega)
    have go : ¬ (ring = false ∧ p < d) → Ev (fun k => spec_l6Back.j2 k (p : Int) (kk : Int) (d : Int) false (m : Int) ring (sel 32 P)) ((backF m ring P p (f + 1) d).getD (aheadF m ring P p m 0)) := fun hc => by
      rw [backF, if_neg hc]
      apply evshift
      simp only [spec_l6Back.j2]
      rw [back_at m p d (by omega) (by omega) (by omega) (by omega), wnext d (by omega)]
      refine evn (by simp) (evn (by omega) (evb (ev_l2Is _ ring _ _ (by omega)) ?_))
      rw [in_sel (by omega)]
      by_cases c : P ((p + m - d) % m) = true
      · rw [if_pos c]; exact evp c ih
      · rw [if_neg c]; exact evn c (evs _)
    apply evshift
    simp only [spec_l6Back.l0]
    refine evp (by omega) ?_
    rw [decide_eq_true (by omega : (d : Int) < (m : Int))]
    apply evshift
    simp only [spec_l6Back.j1]
    refine evp trivial ?_
    by_cases hr : ring = true
    · exact evp hr (go (by simp [hr]))
    · refine evn hr ?_
      by_cases hg : p < d
      · rw [decide_eq_true (by omega : (d : Int) > (p : Int)), backF, if_pos ⟨by simpa using hr, hg⟩, Option.getD_none]
        apply evshift
        simp only [spec_l6Back.j2]
        exact evp trivial (evb ha (evs _))
      · rw [decide_eq_false (by omega : ¬ (d : Int) > (p : Int))]
        exact go (by omega)
theorem ev_l6BackK (m : Nat) (ring : Bool) (P : Nat → Bool) (p kk : Nat) (hm2 : m ≤ 32) (hp : p < m) (hk : kk ≤ 24) : Ev (fun k => spec_l6Back.f k (m : Int) ring (sel 32 P) (p : Int) (kk : Int)) (parkB m ring kk P p) := by
  have hl := sel_len_le 32 P
  unfold spec_l6Back.f parkB
  refine evb (ev_l2Is _ ring _ _ (by omega)) ?_
  rw [in_sel (by omega)]
  by_cases c : P p = true
  · rw [if_pos c]
    exact evp c (l6Back_loop m ring P p kk hm2 hp hk _ 1 (by omega) (by omega))
  · rw [if_neg c]
    exact evn c (evs _)
theorem l6ParkK_loop (m : Nat) (ring : Bool) (kk : Nat) (hk : kk ≤ 24) (xs : List Int) (hm2 : m ≤ 32) (hx : ∀ x ∈ xs, 0 ≤ x ∧ x < (m : Int)) (hl : xs.length ≤ 1048576) : ∀ d j (acc : List Int) (P : Nat → Bool), j + d = xs.length → acc.length ≤ j →
    Ev (fun k => spec_l6Park.l0 k xs (kk : Int) acc (j : Int) (m : Int) ring (sel 32 P)) (acc ++ parkLB m ring kk P (xs.drop j), (m : Int), ring, sel 32 (parkPB m ring kk P (xs.drop j)))
  | 0, j, acc, P, h, _ => by
    rw [List.drop_eq_nil_of_le (by omega)]
    apply evshift
    simp only [spec_l6Park.l0, parkLB, parkPB, List.append_nil]
    exact evn (by omega) (evs _)
  | d + 1, j, acc, P, h, ha => by
    have hj : j < xs.length := by omega
    have hb := hx _ (rd_mem hj)
    obtain ⟨p, hp⟩ : ∃ p : Nat, rd xs (j : Int) = (p : Int) := ⟨(rd xs (j : Int)).toNat, by omega⟩
    have bd := parkB_bd (ring := ring) (kk := kk) (P := P) (show p < m by omega)
    have hsl := sel_len_le 32 P
    rw [drop_cons hj, hp, parkLB, parkPB, Int.toNat_natCast]
    have ih := l6ParkK_loop m ring kk hk xs hm2 hx hl d (j + 1) (acc ++ [parkB m ring kk P p]) (addP P (parkB m ring kk P p)) (by omega) (by simp; omega)
    rw [List.append_assoc, List.singleton_append] at ih
    apply evshift
    simp only [spec_l6Park.l0]
    rw [hp]
    refine evp (by omega) (evp (by omega) (evb (ev_l6BackK m ring P p kk hm2 (by omega) hk) (evp (by omega) ?_)))
    simp only [Option.bind_some]
    rw [wnext j (by omega)]
    by_cases c : parkB m ring kk P p ≥ 0
    · obtain ⟨s, hs⟩ : ∃ s : Nat, parkB m ring kk P p = (s : Int) := ⟨(parkB m ring kk P p).toNat, by omega⟩
      obtain ⟨R, h1, h2, h3, _⟩ := ev_l2With (m : Int) ring (sel 32 P) (parkB m ring kk P p) (by omega) (sel_inc _ _)
      refine evp c (evb h1 ?_)
      rw [hs] at h3
      rw [addP_sel (by omega) h2 h3, ← hs]
      exact ih
    · refine evn c ?_
      rw [addP_neg (by omega)] at ih ⊢
      exact ih
theorem ev_l6ParkK (m : Nat) (ring : Bool) (kk : Nat) (hk : kk ≤ 24) (P : Nat → Bool) (l xs : List Int) (hs : sel 32 P = l) (hm2 : m ≤ 32) (hx : ∀ x ∈ xs, 0 ≤ x ∧ x < (m : Int)) (hl : xs.length ≤ 1048576) : Ev (fun k => spec_l6Park.f k (m : Int) ring l xs (kk : Int)) (parkLB m ring kk P xs, (m : Int), ring, sel 32 (parkPB m ring kk P xs)) := by
  subst hs
  have hsl := sel_len_le 32 P
  unfold spec_l6Park.f
  simp only [l1Own _ (show (sel 32 P).length ≤ 1048576 by omega), Option.bind_some, spec_l2Made.f]
  have h := l6ParkK_loop m ring kk hk xs hm2 hx hl xs.length 0 [] P (by omega) (by simp)
  simpa using h
theorem back_loop (m : Nat) (ring : Bool) (P : Nat → Bool) (p kk : Nat) (hm2 : m ≤ 32) (hp : p < m) (hk : kk ≤ 24) (hP : P p = true) : ∀ f d, d + f = min kk (m - 1) + 1 → 1 ≤ d → Ev (fun k => impl_bench_park.l0 k (M P : Int) (p : Int) (kk : Int) (d : Int) (m : Int) ring) ((backF m ring P p f d).getD (aheadF m ring P p m 0))
  | 0, d, h, h1 => by
    rw [backF, Option.getD_none, aheadF_one hp hP]
    apply evshift
    simp only [impl_bench_park.l0]
    refine evn ?_ ?_
    · rw [w64 (x := (m : Int) - 1) (by omega) (by omega)]
      unfold mn
      repeat' split
      all_goals omega
    · apply evshift
      simp only [impl_bench_park.j2]
      exact park_loop m ring P p (by omega) hm2 hp (m - 1) 1 (by omega)
  | f + 1, d, h, h1 => by
    have ih := back_loop m ring P p kk hm2 hp hk hP f (d + 1) (by omega) (by omega)
    have hlt := Nat.mod_lt (p + m - d) (show 0 < m by omega)
    have go : ¬ (ring = false ∧ p < d) → Ev (fun k => impl_bench_park.j1 k (M P : Int) (p : Int) (kk : Int) (d : Int) (wrap64 ((p : Int) - (d : Int))) false (m : Int) ring) ((backF m ring P p (f + 1) d).getD (aheadF m ring P p m 0)) := fun hc => by
      rw [backF, if_neg hc]
      apply evshift
      simp only [impl_bench_park.j1]
      rw [back_at m p d (by omega) (by omega) (by omega) (by omega), wnext d (by omega)]
      refine evn (by simp) (evn (by omega) (evc (setHas (by omega)) ?_))
      by_cases c : P ((p + m - d) % m) = true
      · rw [if_pos c]; exact evp c ih
      · rw [if_neg c]; exact evn c (evs _)
    apply evshift
    simp only [impl_bench_park.l0]
    refine evp ?_ ?_
    · rw [w64 (x := (m : Int) - 1) (by omega) (by omega)]
      unfold mn
      repeat' split
      all_goals omega
    · by_cases hg : p < d
      · refine evp (by rw [w64 (by omega) (by omega)]; omega) ?_
        cases ring with
        | true => exact go (by simp)
        | false =>
          rw [backF, if_pos ⟨rfl, hg⟩, Option.getD_none, aheadF_one hp hP]
          apply evshift
          simp only [impl_bench_park.j1]
          refine evp (by simp) ?_
          apply evshift
          simp only [impl_bench_park.j2]
          exact park_loop m false P p (by omega) hm2 hp (m - 1) 1 (by omega)
      · exact evn (by rw [w64 (by omega) (by omega)]; omega) (go (by omega))
theorem ev_parkK (m : Nat) (ring : Bool) (P : Nat → Bool) (p kk : Nat) (hm2 : m ≤ 32) (hp : p < m) (hk : kk ≤ 24) : Ev (fun k => impl_bench_park.f k (m : Int) ring (M P : Int) (p : Int) (kk : Int)) (parkB m ring kk P p) := by
  unfold impl_bench_park.f parkB
  refine evc (setHas (by omega)) ?_
  by_cases c : P p = true
  · rw [if_pos c]
    exact evp c (back_loop m ring P p kk hm2 hp hk c _ 1 (by omega) (by omega))
  · rw [if_neg c]
    exact evn c (evs _)
theorem parkedK_loop (m : Nat) (ring : Bool) (kk : Nat) (hk : kk ≤ 24) (l xs : List Int) (hm2 : m ≤ 32) (hx : ∀ x ∈ xs, 0 ≤ x ∧ x < (m : Int)) (hl : xs.length ≤ 1048576) : ∀ d j (acc : List Int) (P : Nat → Bool), j + d = xs.length → acc.length ≤ j →
    Ev (fun k => impl_Row_parked.l0 k (kk : Int) acc (M P : Int) xs (xs.length : Int) (j : Int) (m : Int) ring l) (acc ++ parkLB m ring kk P (xs.drop j), (M (parkPB m ring kk P (xs.drop j)) : Int))
  | 0, j, acc, P, h, _ => by
    rw [List.drop_eq_nil_of_le (by omega)]
    apply evshift
    simp only [impl_Row_parked.l0, parkLB, parkPB, List.append_nil]
    exact evn (by omega) (evs _)
  | d + 1, j, acc, P, h, ha => by
    have hj : j < xs.length := by omega
    have hb := hx _ (rd_mem hj)
    obtain ⟨p, hp⟩ : ∃ p : Nat, rd xs (j : Int) = (p : Int) := ⟨(rd xs (j : Int)).toNat, by omega⟩
    have bd := parkB_bd (ring := ring) (kk := kk) (P := P) (show p < m by omega)
    rw [drop_cons hj, hp, parkLB, parkPB, Int.toNat_natCast]
    have ih := parkedK_loop m ring kk hk l xs hm2 hx hl d (j + 1) (acc ++ [parkB m ring kk P p]) (addP P (parkB m ring kk P p)) (by omega) (by simp; omega)
    rw [List.append_assoc, List.singleton_append] at ih
    apply evshift
    simp only [impl_Row_parked.l0, impl_Row_bench.f, Option.bind_some]
    rw [hp]
    refine evp (by omega) (evp (by omega) (evp (by omega) (evb (ev_parkK m ring P p kk hm2 (by omega) hk) ?_)))
    rw [wnext j (by omega)]
    by_cases c : parkB m ring kk P p ≥ 0
    · obtain ⟨s, hs⟩ : ∃ s : Nat, parkB m ring kk P p = (s : Int) := ⟨(parkB m ring kk P p).toNat, by omega⟩
      refine evp c (evp c (evp (by omega) ?_))
      rw [show Go.bits .or .u32 (M P : Int) (shl .u32 1 (parkB m ring kk P p)) = (M (addP P (parkB m ring kk P p)) : Int) by rw [hs]; exact addP_M (by omega)]
      exact ih
    · refine evn c (evp (by omega) ?_)
      rw [addP_neg (by omega)] at ih ⊢
      exact ih
theorem ev_parkedK (m : Nat) (ring : Bool) (kk : Nat) (hk : kk ≤ 24) (l xs : List Int) (hm2 : m ≤ 32) (h32 : ∀ x ∈ l, 0 ≤ x ∧ x < 32) (hl' : l.length ≤ 1048576) (hx : ∀ x ∈ xs, 0 ≤ x ∧ x < (m : Int)) (hl : xs.length ≤ 1048576) : Ev (fun k => impl_Row_parked.f k (m : Int) ring l xs (kk : Int)) (parkLB m ring kk (fun i => decide ((i : Int) ∈ l)) xs, (M (parkPB m ring kk (fun i => decide ((i : Int) ∈ l)) xs) : Int)) := by
  unfold impl_Row_parked.f
  refine evb (ev_taken _ ring l h32 hl') ?_
  have h := parkedK_loop m ring kk hk l xs hm2 hx hl xs.length 0 [] (fun i => decide ((i : Int) ∈ l)) (by omega) (by simp)
  simpa using h
theorem bothParkBack (n : Int) (ring : Bool) (l xs : List Int) (q : Int) (hl : l.length ≤ 1048576) (hxl : xs.length ≤ 1048576) : ∃ L n' b' R ok, Ev (fun k => spec_ParkBack.f k n ring l xs q) (L, n', b', R, ok) ∧ Ev (fun k => impl_ParkBack.f k n ring l xs q) (L, n', b', R, ok) ∧ L.length ≤ 1048576 ∧ R.length ≤ 1048576 := by
  have hS := ev_l6Cars n ring l xs hl
  have hI := ev_isStreet n ring l xs hl hxl
  unfold spec_ParkBack.f impl_ParkBack.f
  have out : Ev (fun k => impl_ParkBack.j0 k xs q true n ring l) ([], 0, false, [], false) := by
    apply evshift
    simp only [impl_ParkBack.j0]
    exact evp trivial (evs _)
  cases hb : streetB n ring l xs with
  | false =>
    rw [hb] at hS hI
    exact ⟨[], 0, false, [], false, evb hS (evn (by simp) (evs _)), evb hI (evn (by simp) out), by simp, by simp⟩
  | true =>
    rw [hb] at hS hI
    by_cases hq : 0 ≤ q ∧ q ≤ 24
    · obtain ⟨ok, hx, h12⟩ := streetB_ok hb
      have := ok.lo; have := ok.hi
      obtain ⟨m, rfl⟩ : ∃ m : Nat, n = m := ⟨n.toNat, by omega⟩
      obtain ⟨kk, rfl⟩ : ∃ kk : Nat, q = kk := ⟨q.toNat, by omega⟩
      have hp1 := ev_l6ParkK m ring kk (by omega) _ l xs ok.sel32 (by omega) hx hxl
      have hp2 := ev_parkedK m ring kk (by omega) l xs (by omega) ok.m32 hl hx hxl
      have hlen := parkLB_len m ring kk xs fun i => decide ((i : Int) ∈ l)
      have hr := ev_benchRow (m : Int) ring (parkPB m ring kk (fun i => decide ((i : Int) ∈ l)) xs)
      have hsl := sel_len_le 32 (parkPB m ring kk (fun i => decide ((i : Int) ∈ l)) xs)
      refine ⟨parkLB m ring kk (fun i => decide ((i : Int) ∈ l)) xs, (m : Int), ring, sel 32 (parkPB m ring kk (fun i => decide ((i : Int) ∈ l)) xs), true, evb hS (evp rfl (evc (in_spec _ _ _) (evp (by simpa using hq) (evb hp1 (evs _))))), evb hI (evp rfl (evc (in_impl _ _ _) ?_)), by omega, by omega⟩
      rw [decide_eq_true hq]
      apply evshift
      simp only [impl_ParkBack.j0, impl_Row_bench.f, Option.bind_some]
      exact evn (by simp) (evb hp2 (evb hr (evs _)))
    · refine ⟨[], 0, false, [], false, evb hS (evp rfl (evc (in_spec _ _ _) (evn (by simpa using hq) (evs _)))), evb hI (evp rfl (evc (in_impl _ _ _) ?_)), by simp, by simp⟩
      rw [decide_eq_false hq]
      exact out
theorem FnExactParkBack : laws_FnExactParkBack.Pure := by
  intro n ring l xs q _ hm _ hm2 _ _ _
  refine Ev.rounds (g := fun k => laws_FnExactParkBack.f k n ring l xs q) ?_
  unfold laws_FnExactParkBack.f
  by_cases hx : (xs.length : Int) > 1048576
  · exact evp hx (evs _)
  refine evn hx ?_
  have hxl : xs.length ≤ 1048576 := by omega
  by_cases hl : l.length ≤ 1048576
  · obtain ⟨L, n', b', R, ok, hS, hI, hL, hR⟩ := bothParkBack n ring l xs q hl hxl
    refine evc (szRow_ok (by omega) (by omega)) ?_
    repeat (first
      | exact evs true
      | (with_reducible refine evb hS ?_)
      | (with_reducible refine evb hI ?_)
      | (with_reducible refine evb (ev_eqIntS _ (by assumption)) ?_)
      | (with_reducible refine evb (ev_markIntS _ _ (by assumption) (by omega) (by omega)) ?_)
      | (with_reducible refine evb (ev_heldIntS _ _ (by assumption) (by omega) (by omega)) ?_)
      | (with_reducible refine evb (ev_toIntS _ (by assumption)) ?_)
      | (with_reducible refine evb (ev_toRow _ _ _ (by assumption)) ?_)
      | (with_reducible refine evb (ev_eqRow _ _ _ (by assumption)) ?_)
      | (with_reducible refine evb (ev_markRow _ _ _ _ (by assumption) (by omega) (by omega)) ?_)
      | (with_reducible refine evb (ev_heldRow _ _ _ _ (by assumption) (by omega) (by omega)) ?_)
      | (with_reducible show Ev (fun k => laws_FnExactParkBack.j0 k _ _ _ _ _ _ _ _ _ _ _ _ _ _ _ _ _ _ _ _) _; apply evshift; simp only [laws_FnExactParkBack.j0])
      | (with_reducible show Ev (fun k => laws_FnExactParkBack.j1 k _ _ _ _ _ _ _ _ _ _ _ _ _ _ _) _; apply evshift; simp only [laws_FnExactParkBack.j1])
      | (with_reducible show Ev (fun k => laws_FnExactParkBack.j2 k _ _ _ _ _ _) _; apply evshift; simp only [laws_FnExactParkBack.j2])
      | (refine evp ?hc ?_; (case hc => first | omega | (simp; done)))
      | (refine evn ?hc ?_; (case hc => first | omega | (simp; done)))
      | dsimp only)
  · exact evc (szRow_big (by omega) hm) (evp (by omega) (evs _))

end Go.Proofs.YtoodiahlofeikaaDoor.Pure
