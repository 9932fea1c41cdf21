/- The law laws.FnExactAllSeatings, told as plain Lean functions of numbers, lists and strings, answers true for every input, if enough rounds are given: the program's AllSeatings answers what the reference's answers. Conditions: none but the kinds' own (each number one of its kind, each length one that the model reads). -/
import Derived.Test.YtdbdmdegnmoblaaDoorPFnExactAllSeatingsx5
import Derived.Test.YtdbdmdegnmoblaaDoorBase
namespace Go.Proofs.YtdbdmdegnmoblaaDoor.Pure
open Go.RowKit Go.Proofs.YtdbdmdegnmoblaaDoor.PFnExactAllSeatings Go.Proofs.YtdbdmdegnmoblaaDoorW.PrintWords Go.Proofs.YtdbdmdegnmoblaaDoorW.PrintLast Go.Proofs.YtdbdmdegnmoblaaDoorW.PrintMore Go.Proofs.YtdbdmdegnmoblaaDoor.Base

/-- A fraction in lowest terms, as two numbers. -/
def fr (q : Rat) : Int × Int := (q.num, (q.den : Int))
theorem fr_cut (a : Int) (b : Nat) (hb : 0 < b) : (a / ((Nat.gcd a.natAbs b : Nat) : Int), (b : Int) / ((Nat.gcd a.natAbs b : Nat) : Int)) = fr ((a : Rat) / (b : Rat)) := by
  rw [← Rat.mkRat_eq_div]
  unfold fr
  rw [Rat.num_mkRat, Rat.den_mkRat, if_neg (by omega), if_neg (by omega), Nat.gcd_comm b a.natAbs]
  simp
theorem num_eq (q : Rat) : (q.num : Rat) = q * (q.den : Rat) := by
  have h1 : q = mkRat q.num q.den := (Rat.mkRat_self q).symm
  rw [Rat.mkRat_eq_div] at h1
  have h2 : ((q.den : Nat) : Rat) ≠ 0 := by
    intro e
    have : ((q.den : Nat) : Rat) = ((0 : Nat) : Rat) := e
    rw [Rat.natCast_inj] at this
    exact q.den_nz this
  have h3 : (q.num : Rat) / (q.den : Rat) * (q.den : Rat) = q.num := by grind
  rw [← h1] at h3; exact h3.symm
theorem natCast_ne {m : Nat} (h : 0 < m) : (m : Rat) ≠ 0 := by
  intro e
  have : ((m : Nat) : Rat) = ((0 : Nat) : Rat) := e
  rw [Rat.natCast_inj] at this
  omega
theorem plus_val (p q : Rat) (c : Nat) (hc : c = Nat.gcd p.den q.den) : ((p.num * ((q.den / c : Nat) : Int) + q.num * ((p.den / c : Nat) : Int) : Int) : Rat) / ((p.den / c * q.den : Nat) : Rat) = p + q := by
  have hp := num_eq p
  have hq := num_eq q
  obtain ⟨u, hu⟩ : c ∣ p.den := hc ▸ Nat.gcd_dvd_left _ _
  obtain ⟨v, hv⟩ : c ∣ q.den := hc ▸ Nat.gcd_dvd_right _ _
  have hp0 := p.den_nz
  have hq0 := q.den_nz
  have c0 : 0 < c := by
    rcases Nat.eq_zero_or_pos c with h | h
    · rw [h, Nat.zero_mul] at hu; exact absurd hu hp0
    · exact h
  have u0 : 0 < u := by
    rcases Nat.eq_zero_or_pos u with h | h
    · rw [h, Nat.mul_zero] at hu; exact absurd hu hp0
    · exact h
  have v0 : 0 < v := by
    rcases Nat.eq_zero_or_pos v with h | h
    · rw [h, Nat.mul_zero] at hv; exact absurd hv hq0
    · exact h
  have e1 : p.den / c = u := by rw [hu, Nat.mul_div_cancel_left _ c0]
  have e2 : q.den / c = v := by rw [hv, Nat.mul_div_cancel_left _ c0]
  rw [e1, e2, Rat.intCast_add, Rat.intCast_mul, Rat.intCast_mul, hp, hq, Rat.natCast_mul, Rat.intCast_natCast, Rat.intCast_natCast]
  rw [hv, hu, Rat.natCast_mul, Rat.natCast_mul]
  have hc' := natCast_ne c0
  have hu' := natCast_ne u0
  have hv' := natCast_ne v0
  generalize (c : Rat) = C at *
  generalize (u : Rat) = U at *
  generalize (v : Rat) = V at *
  grind
/-- What is m parts of D has lowest terms within D. -/
theorem den_dvd {q : Rat} {m D : Nat} (hD : 0 < D) (h : q * (D : Rat) = (m : Rat)) : q.den ∣ D ∧ 0 ≤ q.num ∧ q.num ≤ m := by
  have hD' := natCast_ne hD
  have e : q = mkRat (m : Int) D := by
    rw [Rat.mkRat_eq_div, Rat.intCast_natCast]; grind
  have h1 : q.den = D / D.gcd m := by rw [e, Rat.den_mkRat, if_neg (by omega)]; simp
  have h2 : q.num = (m : Int) / ((D.gcd m : Nat) : Int) := by rw [e, Rat.num_mkRat, if_neg (by omega)]; simp
  refine ⟨h1 ▸ Nat.div_dvd_of_dvd (Nat.gcd_dvd_left _ _), ?_, ?_⟩
  · rw [h2]; exact Int.ediv_nonneg (by omega) (by omega)
  · rw [h2]; exact Int.ediv_le_self _ (by omega)
theorem in_spec (a lo hi : Int) : spec_l1In.f a lo hi = some (decide (lo ≤ a ∧ a ≤ hi)) := by
  unfold spec_l1In.f
  split
  · congr 1; simp; omega
  · congr 1; simp; omega
theorem l1Own (l : List Int) (hl : l.length ≤ 1048576) : spec_l1Own.f l = some l := by
  unfold spec_l1Own.f
  simp only [Option.bind_some, List.length_nil, List.nil_append]
  rw [if_pos (by omega)]
theorem l1Has_loop (l : List Int) (x : Int) (hl : l.length ≤ 1048576) : ∀ d j, j + d = l.length → Ev (fun k => spec_l1Has.l0 k l x (j : Int)) (decide (x ∈ l.drop j))
  | 0, j, h => by
    apply evshift
    simp only [spec_l1Has.l0]
    refine evn (by omega) ?_
    rw [List.drop_eq_nil_of_le (by omega)]
    simpa using evs false
  | d + 1, j, h => by
    have ih := l1Has_loop l x hl d (j + 1) (by omega)
    apply evshift
    simp only [spec_l1Has.l0]
    refine evp (by omega) (evp (by omega) ?_)
    rw [drop_cons (by omega : j < l.length)]
    by_cases h1 : rd l (j : Int) = x
    · refine evp h1 ?_
      simpa [h1] using evs true
    · refine evn h1 ?_
      have h2 : ¬ x = rd l (j : Int) := fun h => h1 h.symm
      rw [wnext j (by omega)]
      simpa [h2] using ih
theorem ev_l1Has (l : List Int) (x : Int) (hl : l.length ≤ 1048576) : Ev (fun k => spec_l1Has.f k l x) (decide (x ∈ l)) := by
  unfold spec_l1Has.f
  have h := l1Has_loop l x hl l.length 0 (by omega)
  simpa using h
theorem eqIntS_loop (l : List Int) (hl : l.length ≤ 1048576) : ∀ d j, j + d = l.length → Ev (fun k => laws_eqIntS.l0 k l l (j : Int)) true
  | 0, j, h => by
    apply evshift
    simp only [laws_eqIntS.l0]
    exact evn (by omega) (evs _)
  | d + 1, j, h => by
    have ih := eqIntS_loop l hl d (j + 1) (by omega)
    apply evshift
    simp only [laws_eqIntS.l0]
    refine evp (by omega) (evp (by omega) (evp (by omega) (evp (by trivial) ?_)))
    rw [wnext j (by omega)]
    exact ih
theorem ev_eqIntS (l : List Int) (hl : l.length ≤ 1048576) : Ev (fun k => laws_eqIntS.f k l l) true := by
  unfold laws_eqIntS.f
  exact evp (by trivial) (eqIntS_loop l hl l.length 0 (by omega))
theorem heldIntS_loop (n : Nat) (m : Int) (hn : n ≤ 1048576) (h0 : 0 ≤ m) (hm : m ≤ 1099511627776) : ∀ d j, j + d = n → Ev (fun k => laws_heldIntS.l0 k (marks m n) (m + (j : Int)) (j : Int)) (m + (n : Int))
  | 0, j, h => by
    obtain rfl : j = n := by omega
    apply evshift
    simp only [laws_heldIntS.l0]
    exact evn (by rw [marks_len]; omega) (evs _)
  | d + 1, j, h => by
    have ih := heldIntS_loop n m hn h0 hm d (j + 1) (by omega)
    apply evshift
    simp only [laws_heldIntS.l0]
    refine evp (by rw [marks_len]; omega) (evp (by omega) (evp (rd_marks (by omega)) ?_))
    rw [wnext j (by omega), w64 (by omega) (by omega), show m + (j : Int) + 1 = m + ((j + 1 : Nat) : Int) by omega]
    exact ih
theorem ev_heldIntS (n : Nat) (m : Int) (hn : n ≤ 1048576) (h0 : 0 ≤ m) (hm : m ≤ 1099511627776) : Ev (fun k => laws_heldIntS.f k (marks m n) m) (m + (n : Int)) := by
  unfold laws_heldIntS.f
  have h := heldIntS_loop n m hn h0 hm n 0 (by omega)
  simpa using h
theorem in_impl (a lo hi : Int) : impl_within.f a lo hi = some (decide (lo ≤ a ∧ a ≤ hi)) := by
  unfold impl_within.f
  split
  · congr 1; simp; omega
  · congr 1; simp; omega
theorem setHas {P : Nat → Bool} {p : Nat} (h : p < 32) : impl_set_has.f (M P : Int) (p : Int) = some (P p) := by
  unfold impl_set_has.f
  rw [if_pos (by omega), M_has h]
  cases P p <;> rfl
theorem tz_table : ∀ t : Nat, t < 32 → (0 ≤ ((((2 ^ t : Nat) : Int) * 125613361) % 4294967296) / 134217728) ∧ ((((2 ^ t : Nat) : Int) * 125613361) % 4294967296) / 134217728 < 32 ∧ wrap64 (rd xtab0 (((((2 ^ t : Nat) : Int) * 125613361) % 4294967296) / 134217728)) = (t : Int) := by decide +kernel
theorem tz_at {P : Nat → Bool} {t : Nat} (h32 : t < 32) (ht : P t = true) (hl : ∀ i, i < t → P i = false) : bits_TrailingZeros32.f (M P : Int) = some (t : Int) := by
  have h0 : ¬ ((M P : Nat) : Int) = 0 := fun h => by have := M_eq_zero.1 h t h32; rw [this] at ht; cases ht
  obtain ⟨h1, h2, h3⟩ := tz_table t h32
  unfold bits_TrailingZeros32.f
  rw [if_neg h0, (M_low h32 ht hl).1, if_pos h1, if_pos h2, h3]
theorem list_loop : ∀ (d : Nat) (P : Nat → Bool) (acc : List Int), (sel 32 P).length = d → acc.length + d ≤ 1048576 → Ev (fun k => impl_set_list.l0 k (M P : Int) acc) (acc ++ sel 32 P)
  | 0, P, acc, h, _ => by
    have hn : sel 32 P = [] := List.eq_nil_of_length_eq_zero h
    have hz : ∀ i, i < 32 → P i = false := fun i hi => by
      cases hp : P i with
      | false => rfl
      | true =>
        have : (i : Int) ∈ sel 32 P := mem_sel.2 ⟨i, hi, hp, rfl⟩
        rw [hn] at this; cases this
    apply evshift
    simp only [impl_set_list.l0]
    refine evp (M_eq_zero.2 hz) ?_
    rw [hn, List.append_nil]
    exact evs _
  | d + 1, P, acc, h, hb => by
    have hex : ∃ i, i < 32 ∧ P i = true := by
      rcases Classical.em (∃ i, i < 32 ∧ P i = true) with h1 | h1
      · exact h1
      · have : sel 32 P = [] := sel_none fun i hi => by
          cases hp : P i with
          | false => rfl
          | true => exact absurd ⟨i, hi, hp⟩ h1
        rw [this] at h; cases h
    obtain ⟨t, h1, h2, h3⟩ := least_of hex
    have hs := sel_low h1 h2 h3
    have h0 : ¬ ((M P : Nat) : Int) = 0 := fun h => by have := M_eq_zero.1 h t h1; rw [this] at h2; cases h2
    apply evshift
    simp only [impl_set_list.l0, tz_at h1 h2 h3, Option.bind_some, (M_low h1 h2 h3).2]
    refine evn h0 (evp (by omega) ?_)
    rw [hs, List.length_cons] at h
    refine eve (list_loop d _ (acc ++ [(t : Int)]) (by omega) (by rw [List.length_append, List.length_singleton]; omega)) ?_
    rw [hs, List.append_assoc]; rfl
theorem ev_list (P : Nat → Bool) : Ev (fun k => impl_set_list.f k (M P : Int)) (sel 32 P) := by
  unfold impl_set_list.f
  have h := list_loop _ P [] rfl (by have := sel_len_le 32 P; simp; omega)
  simpa using h
theorem markIntS_loop (l : List Int) (m : Int) (hl : l.length ≤ 1048576) (h0 : 0 ≤ m) (hm : m ≤ 1099511627776) : ∀ d j, j + d = l.length → Ev (fun k => laws_markIntS.l0 k (marks m j ++ l.drop j) (m + (j : Int)) (j : Int)) (m + (l.length : Int), marks m l.length)
  | 0, j, h => by
    obtain rfl : j = l.length := by omega
    apply evshift
    simp only [laws_markIntS.l0]
    refine evn (by simp [marks_len]) ?_
    simp only [List.drop_length, List.append_nil]
    exact evs _
  | d + 1, j, h => by
    have ih := markIntS_loop l m hl h0 hm d (j + 1) (by omega)
    apply evshift
    simp only [laws_markIntS.l0]
    refine evp (by simp [marks_len]; omega) (evp (by omega) ?_)
    rw [Int.toNat_natCast, set_marks m l j (by omega), wnext j (by omega), w64 (by omega) (by omega), show m + (j : Int) + 1 = m + ((j + 1 : Nat) : Int) by omega]
    exact ih
theorem ev_markIntS (l : List Int) (m : Int) (hl : l.length ≤ 1048576) (h0 : 0 ≤ m) (hm : m ≤ 1099511627776) : Ev (fun k => laws_markIntS.f k l m) (m + (l.length : Int), marks m l.length) := by
  unfold laws_markIntS.f
  have h := markIntS_loop l m hl h0 hm l.length 0 (by omega)
  simpa [marks] using h
set_option linter.unusedSimpArgs false
set_option linter.unusedVariables false
set_option linter.unnecessarySimpa false
namespace OwnT
def free (n : Nat) (b : List Int) : List Int := ((List.range n).map fun i => ((i : Nat) : Int)).filter fun x => !b.contains x
def choices (n k : Nat) (b : List Int) : List Int := if k ≤ b.length ∧ ¬ ((b.length : Nat) : Int) ∈ b then [((b.length : Nat) : Int)] else free n b
def all (n k : Nat) : Nat → List Int → List (List Int)
  | 0, b => [b]
  | d + 1, b => (choices n k b).flatMap fun c => all n k d (b ++ [c])
theorem mem_free {n : Nat} {b : List Int} {x : Int} : x ∈ free n b ↔ (0 ≤ x ∧ x < n) ∧ ¬ x ∈ b := by
  simp only [free, List.mem_filter, List.mem_map, List.mem_range, Bool.not_eq_true', List.contains_eq_mem, decide_eq_false_iff_not]
  constructor
  · rintro ⟨⟨i, hi, rfl⟩, h⟩; exact ⟨⟨by omega, by omega⟩, h⟩
  · rintro ⟨⟨h1, h2⟩, h⟩; exact ⟨⟨x.toNat, by omega, by omega⟩, h⟩
end OwnT
open OwnT
theorem good_at (a0 a1 : Int) : spec_l5Good.f a0 a1 = some (decide ((1 ≤ a0 ∧ a0 ≤ 12) ∧ (0 ≤ a1 ∧ a1 ≤ a0))) ∧ impl_isPlane.f a0 a1 = some (decide ((1 ≤ a0 ∧ a0 ≤ 12) ∧ (0 ≤ a1 ∧ a1 ≤ a0))) := by
  constructor
  · unfold spec_l5Good.f
    simp only [in_spec, Option.bind_some]
    by_cases h1 : 1 ≤ a0 ∧ a0 ≤ 12
    · rw [if_pos (by simpa using h1)]; simp [h1]
    · rw [if_neg (by simpa using h1)]; simp [h1]
  · unfold impl_isPlane.f
    simp only [in_impl, Option.bind_some]
    by_cases h1 : 1 ≤ a0 ∧ a0 ≤ 12
    · rw [if_pos (by simpa using h1)]; simp [h1]
    · rw [if_neg (by simpa using h1)]; simp [h1]
theorem choices_loop (n : Nat) (b : List Int) (hb : b.length ≤ 1048576) (hn : n ≤ 1000) : ∀ d j (acc : List Int), j + d = n → acc.length ≤ j →
    Ev (fun k => spec_l5Choices.l0 k (n : Int) b acc (j : Int)) (acc ++ ((List.range' j d).map fun i => ((i : Nat) : Int)).filter fun x => !b.contains x)
  | 0, j, acc, h, _ => by
    apply evshift
    simp only [spec_l5Choices.l0, List.range'_zero, List.map_nil, List.filter_nil, List.append_nil]
    exact evn (by omega) (evs _)
  | d + 1, j, acc, h, ha => by
    apply evshift
    simp only [spec_l5Choices.l0]
    rw [wnext j (by omega), List.range'_succ, List.map_cons, List.filter_cons]
    refine evp (by omega) (evb (ev_l1Has b (j : Int) hb) ?_)
    by_cases c : (j : Int) ∈ b
    · rw [if_neg (by simpa using c)]
      exact evp (by simpa using c) (choices_loop n b hb hn d (j + 1) acc (by omega) (by omega))
    · rw [if_pos (by simpa using c)]
      refine evn (by simpa using c) (evp (by omega) ?_)
      have ih := choices_loop n b hb hn d (j + 1) (acc ++ [(j : Int)]) (by omega) (by simp; omega)
      rwa [List.append_assoc, List.singleton_append] at ih
theorem ev_choices (n kk : Nat) (b : List Int) (hb : b.length ≤ 1048576) (hn : n ≤ 1000) : Ev (fun k => spec_l5Choices.f k (n : Int) (kk : Int) b) (choices n kk b) := by
  have hfree : Ev (fun k => spec_l5Choices.l0 k (n : Int) b [] 0) (free n b) := by
    have h := choices_loop n b hb hn n 0 [] (by omega) (by simp)
    rw [List.nil_append, ← List.range_eq_range'] at h
    exact h
  unfold spec_l5Choices.f choices
  by_cases c : kk ≤ b.length
  · refine evp (by omega) (evb (ev_l1Has b _ hb) ?_)
    apply evshift
    simp only [spec_l5Choices.j0]
    by_cases c2 : ((b.length : Nat) : Int) ∈ b
    · rw [if_neg (by simp [c2])]
      exact evn (by simp [c2]) hfree
    · rw [if_pos ⟨c, c2⟩]
      exact evp (by simp [c2]) (evs _)
  · refine evn (by omega) ?_
    rw [if_neg (by omega)]
    apply evshift
    simp only [spec_l5Choices.j0]
    exact evn (by simp) hfree
theorem free_le (n : Nat) (b : List Int) : (free n b).length ≤ n := by
  have := List.length_filter_le (fun x => !b.contains x) ((List.range n).map fun i => ((i : Nat) : Int))
  simpa [free] using this
theorem choices_le {n k : Nat} {b : List Int} (hn : 0 < n) : (choices n k b).length ≤ n := by
  unfold choices
  split
  · simp; omega
  · exact free_le n b
theorem flat_le {α β : Type} (f : α → List β) (m : Nat) : ∀ l : List α, (∀ x ∈ l, (f x).length ≤ m) → (l.flatMap f).length ≤ l.length * m
  | [], _ => by simp
  | x :: l, h => by
    have h1 := h x (by simp)
    have h2 := flat_le f m l fun y hy => h y (by simp [hy])
    rw [List.flatMap_cons, List.length_append, List.length_cons, Nat.add_mul, Nat.one_mul]
    omega
theorem all_le {n k : Nat} (hn : 0 < n) (hn7 : n ≤ 7) : ∀ (d : Nat) (b : List Int), (all n k d b).length ≤ 7 ^ d
  | 0, b => by simp [all]
  | d + 1, b => by
    rw [all]
    refine Nat.le_trans (flat_le _ (7 ^ d) _ fun c _ => all_le hn hn7 d _) ?_
    have := choices_le (k := k) (b := b) hn
    rw [Nat.pow_succ, Nat.mul_comm]
    exact Nat.mul_le_mul_left _ (by omega)
theorem pow7 {d : Nat} (h : d ≤ 7) : 7 ^ d ≤ 823543 := Nat.le_trans (Nat.pow_le_pow_right (by omega) h) (by decide)
theorem ev_all {n kk : Nat} (hn : 0 < n) (hn7 : n ≤ 7) : ∀ (d : Nat) (b : List Int), b.length + d = n → Ev (fun k => spec_l5All.f k (n : Int) (kk : Int) b) (all n kk d b)
  | 0, b, h => by
    apply evshift
    simp only [spec_l5All.f, all]
    exact evp (by omega) (evs _)
  | d + 1, b, h => by
    have loop : ∀ e j (acc : List (List Int)), j + e = (choices n kk b).length → acc.length ≤ j * 7 ^ d →
        Ev (fun k => spec_l5All.l0 k (n : Int) (kk : Int) b acc (choices n kk b) (j : Int)) (acc ++ ((choices n kk b).drop j).flatMap fun c => all n kk d (b ++ [c])) := by
      intro e
      induction e with
      | zero =>
        intro j acc hj _
        apply evshift
        simp only [spec_l5All.l0]
        rw [List.drop_eq_nil_of_le (by omega)]
        refine evn (by omega) (eve (evs _) ?_)
        simp
      | succ e ih =>
        intro j acc hj ha
        have hlt : j < (choices n kk b).length := by omega
        have hcl := choices_le (k := kk) (b := b) hn
        have p7 := pow7 (d := d) (by omega)
        have hal := all_le (k := kk) hn hn7 d (b ++ [rd (choices n kk b) (j : Int)])
        have hm : j * 7 ^ d ≤ 7 * 823543 := Nat.mul_le_mul (by omega) p7
        apply evshift
        simp only [spec_l5All.l0, Option.bind_some]
        refine evp (by omega) (evc (l1Own b (by omega)) (evp (by omega) (evp (by simp only [List.length_singleton]; omega) (evb (ev_all hn hn7 d (b ++ [rd (choices n kk b) (j : Int)]) (by simp; omega)) (evp (by omega) ?_)))))
        rw [wnext j (by omega), drop_cons hlt, List.flatMap_cons, ← List.append_assoc]
        exact ih (j + 1) _ (by omega) (by rw [List.length_append, Nat.add_mul, Nat.one_mul]; omega)
    apply evshift
    simp only [spec_l5All.f, all]
    refine evn (by omega) (evb (ev_choices n kk b (by omega) (by omega)) ?_)
    have h0 := loop (choices n kk b).length 0 [] (by omega) (by simp)
    simpa using h0
theorem rd_L1_lt {l : List (List Int)} {j : Nat} (h : j < l.length) : rd_L1 l (j : Int) = l[j] := by simp [rd_L1, List.getD, h]
def FM (n : Nat) (b : List Int) : Nat → Bool := fun i => decide (i < n) && !decide ((i : Int) ∈ b)
theorem free_inc (n : Nat) (b : List Int) : (free n b).Pairwise (· < ·) := by
  refine List.Pairwise.filter _ (List.pairwise_map.2 ?_)
  exact (List.pairwise_lt_range (n := n)).imp fun h => by omega
theorem free_sel (n : Nat) (b : List Int) (hn : n ≤ 32) : sel 32 (FM n b) = free n b := by
  refine sel_is (free_inc n b) fun x => ?_
  rw [mem_free]
  constructor
  · rintro ⟨⟨h1, h2⟩, h3⟩
    refine ⟨x.toNat, by omega, ?_, by omega⟩
    simp only [FM, Bool.and_eq_true, decide_eq_true_eq, Bool.not_eq_true', decide_eq_false_iff_not]
    exact ⟨by omega, by rw [Int.toNat_of_nonneg h1]; exact h3⟩
  · rintro ⟨i, h1, h2, rfl⟩
    simp only [FM, Bool.and_eq_true, decide_eq_true_eq, Bool.not_eq_true', decide_eq_false_iff_not] at h2
    exact ⟨⟨by omega, by omega⟩, h2.2⟩
theorem FM_take (n : Nat) (b : List Int) (p : Nat) (hp : p < 32) : Go.bits .andNot .u32 (M (FM n b) : Int) (shl .u32 1 (p : Int)) = (M (FM n (b ++ [(p : Int)])) : Int) := by
  rw [M_one hp, M_andNot]
  refine congrArg _ (M_congr fun i _ => ?_)
  unfold FM
  rw [Bool.eq_iff_iff]
  simp only [Bool.and_eq_true, Bool.not_eq_true', decide_eq_true_eq, decide_eq_false_iff_not, List.mem_append, List.mem_singleton]
  constructor
  · rintro ⟨⟨h1, h2⟩, h3⟩; exact ⟨h1, fun h => h.elim h2 (fun e => h3 (by omega))⟩
  · rintro ⟨h1, h2⟩; exact ⟨⟨h1, fun h => h2 (.inl h)⟩, fun e => h2 (.inr (by omega))⟩
theorem ev_fillR (f : Nat → List Int → Int → Option (List (List Int))) (l : List Int) (fr : Int) (g : Int → List (List Int)) : ∀ cs : List Int, (∀ c ∈ cs, 0 ≤ c ∧ Ev (fun k => f k (l ++ [c]) (Go.bits .andNot .u32 fr (shl .u32 1 c))) (g c)) → Ev (fun k => fillR (f k) l fr cs) (cs.flatMap g)
  | [], _ => by
    simp only [fillR, List.flatMap_nil]
    exact evs _
  | c :: cs, h => by
    obtain ⟨h0, h1⟩ := h c (by simp)
    simp only [fillR, List.flatMap_cons]
    exact evp h0 (evb h1 (evb (ev_fillR f l fr g cs fun x hx => h x (by simp [hx])) (evs _)))
theorem ev_fill {n kk : Nat} (hn : 0 < n) (hn7 : n ≤ 7) : ∀ (d : Nat) (l : List Int), l.length + d = n → (∀ x ∈ l, 0 ≤ x ∧ x < (n : Int)) → Ev (fun k => fillF (n : Int) (kk : Int) k l (M (FM n l) : Int)) (all n kk d l)
  | 0, l, h, _ => by
    apply evshift
    simp only [fillF, all]
    exact evp (by omega) (evp (by omega) (evs _))
  | d + 1, l, h, hm => by
    have hlist : ∀ t, t = FM n l l.length → Ev (fun k => impl_set_list.f k (canF (kk : Int) l (M (FM n l) : Int) t)) (choices n kk l) := by
      intro t ht
      unfold canF choices
      by_cases c : kk ≤ l.length ∧ ¬ ((l.length : Nat) : Int) ∈ l
      · have hy : (decide (((l.length : Nat) : Int) ≥ (kk : Int)) && t) = true := by
          rw [ht]; simp [FM, c.2]; omega
        rw [if_pos c, if_pos hy, M_one (by omega)]
        have h := ev_list (fun i => decide (i = l.length))
        rwa [sel_is (l := [((l.length : Nat) : Int)]) (by simp) (fun x => by
          simp only [List.mem_singleton]
          constructor
          · rintro rfl; exact ⟨l.length, by omega, by simp, rfl⟩
          · rintro ⟨i, _, h2, rfl⟩; simp at h2; omega)] at h
      · have hno : ¬ (decide (((l.length : Nat) : Int) ≥ (kk : Int)) && t) = true := by
          rw [ht]; intro e
          simp only [FM, Bool.and_eq_true, decide_eq_true_eq, Bool.not_eq_true', decide_eq_false_iff_not] at e
          exact c ⟨by omega, e.2.2⟩
        rw [if_neg c, if_neg hno, ← free_sel n l (by omega)]
        exact ev_list _
    have hcl := choices_le (k := kk) (b := l) hn
    apply evshift
    simp only [fillF, all]
    refine evn (by omega) (evc (setHas (by omega)) (evb (hlist _ rfl) (evp (by omega) ?_)))
    refine ev_fillR (fun k => fillF (n : Int) (kk : Int) k) l _ _ _ fun c hc => ?_
    have hc' : 0 ≤ c ∧ c < (n : Int) := by
      unfold choices at hc
      split at hc
      · simp at hc; omega
      · exact (mem_free.1 hc).1
    obtain ⟨p, rfl⟩ : ∃ p : Nat, c = p := ⟨c.toNat, by omega⟩
    refine ⟨by omega, ?_⟩
    rw [FM_take n l p (by omega)]
    exact ev_fill hn hn7 d (l ++ [(p : Int)]) (by simp; omega) (fun x hx => by
      rw [List.mem_append, List.mem_singleton] at hx
      rcases hx with hx | rfl
      · exact hm x hx
      · exact hc')
theorem all_row {n k : Nat} : ∀ (d : Nat) (b : List Int), b.length + d = n → ∀ s ∈ all n k d b, s.length = n
  | 0, b, h, s, hs => by simp only [all, List.mem_singleton] at hs; subst hs; omega
  | d + 1, b, h, s, hs => by
    simp only [all, List.mem_flatMap] at hs
    obtain ⟨c, _, hs⟩ := hs
    exact all_row d (b ++ [c]) (by simp; omega) s hs
theorem eqSS_loop (L : List (List Int)) (hL : L.length ≤ 1048576) (hr : ∀ l ∈ L, l.length ≤ 1048576) : ∀ d j, j + d = L.length → Ev (fun k => laws_eqIntSS.l0 k L L (j : Int)) true
  | 0, j, h => by
    apply evshift
    simp only [laws_eqIntSS.l0]
    exact evn (by omega) (evs _)
  | d + 1, j, h => by
    have ih := eqSS_loop L hL hr d (j + 1) (by omega)
    have hj : j < L.length := by omega
    apply evshift
    simp only [laws_eqIntSS.l0]
    refine evp (by omega) (evp (by omega) (evp (by omega) (evb (ev_eqIntS _ (hr _ (by rw [rd_L1_lt hj]; exact List.getElem_mem hj))) (evp rfl ?_))))
    rw [wnext j (by omega)]
    exact ih
theorem ev_eqSS (L : List (List Int)) (hL : L.length ≤ 1048576) (hr : ∀ l ∈ L, l.length ≤ 1048576) : Ev (fun k => laws_eqIntSS.f k L L) true := by
  unfold laws_eqIntSS.f
  exact evp rfl (eqSS_loop L hL hr L.length 0 (by omega))
def marksR : Int → List (List Int) → List (List Int)
  | _, [] => []
  | m, l :: ls => marks m l.length :: marksR (m + (l.length : Int)) ls
def endR : Int → List (List Int) → Int
  | m, [] => m
  | m, l :: ls => endR (m + (l.length : Int)) ls
theorem marksR_len : ∀ (L : List (List Int)) (m : Int), (marksR m L).length = L.length
  | [], _ => rfl
  | l :: ls, m => by simp [marksR, marksR_len ls]
theorem endR_ge : ∀ (L : List (List Int)) (m : Int), m ≤ endR m L
  | [], _ => by simp [endR]
  | l :: ls, m => by have := endR_ge ls (m + (l.length : Int)); unfold endR; omega
theorem ev_markR : ∀ (L : List (List Int)) (m : Int), (∀ l ∈ L, l.length ≤ 7) → 0 ≤ m → m + 7 * (L.length : Int) ≤ 1099511627776 → Ev (fun k => markR k L m) (endR m L, marksR m L)
  | [], m, _, _, _ => by
    simp only [markR, endR, marksR]
    exact evs _
  | l :: ls, m, hr, h0, hm => by
    have hl := hr l (by simp)
    rw [List.length_cons] at hm
    simp only [markR, endR, marksR]
    exact evb (ev_markIntS l m (by omega) h0 (by omega)) (evb (ev_markR ls (m + (l.length : Int)) (fun x hx => hr x (by simp [hx])) (by omega) (by omega)) (evs _))
theorem heldSS_loop (X : List (List Int)) (hX : X.length ≤ 1048576) : ∀ (L : List (List Int)) (pre : List (List Int)) (m : Int), X = pre ++ marksR m L → (∀ l ∈ L, l.length ≤ 7) → 0 ≤ m → m + 7 * (L.length : Int) ≤ 1099511627776 → Ev (fun k => laws_heldIntSS.l0 k X m (pre.length : Int)) (endR m L)
  | [], pre, m, e, _, _, _ => by
    have : X.length = pre.length := by rw [e]; simp [marksR]
    apply evshift
    simp only [laws_heldIntSS.l0, endR]
    exact evn (by omega) (evs _)
  | l :: ls, pre, m, e, hr, h0, hm => by
    have hl := hr l (by simp)
    rw [List.length_cons] at hm
    have hlen : X.length = pre.length + (ls.length + 1) := by rw [e]; simp [marksR, marksR_len]
    have hat : rd_L1 X (pre.length : Int) = marks m l.length := by
      rw [rd_L1_lt (by omega)]
      subst e
      simp [marksR]
    have ih := heldSS_loop X hX ls (pre ++ [marks m l.length]) (m + (l.length : Int)) (by rw [e, List.append_assoc]; rfl) (fun x hx => hr x (by simp [hx])) (by omega) (by omega)
    rw [List.length_append, List.length_singleton] at ih
    apply evshift
    simp only [laws_heldIntSS.l0, endR]
    rw [hat]
    refine evp (by omega) (evp (by omega) (evb (ev_heldIntS l.length m (by omega) h0 (by omega)) (evn (by omega) ?_)))
    rw [wnext pre.length (by omega)]
    exact ih
theorem bothAllSeatings (a0 a1 : Int) : ∃ R ok, Ev (fun k => spec_AllSeatings.f k a0 a1) (R, ok) ∧ Ev (fun k => impl_AllSeatings.f k a0 a1) (R, ok) ∧ R.length ≤ 823543 ∧ ∀ l ∈ R, l.length ≤ 7 := by
  obtain ⟨g1, g2⟩ := good_at a0 a1
  unfold spec_AllSeatings.f impl_AllSeatings.f
  by_cases h : (1 ≤ a0 ∧ a0 ≤ 12) ∧ (0 ≤ a1 ∧ a1 ≤ a0)
  · rw [decide_eq_true h] at g1 g2
    by_cases h7 : a0 > 7
    · exact ⟨[], false, evc g1 (evp rfl (evp h7 (evs _))), evc g2 (evp rfl (evp h7 (evs _))), by simp, by simp⟩
    · obtain ⟨n, rfl⟩ : ∃ n : Nat, a0 = n := ⟨a0.toNat, by omega⟩
      obtain ⟨kk, rfl⟩ : ∃ n : Nat, a1 = n := ⟨a1.toNat, by omega⟩
      have hn : 0 < n := by omega
      have hn7 : n ≤ 7 := by omega
      have hle : (all n kk n []).length ≤ 823543 := Nat.le_trans (all_le hn hn7 n []) (pow7 hn7)
      refine ⟨all n kk n [], true, evc g1 (evp rfl (evn h7 (evb (ev_all hn hn7 n [] (by simp)) (evs _)))), evc g2 (evp rfl (evn h7 (evp (by omega) ?_))), hle, fun l hl => by have := all_row n [] (by simp) l hl; omega⟩
      have hmask : (shl .u32 1 (n : Int) - 1) % 4294967296 = (M (FM n []) : Int) := by
        rw [M_all (by omega)]
        exact congrArg _ (M_congr fun i _ => by simp [FM])
      rw [hmask]
      exact evb (ev_fill hn hn7 n [] (by simp) (by simp)) (evp (by omega) (evs _))
  · rw [decide_eq_false h] at g1 g2
    exact ⟨[], false, evc g1 (evn (by simp) (evs _)), evc g2 (evn (by simp) (evs _)), by simp, by simp⟩
theorem FnExactAllSeatings : laws_FnExactAllSeatings.Pure := by
  intro a0 a1 _ _
  refine Ev.rounds (g := fun k => laws_FnExactAllSeatings.f k a0 a1) ?_
  unfold laws_FnExactAllSeatings.f laws_markIntSS.f laws_heldIntSS.f
  obtain ⟨R, ok, hS, hI, hR, hr⟩ := bothAllSeatings a0 a1
  have h1 := endR_ge R 1
  refine evb hS (evb hI (evb (ev_eqSS R (by omega) fun l hl => by have := hr l hl; omega) (evp ⟨⟨rfl, rfl⟩, show R.length ≤ 1000000 by omega⟩ (evb (ev_markR R 1 hr (by omega) (by omega)) (evb (heldSS_loop (marksR 1 R) (by rw [marksR_len]; omega) R [] 1 (by simp) hr (by omega) (by omega)) (evp ⟨by omega, rfl, marksR_len R 1⟩ (evs _)))))))

end Go.Proofs.YtdbdmdegnmoblaaDoor.Pure
