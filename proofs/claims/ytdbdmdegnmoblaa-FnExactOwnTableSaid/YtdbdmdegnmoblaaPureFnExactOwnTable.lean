/- The law laws.FnExactOwnTable, told as plain Lean functions of numbers, lists and strings, answers true for every input, if enough rounds are given: the program's OwnTable answers what the reference's answers. Conditions: none but the kinds' own (each number one of its kind, each length one that the model reads). -/
import Derived.Test.YtdbdmdegnmoblaaPFnExactOwnTablex6
import Derived.Test.YtdbdmdegnmoblaaBase
namespace Go.Proofs.Ytdbdmdegnmoblaa.Pure
open Go.RowKit Go.Proofs.Ytdbdmdegnmoblaa.PFnExactOwnTable Go.Proofs.YtdbdmdegnmoblaaW.PrintWords Go.Proofs.YtdbdmdegnmoblaaW.PrintLast Go.Proofs.YtdbdmdegnmoblaaW.PrintMore Go.Proofs.Ytdbdmdegnmoblaa.Base

/-- A fraction in lowest terms, as two numbers. -/
def fr (q : Rat) : Int × Int := (q.num, (q.den : Int))
theorem fr_cut (a : Int) (b : Nat) (hb : 0 < b) : (a / ((Nat.gcd a.natAbs b : Nat) : Int), (b : Int) / ((Nat.gcd a.natAbs b : Nat) : Int)) = fr ((a : Rat) / (b : Rat)) := by
  rw [← Rat.mkRat_eq_div]
  unfold fr
  rw [Rat.num_mkRat, Rat.den_mkRat, if_neg (by omega), if_neg (by omega), Nat.gcd_comm b a.natAbs]
  simp
theorem num_eq (q : Rat) : (q.num : Rat) = q * (q.den : Rat) := by
  have h1 : q = mkRat q.num q.den := (Rat.mkRat_self q).symm
  rw [Rat.mkRat_eq_div] at h1
  have h2 : ((q.den : Nat) : Rat) ≠ 0 := by
    intro e
    have : ((q.den : Nat) : Rat) = ((0 : Nat) : Rat) := e
    rw [Rat.natCast_inj] at this
    exact q.den_nz this
  have h3 : (q.num : Rat) / (q.den : Rat) * (q.den : Rat) = q.num := by grind
  rw [← h1] at h3; exact h3.symm
theorem natCast_ne {m : Nat} (h : 0 < m) : (m : Rat) ≠ 0 := by
  intro e
  have : ((m : Nat) : Rat) = ((0 : Nat) : Rat) := e
  rw [Rat.natCast_inj] at this
  omega
theorem plus_val (p q : Rat) (c : Nat) (hc : c = Nat.gcd p.den q.den) : ((p.num * ((q.den / c : Nat) : Int) + q.num * ((p.den / c : Nat) : Int) : Int) : Rat) / ((p.den / c * q.den : Nat) : Rat) = p + q := by
  have hp := num_eq p
  have hq := num_eq q
  obtain ⟨u, hu⟩ : c ∣ p.den := hc ▸ Nat.gcd_dvd_left _ _
  obtain ⟨v, hv⟩ : c ∣ q.den := hc ▸ Nat.gcd_dvd_right _ _
  have hp0 := p.den_nz
  have hq0 := q.den_nz
  have c0 : 0 < c := by
    rcases Nat.eq_zero_or_pos c with h | h
    · rw [h, Nat.zero_mul] at hu; exact absurd hu hp0
    · exact h
  have u0 : 0 < u := by
    rcases Nat.eq_zero_or_pos u with h | h
    · rw [h, Nat.mul_zero] at hu; exact absurd hu hp0
    · exact h
  have v0 : 0 < v := by
    rcases Nat.eq_zero_or_pos v with h | h
    · rw [h, Nat.mul_zero] at hv; exact absurd hv hq0
    · exact h
  have e1 : p.den / c = u := by rw [hu, Nat.mul_div_cancel_left _ c0]
  have e2 : q.den / c = v := by rw [hv, Nat.mul_div_cancel_left _ c0]
  rw [e1, e2, Rat.intCast_add, Rat.intCast_mul, Rat.intCast_mul, hp, hq, Rat.natCast_mul, Rat.intCast_natCast, Rat.intCast_natCast]
  rw [hv, hu, Rat.natCast_mul, Rat.natCast_mul]
  have hc' := natCast_ne c0
  have hu' := natCast_ne u0
  have hv' := natCast_ne v0
  generalize (c : Rat) = C at *
  generalize (u : Rat) = U at *
  generalize (v : Rat) = V at *
  grind
/-- What is m parts of D has lowest terms within D. -/
theorem den_dvd {q : Rat} {m D : Nat} (hD : 0 < D) (h : q * (D : Rat) = (m : Rat)) : q.den ∣ D ∧ 0 ≤ q.num ∧ q.num ≤ m := by
  have hD' := natCast_ne hD
  have e : q = mkRat (m : Int) D := by
    rw [Rat.mkRat_eq_div, Rat.intCast_natCast]; grind
  have h1 : q.den = D / D.gcd m := by rw [e, Rat.den_mkRat, if_neg (by omega)]; simp
  have h2 : q.num = (m : Int) / ((D.gcd m : Nat) : Int) := by rw [e, Rat.num_mkRat, if_neg (by omega)]; simp
  refine ⟨h1 ▸ Nat.div_dvd_of_dvd (Nat.gcd_dvd_left _ _), ?_, ?_⟩
  · rw [h2]; exact Int.ediv_nonneg (by omega) (by omega)
  · rw [h2]; exact Int.ediv_le_self _ (by omega)
theorem in_spec (a lo hi : Int) : spec_l1In.f a lo hi = some (decide (lo ≤ a ∧ a ≤ hi)) := by
  unfold spec_l1In.f
  split
  · congr 1; simp; omega
  · congr 1; simp; omega
theorem l1Has_loop (l : List Int) (x : Int) (hl : l.length ≤ 1048576) : ∀ d j, j + d = l.length → Ev (fun k => spec_l1Has.l0 k l x (j : Int)) (decide (x ∈ l.drop j))
  | 0, j, h => by
    apply evshift
    simp only [spec_l1Has.l0]
    refine evn (by omega) ?_
    rw [List.drop_eq_nil_of_le (by omega)]
    simpa using evs false
  | d + 1, j, h => by
    have ih := l1Has_loop l x hl d (j + 1) (by omega)
    apply evshift
    simp only [spec_l1Has.l0]
    refine evp (by omega) (evp (by omega) ?_)
    rw [drop_cons (by omega : j < l.length)]
    by_cases h1 : rd l (j : Int) = x
    · refine evp h1 ?_
      simpa [h1] using evs true
    · refine evn h1 ?_
      have h2 : ¬ x = rd l (j : Int) := fun h => h1 h.symm
      rw [wnext j (by omega)]
      simpa [h2] using ih
theorem ev_l1Has (l : List Int) (x : Int) (hl : l.length ≤ 1048576) : Ev (fun k => spec_l1Has.f k l x) (decide (x ∈ l)) := by
  unfold spec_l1Has.f
  have h := l1Has_loop l x hl l.length 0 (by omega)
  simpa using h
theorem l1Own (l : List Int) (hl : l.length ≤ 1048576) : spec_l1Own.f l = some l := by
  unfold spec_l1Own.f
  simp only [Option.bind_some, List.length_nil, List.nil_append]
  rw [if_pos (by omega)]
theorem l2Gcd_loop : ∀ b a : Nat, Ev (fun k => spec_l2Gcd.l0 k (a : Int) (b : Int)) ((Nat.gcd a b : Nat) : Int) := by
  intro b
  induction b using Nat.strongRecOn with
  | ind b ih =>
    intro a
    apply evshift
    simp only [spec_l2Gcd.l0]
    by_cases c : b = 0
    · subst c
      rw [Nat.gcd_zero_right]
      exact evn (by omega) (evs _)
    · refine evp (by omega) (evn (by omega) ?_)
      rw [show Int.tmod (a : Int) (b : Int) = ((a % b : Nat) : Int) from (Int.ofNat_tmod a b).symm]
      have h := ih (a % b) (Nat.mod_lt _ (by omega)) b
      rwa [show Nat.gcd b (a % b) = Nat.gcd a b by rw [Nat.gcd_comm b, ← Nat.gcd_rec, Nat.gcd_comm]] at h
theorem ev_l2Gcd (a b : Nat) : Ev (fun k => spec_l2Gcd.f k (a : Int) (b : Int)) ((Nat.gcd a b : Nat) : Int) := by
  unfold spec_l2Gcd.f
  exact l2Gcd_loop b a
theorem ev_l2Cut (a b : Nat) (hb : 0 < b) (ha : a < 4611686018427387904) (hb2 : b < 4611686018427387904) : Ev (fun k => spec_l2Cut.f k (a : Int) (b : Int)) (fr ((a : Rat) / (b : Rat))) := by
  unfold spec_l2Cut.f
  rw [w64 (x := -(a : Int)) (by omega) (by omega)]
  have hm : spec_l1Most.f (a : Int) (-(a : Int)) = some (a : Int) := by
    unfold spec_l1Most.f
    split
    · rfl
    · congr 1; omega
  have hg : 0 < Nat.gcd a b := Nat.gcd_pos_of_pos_right _ hb
  refine evc hm (evb (ev_l2Gcd a b) (evn (by omega) ?_))
  have e := fr_cut (a : Int) b hb
  rw [Int.natAbs_natCast, Rat.intCast_natCast] at e
  rw [show Int.tdiv (a : Int) ((Nat.gcd a b : Nat) : Int) = ((a / Nat.gcd a b : Nat) : Int) from (Int.ofNat_tdiv _ _).symm, show Int.tdiv (b : Int) ((Nat.gcd a b : Nat) : Int) = ((b / Nat.gcd a b : Nat) : Int) from (Int.ofNat_tdiv _ _).symm]
  have h1 : a / Nat.gcd a b ≤ a := Nat.div_le_self _ _
  have h2 : b / Nat.gcd a b ≤ b := Nat.div_le_self _ _
  rw [← Int.natCast_ediv, ← Int.natCast_ediv] at e
  rw [← e]
  clear e
  generalize a / Nat.gcd a b = x at *
  generalize b / Nat.gcd a b = y at *
  rw [w64 (by omega) (by omega), w64 (by omega) (by omega)]
  exact evs _
theorem ev_l2Plus (p q : Rat) (u v D m : Nat) (hD : 0 < D) (hD2 : D ≤ 479001600) (hu : p * (D : Rat) = (u : Rat)) (hv : q * (D : Rat) = (v : Rat)) (hu2 : u ≤ m) (hv2 : v ≤ m) (hm : m ≤ 4294967296) :
    Ev (fun k => spec_l2Plus.f k (fr p).1 (fr p).2 (fr q).1 (fr q).2) (fr (p + q)) := by
  obtain ⟨dp, np0, np⟩ := den_dvd hD hu
  obtain ⟨dq, nq0, nq⟩ := den_dvd hD hv
  have lp := Nat.le_of_dvd hD dp
  have lq := Nat.le_of_dvd hD dq
  have pp := p.den_nz
  have pq := q.den_nz
  have hc : 0 < Nat.gcd p.den q.den := Nat.gcd_pos_of_pos_left _ (by omega)
  obtain ⟨a, ha⟩ : ∃ a : Nat, p.num = a := ⟨p.num.toNat, by omega⟩
  obtain ⟨b, hb⟩ : ∃ b : Nat, q.num = b := ⟨q.num.toNat, by omega⟩
  have e := plus_val p q _ rfl
  unfold fr
  rw [ha, hb] at e
  simp only [ha, hb]
  rw [ha] at np
  rw [hb] at nq
  clear hu hv np0 nq0
  generalize p.den = d1 at *
  generalize q.den = d2 at *
  unfold spec_l2Plus.f
  have q1 : d1 / Nat.gcd d1 d2 ≤ d1 := Nat.div_le_self _ _
  have q2 : d2 / Nat.gcd d1 d2 ≤ d2 := Nat.div_le_self _ _
  have p1 : 0 < d1 / Nat.gcd d1 d2 := Nat.div_pos (Nat.le_of_dvd (by omega) (Nat.gcd_dvd_left _ _)) hc
  refine evb (ev_l2Gcd d1 d2) (evn (by omega) ?_)
  rw [show Int.tdiv (d2 : Int) ((Nat.gcd d1 d2 : Nat) : Int) = ((d2 / Nat.gcd d1 d2 : Nat) : Int) from (Int.ofNat_tdiv _ _).symm, show Int.tdiv (d1 : Int) ((Nat.gcd d1 d2 : Nat) : Int) = ((d1 / Nat.gcd d1 d2 : Nat) : Int) from (Int.ofNat_tdiv _ _).symm]
  generalize hx : d1 / Nat.gcd d1 d2 = x at *
  generalize hy : d2 / Nat.gcd d1 d2 = y at *
  have b1 : a * y ≤ 4294967296 * 479001600 := Nat.mul_le_mul (by omega) (by omega)
  have b2 : b * x ≤ 4294967296 * 479001600 := Nat.mul_le_mul (by omega) (by omega)
  have b3 : x * d2 ≤ 479001600 * 479001600 := Nat.mul_le_mul (by omega) (by omega)
  have i1 : (a : Int) * (y : Int) = ((a * y : Nat) : Int) := (Int.natCast_mul _ _).symm
  have i2 : (b : Int) * (x : Int) = ((b * x : Nat) : Int) := (Int.natCast_mul _ _).symm
  have i3 : (x : Int) * (d2 : Int) = ((x * d2 : Nat) : Int) := (Int.natCast_mul _ _).symm
  rw [w64 (x := (y : Int)) (by omega) (by omega), w64 (x := (x : Int)) (by omega) (by omega), i1, i2, i3, w64 (x := ((a * y : Nat) : Int)) (by omega) (by omega), w64 (x := ((b * x : Nat) : Int)) (by omega) (by omega),
    w64 (x := ((x * d2 : Nat) : Int)) (by omega) (by omega), ← Int.natCast_add, w64 (x := ((a * y + b * x : Nat) : Int)) (by omega) (by omega)]
  have h := ev_l2Cut (a * y + b * x) (x * d2) (Nat.mul_pos p1 (by omega)) (by omega) (by omega)
  rw [i1, i2, ← Int.natCast_add, Rat.intCast_natCast] at e
  rw [e] at h
  exact evb h (evs _)
theorem in_impl (a lo hi : Int) : impl_within.f a lo hi = some (decide (lo ≤ a ∧ a ≤ hi)) := by
  unfold impl_within.f
  split
  · congr 1; simp; omega
  · congr 1; simp; omega
theorem divisor_loop : ∀ b a : Nat, Ev (fun k => impl_divisor.l0 k (a : Int) (b : Int)) ((Nat.gcd a b : Nat) : Int) := by
  intro b
  induction b using Nat.strongRecOn with
  | ind b ih =>
    intro a
    apply evshift
    simp only [impl_divisor.l0]
    by_cases c : b = 0
    · subst c
      rw [Nat.gcd_zero_right]
      exact evp (by omega) (evs _)
    · refine evn (by omega) ?_
      rw [show Int.tmod (a : Int) (b : Int) = ((a % b : Nat) : Int) from (Int.ofNat_tmod a b).symm]
      have h := ih (a % b) (Nat.mod_lt _ (by omega)) b
      rwa [show Nat.gcd b (a % b) = Nat.gcd a b by rw [Nat.gcd_comm b, ← Nat.gcd_rec, Nat.gcd_comm]] at h
theorem ev_fraction (a b : Nat) (hb : 0 < b) (ha : a < 4611686018427387904) (hb2 : b < 4611686018427387904) : Ev (fun k => impl_fraction.f k (a : Int) (b : Int)) (fr ((a : Rat) / (b : Rat))) := by
  unfold impl_fraction.f impl_divisor.f
  have hg : 0 < Nat.gcd a b := Nat.gcd_pos_of_pos_right _ hb
  refine evb (divisor_loop b a) (evn (by omega) ?_)
  have e := fr_cut (a : Int) b hb
  rw [Int.natAbs_natCast, Rat.intCast_natCast] at e
  rw [show Int.tdiv (a : Int) ((Nat.gcd a b : Nat) : Int) = ((a / Nat.gcd a b : Nat) : Int) from (Int.ofNat_tdiv _ _).symm, show Int.tdiv (b : Int) ((Nat.gcd a b : Nat) : Int) = ((b / Nat.gcd a b : Nat) : Int) from (Int.ofNat_tdiv _ _).symm]
  have h1 : a / Nat.gcd a b ≤ a := Nat.div_le_self _ _
  have h2 : b / Nat.gcd a b ≤ b := Nat.div_le_self _ _
  rw [← Int.natCast_ediv, ← Int.natCast_ediv] at e
  rw [← e]
  clear e
  generalize a / Nat.gcd a b = x at *
  generalize b / Nat.gcd a b = y at *
  rw [w64 (by omega) (by omega), w64 (by omega) (by omega)]
  exact evs _
theorem ev_eqIntA2 (a b : Int) : Ev (fun k => laws_eqIntA2.f k a b a b) true := by
  unfold laws_eqIntA2.f
  apply evshift
  simp only [laws_eqIntA2.l0]
  refine evp (by omega) (evp (by simp) (evp (by simp) ?_))
  rw [show wrap64 (0 + 1) = 1 by unfold wrap64; omega]
  apply evshift
  simp only [laws_eqIntA2.l0]
  refine evp (by omega) (evn (by omega) (evp (by simp) (evp (by simp) ?_)))
  rw [show wrap64 (1 + 1) = 2 by unfold wrap64; omega]
  apply evshift
  simp only [laws_eqIntA2.l0]
  exact evn (by omega) (evs _)
theorem eqIntA2S_loop (l : List S65) (hl : l.length ≤ 1048576) : ∀ d j, j + d = l.length → Ev (fun k => laws_eqIntA2S.l0 k l l (j : Int)) true
  | 0, j, h => by
    apply evshift
    simp only [laws_eqIntA2S.l0]
    exact evn (by omega) (evs _)
  | d + 1, j, h => by
    have ih := eqIntA2S_loop l hl d (j + 1) (by omega)
    apply evshift
    simp only [laws_eqIntA2S.l0]
    refine evp (by omega) (evp (by omega) (evp (by omega) (evb (ev_eqIntA2 _ _) (evp rfl ?_))))
    rw [wnext j (by omega)]
    exact ih
theorem ev_eqIntA2S (l : List S65) (hl : l.length ≤ 1048576) : Ev (fun k => laws_eqIntA2S.f k l l) true := by
  unfold laws_eqIntA2S.f
  exact evp (by trivial) (eqIntA2S_loop l hl l.length 0 (by omega))
def marksA (m : Int) (n : Nat) : List S65 := (List.range n).map fun i => ⟨m + 2 * ((i : Nat) : Int), m + 2 * ((i : Nat) : Int) + 1⟩
theorem marksA_len (m : Int) (n : Nat) : (marksA m n).length = n := by simp [marksA]
theorem rd_marksA {m : Int} {n j : Nat} (h : j < n) : rd_T65 (marksA m n) (j : Int) = ⟨m + 2 * j, m + 2 * j + 1⟩ := by
  simp [rd_T65, marksA, List.getD, h]
theorem markA_at (m : Int) (l : List S65) (j : Nat) (h : j < l.length) (x : S65) : (marksA m j ++ l.drop j).set j x = marksA m j ++ x :: l.drop (j + 1) := by
  rw [List.drop_eq_getElem_cons h, List.set_append_right _ _ (by rw [marksA_len]; exact Nat.le_refl _), marksA_len, Nat.sub_self, List.set_cons_zero]
theorem markA_at2 (m : Int) (l : List S65) (j : Nat) (x y : S65) : (marksA m j ++ x :: l.drop (j + 1)).set j y = marksA m j ++ y :: l.drop (j + 1) := by
  rw [List.set_append_right _ _ (by rw [marksA_len]; exact Nat.le_refl _), marksA_len, Nat.sub_self, List.set_cons_zero]
theorem markA_rd (m : Int) (l : List S65) (j : Nat) (x : S65) : rd_T65 (marksA m j ++ x :: l.drop (j + 1)) (j : Int) = x := by
  simp [rd_T65, List.getD, marksA_len]
theorem markIntA2S_loop (l : List S65) (m : Int) (hl : l.length ≤ 1048576) (h0 : 0 ≤ m) (hm : m ≤ 1099511627776) : ∀ d j, j + d = l.length → Ev (fun k => laws_markIntA2S.l0 k (marksA m j ++ l.drop j) (m + 2 * (j : Int)) (j : Int)) (m + 2 * (l.length : Int), marksA m l.length)
  | 0, j, h => by
    obtain rfl : j = l.length := by omega
    apply evshift
    simp only [laws_markIntA2S.l0]
    refine evn (by simp [marksA_len]) ?_
    simp only [List.drop_length, List.append_nil]
    exact evs _
  | d + 1, j, h => by
    have ih := markIntA2S_loop l m hl h0 hm d (j + 1) (by omega)
    have hlen : (marksA m j ++ l.drop j).length = l.length := by simp [marksA_len]; omega
    apply evshift
    simp only [laws_markIntA2S.l0]
    refine evp (by rw [hlen]; omega) ?_
    apply evshift
    simp only [laws_markIntA2S.l1]
    refine evp (by omega) (evp (by omega) (evp (by rw [hlen]; omega) (evp (by simp) ?_)))
    rw [Int.toNat_natCast, markA_at m l j (by omega), show wrap64 (0 + 1) = 1 by unfold wrap64; omega, w64 (by omega) (by omega)]
    apply evshift
    simp only [laws_markIntA2S.l1]
    have hlen2 : ∀ x : S65, (marksA m j ++ x :: l.drop (j + 1)).length = l.length := fun x => by simp [marksA_len]; omega
    refine evp (by omega) (evp (by omega) (evp (by rw [hlen2]; omega) (evn (by omega) (evp (by simp) ?_))))
    rw [Int.toNat_natCast, markA_at2, markA_rd, show wrap64 (1 + 1) = 2 by unfold wrap64; omega, w64 (by omega) (by omega)]
    apply evshift
    simp only [laws_markIntA2S.l1]
    refine evn (by omega) ?_
    rw [wnext j (by omega), show m + 2 * (j : Int) + 1 + 1 = m + 2 * ((j + 1 : Nat) : Int) by omega]
    have e : marksA m j ++ (⟨m + 2 * (j : Int), m + 2 * (j : Int) + 1⟩ : S65) :: l.drop (j + 1) = marksA m (j + 1) ++ l.drop (j + 1) := by simp [marksA, List.range_succ]
    rw [e]
    exact ih
theorem ev_markIntA2S (l : List S65) (m : Int) (hl : l.length ≤ 1048576) (h0 : 0 ≤ m) (hm : m ≤ 1099511627776) : Ev (fun k => laws_markIntA2S.f k l m) (m + 2 * (l.length : Int), marksA m l.length) := by
  unfold laws_markIntA2S.f
  have h := markIntA2S_loop l m hl h0 hm l.length 0 (by omega)
  simpa [marksA] using h
theorem heldIntA2S_loop (n : Nat) (m : Int) (hn : n ≤ 1048576) (h0 : 0 ≤ m) (hm : m ≤ 1099511627776) : ∀ d j, j + d = n → Ev (fun k => laws_heldIntA2S.l0 k (marksA m n) (m + 2 * (j : Int)) (j : Int)) (m + 2 * (n : Int))
  | 0, j, h => by
    obtain rfl : j = n := by omega
    apply evshift
    simp only [laws_heldIntA2S.l0]
    exact evn (by rw [marksA_len]; omega) (evs _)
  | d + 1, j, h => by
    have ih := heldIntA2S_loop n m hn h0 hm d (j + 1) (by omega)
    apply evshift
    simp only [laws_heldIntA2S.l0]
    refine evp (by rw [marksA_len]; omega) ?_
    apply evshift
    simp only [laws_heldIntA2S.l1]
    refine evp (by omega) (evp (by omega) (evp (by rw [marksA_len]; omega) (evp (by simp) (evp (by rw [rd_marksA (by omega)]) ?_))))
    rw [show wrap64 (0 + 1) = 1 by unfold wrap64; omega, w64 (by omega) (by omega)]
    apply evshift
    simp only [laws_heldIntA2S.l1]
    refine evp (by omega) (evp (by omega) (evp (by rw [marksA_len]; omega) (evn (by omega) (evp (by simp) (evp (by rw [rd_marksA (by omega)]) ?_)))))
    rw [show wrap64 (1 + 1) = 2 by unfold wrap64; omega, w64 (by omega) (by omega)]
    apply evshift
    simp only [laws_heldIntA2S.l1]
    refine evn (by omega) ?_
    rw [wnext j (by omega), show m + 2 * (j : Int) + 1 + 1 = m + 2 * ((j + 1 : Nat) : Int) by omega]
    exact ih
theorem ev_heldIntA2S (n : Nat) (m : Int) (hn : n ≤ 1048576) (h0 : 0 ≤ m) (hm : m ≤ 1099511627776) : Ev (fun k => laws_heldIntA2S.f k (marksA m n) m) (m + 2 * (n : Int)) := by
  unfold laws_heldIntA2S.f
  have h := heldIntA2S_loop n m hn h0 hm n 0 (by omega)
  simpa using h
set_option linter.unusedSimpArgs false
set_option linter.unusedVariables false
namespace OwnT
/-- The free seats, ascending. -/
def free (n : Nat) (b : List Int) : List Int := ((List.range n).map fun i => ((i : Nat) : Int)).filter fun x => !b.contains x
def choices (n k : Nat) (b : List Int) : List Int := if k ≤ b.length ∧ ¬ ((b.length : Nat) : Int) ∈ b then [((b.length : Nat) : Int)] else free n b
def all (n k : Nat) : Nat → List Int → List (List Int)
  | 0, b => [b]
  | d + 1, b => (choices n k b).flatMap fun c => all n k d (b ++ [c])
def inv (m : Nat) : Rat := 1 / (m : Rat)
/-- The chance of a seating: of its first j choices. -/
def ch (n k : Nat) (s : List Int) : Nat → Rat
  | 0 => 1
  | j + 1 => ch n k s j * inv (choices n k (s.take j)).length
def wsum (n k i : Nat) : Nat → List Int → Rat
  | 0, b => if b[i]? = some (i : Int) then 1 else 0
  | d + 1, b => inv (choices n k b).length * ((choices n k b).map fun c => wsum n k i d (b ++ [c])).sum
def total (n k i : Nat) (l : List (List Int)) : Rat := ((l.filter fun s => decide (s[i]? = some (i : Int))).map fun s => ch n k s n).sum

theorem sum_append (a b : List Rat) : (a ++ b).sum = a.sum + b.sum := by
  induction a with
  | nil => simp only [List.nil_append, List.sum_nil]; grind
  | cons x a ih => simp only [List.cons_append, List.sum_cons, ih]; grind
theorem sum_mul {α : Type} (x : Rat) (f : α → Rat) (a : List α) : (a.map fun y => x * f y).sum = x * (a.map f).sum := by
  induction a with
  | nil => simp only [List.map_nil, List.sum_nil]; grind
  | cons y a ih => simp only [List.map_cons, List.sum_cons, ih]; grind
theorem total_append (n k i : Nat) (a b : List (List Int)) : total n k i (a ++ b) = total n k i a + total n k i b := by
  unfold total; rw [List.filter_append, List.map_append, sum_append]
theorem total_flat (n k i : Nat) (f : Int → List (List Int)) (l : List Int) : total n k i (l.flatMap f) = (l.map fun c => total n k i (f c)).sum := by
  induction l with
  | nil => simp [total]
  | cons c l ih => rw [List.flatMap_cons, total_append, ih, List.map_cons, List.sum_cons]
theorem ch_prefix (n k : Nat) (s t : List Int) : ∀ j, s.take j = t.take j → ch n k s j = ch n k t j
  | 0, _ => rfl
  | j + 1, h => by
    have h' : s.take j = t.take j := by
      have := congrArg (List.take j) h
      simpa [List.take_take] using this
    rw [ch, ch, ch_prefix n k s t j h', h']
theorem total_all (n k i : Nat) : ∀ (d : Nat) (b : List Int), b.length + d = n → total n k i (all n k d b) = ch n k b b.length * wsum n k i d b
  | 0, b, h => by
    simp only [all, total, wsum, List.filter_cons, List.filter_nil]
    have : b.length = n := by omega
    by_cases c : b[i]? = some (i : Int)
    · simp only [c, this, decide_true, if_true, List.map_cons, List.map_nil, List.sum_cons, List.sum_nil]; grind
    · simp only [c, decide_false, if_false, List.map_nil, List.sum_nil, Bool.false_eq_true]; grind
  | d + 1, b, h => by
    simp only [all, wsum]
    rw [total_flat]
    have e : ∀ c, total n k i (all n k d (b ++ [c])) = (ch n k b b.length * inv (choices n k b).length) * wsum n k i d (b ++ [c]) := by
      intro c
      rw [total_all n k i d (b ++ [c]) (by simp; omega)]
      simp only [List.length_append, List.length_singleton, ch]
      rw [ch_prefix n k (b ++ [c]) b b.length (by simp), List.take_append_of_le_length (Nat.le_refl _), List.take_length]
    simp only [e]
    rw [sum_mul]
    grind

structure Ok (n : Nat) (b : List Int) : Prop where
  nd : b.Nodup
  mem : ∀ x ∈ b, 0 ≤ x ∧ x < n
theorem mem_free {n : Nat} {b : List Int} {x : Int} : x ∈ free n b ↔ (0 ≤ x ∧ x < n) ∧ ¬ x ∈ b := by
  simp only [free, List.mem_filter, List.mem_map, List.mem_range, Bool.not_eq_true', List.contains_eq_mem, decide_eq_false_iff_not]
  constructor
  · rintro ⟨⟨i, hi, rfl⟩, h⟩; exact ⟨⟨by omega, by omega⟩, h⟩
  · rintro ⟨⟨h1, h2⟩, h⟩; exact ⟨⟨x.toNat, by omega, by omega⟩, h⟩
theorem range_nodup (n : Nat) : ((List.range n).map fun i => ((i : Nat) : Int)).Nodup := by
  have : (List.range n).Nodup := List.nodup_range
  unfold List.Nodup at *
  exact List.pairwise_map.2 (this.imp fun h => by omega)
theorem free_nodup (n : Nat) (b : List Int) : (free n b).Nodup := List.Pairwise.filter _ (range_nodup n)
theorem filter_split {α : Type} (p : α → Bool) (l : List α) : (l.filter p).length + (l.filter fun x => !p x).length = l.length := by
  induction l with
  | nil => rfl
  | cons a l ih => by_cases h : p a <;> simp [List.filter_cons, h] <;> omega
theorem free_len {n : Nat} {b : List Int} (h : Ok n b) : (free n b).length + b.length = n := by
  have e : (((List.range n).map fun i => ((i : Nat) : Int)).filter fun x => b.contains x).Perm b := by
    refine (List.perm_ext_iff_of_nodup (List.Pairwise.filter _ (range_nodup n)) h.nd).2 fun x => ?_
    simp only [List.mem_filter, List.mem_map, List.mem_range, List.contains_eq_mem, decide_eq_true_eq]
    constructor
    · exact fun h => h.2
    · intro hx
      have := h.mem x hx
      exact ⟨⟨x.toNat, by omega, by omega⟩, hx⟩
  have s := filter_split (fun x => b.contains x) ((List.range n).map fun i => ((i : Nat) : Int))
  rw [e.length_eq] at s
  simp only [List.length_map, List.length_range] at s
  show (List.filter (fun x => !b.contains x) _).length + _ = n
  omega
theorem Ok.snoc {n : Nat} {b : List Int} (h : Ok n b) {c : Int} (hc : c ∈ free n b) : Ok n (b ++ [c]) := by
  obtain ⟨h1, h2⟩ := mem_free.1 hc
  refine ⟨List.nodup_append.2 ⟨h.nd, by simp, ?_⟩, ?_⟩
  · intro a ha d hd e; simp at hd; subst hd; subst e; exact h2 ha
  · intro x hx; rw [List.mem_append] at hx
    rcases hx with hx | hx
    · exact h.mem x hx
    · simp at hx; subst hx; exact h1
theorem choices_sub {n k : Nat} {b : List Int} (hb : b.length < n) {c : Int} (hc : c ∈ choices n k b) : c ∈ free n b := by
  unfold choices at hc
  split at hc
  · rename_i h; simp at hc; subst hc; exact mem_free.2 ⟨by omega, h.2⟩
  · exact hc
theorem choices_pos {n k : Nat} {b : List Int} (h : Ok n b) (hb : b.length < n) : 0 < (choices n k b).length := by
  unfold choices
  split
  · simp
  · have := free_len h; omega
theorem inv_mul {m : Nat} (h : 0 < m) : inv m * (m : Rat) = 1 := by
  have : (m : Rat) ≠ 0 := by
    intro e
    have : ((m : Nat) : Rat) = ((0 : Nat) : Rat) := e
    rw [Rat.natCast_inj] at this
    omega
  unfold inv; grind
theorem sum_const {α : Type} {f : α → Rat} {v : Rat} {l : List α} (h : ∀ c ∈ l, f c = v) : (l.map f).sum = (l.length : Rat) * v := by
  induction l with
  | nil => simp only [List.map_nil, List.sum_nil, List.length_nil]; grind
  | cons a l ih =>
    rw [List.map_cons, List.sum_cons, ih (fun c hc => h c (by simp [hc])), h a (by simp), List.length_cons, Rat.natCast_add]
    grind
theorem average {f : Int → Rat} {v : Rat} {l : List Int} (hl : 0 < l.length) (h : ∀ c ∈ l, f c = v) : inv l.length * (l.map f).sum = v := by
  rw [sum_const h]
  have := inv_mul hl
  grind
/-- Behind the traveler's turn all is decided. -/
theorem wsum_done {n k i : Nat} : ∀ {d : Nat} {b : List Int}, Ok n b → b.length + d = n → i < b.length → wsum n k i d b = if b[i]? = some (i : Int) then 1 else 0
  | 0, b, _, _, _ => rfl
  | d + 1, b, h, hd, hi => by
    rw [wsum]
    refine average (choices_pos h (by omega)) fun c hc => ?_
    rw [wsum_done (h.snoc (choices_sub (by omega) hc)) (by simp; omega) (by simp; omega), List.getElem?_append_left hi]
/-- A seat that is taken ahead of the traveler's turn. -/
theorem wsum_taken {n k i : Nat} (hin : i < n) : ∀ {d : Nat} {b : List Int}, Ok n b → b.length + d = n → b.length ≤ i → (i : Int) ∈ b → wsum n k i d b = 0
  | 0, b, _, hd, hi, _ => by omega
  | d + 1, b, h, hd, hi, hm => by
    rw [wsum]
    refine average (choices_pos h (by omega)) fun c hc => ?_
    have hf := choices_sub (by omega) hc
    have hs := h.snoc hf
    by_cases e : b.length = i
    · rw [wsum_done hs (by simp; omega) (by simp; omega), if_neg]
      rw [List.getElem?_append_right (by omega), ← e]
      simp
      intro hce
      exact (mem_free.1 hf).2 (by rw [hce, e]; exact hm)
    · exact wsum_taken hin hs (by simp; omega) (by simp; omega) (by simp [hm])
theorem sum_one {f : Int → Rat} {a : Int} {x y : Rat} : ∀ {l : List Int}, l.Nodup → a ∈ l → f a = x → (∀ c ∈ l, c ≠ a → f c = y) → (l.map f).sum = x + ((l.length - 1 : Nat) : Rat) * y
  | [], _, h, _, _ => by simp at h
  | c :: l, hn, hm, ha, hy => by
    rw [List.nodup_cons] at hn
    rw [List.map_cons, List.sum_cons]
    by_cases e : c = a
    · subst e
      rw [sum_const (v := y) (fun c' hc' => hy c' (by simp [hc']) (by intro e; subst e; exact hn.1 hc')), ha]
      simp
    · have hm' : a ∈ l := by simp at hm; rcases hm with h | h; exact absurd h.symm e; exact h
      rw [sum_one hn.2 hm' ha (fun c' hc' => hy c' (by simp [hc'])), hy c (by simp) e]
      have hp : 0 < l.length := List.length_pos_of_mem hm'
      have : ((c :: l).length - 1 : Nat) = (l.length - 1) + 1 := by simp; omega
      rw [this, Rat.natCast_add]
      grind
/-- A traveler without a pass. -/
theorem wsum_low {n k i : Nat} (hik : i < k) (hin : i < n) : ∀ {d : Nat} {b : List Int}, Ok n b → b.length + d = n → b.length ≤ i → ¬ (i : Int) ∈ b → wsum n k i d b = inv (n - b.length)
  | 0, b, _, hd, hi, _ => by omega
  | d + 1, b, h, hd, hi, hm => by
    have hc : choices n k b = free n b := by unfold choices; rw [if_neg (by omega)]
    have hl := free_len h
    have hif : (i : Int) ∈ free n b := mem_free.2 ⟨by omega, hm⟩
    rw [wsum, hc]
    have hself : b.length = i → wsum n k i d (b ++ [(i : Int)]) = 1 := fun e => by
      rw [wsum_done (h.snoc hif) (by simp; omega) (by simp; omega), if_pos]
      rw [List.getElem?_append_right (by omega), ← e]; simp
    by_cases e : b.length = i
    · rw [sum_one (free_nodup n b) hif (hself e) (y := 0) (fun c hc hne => by
        rw [wsum_done (h.snoc hc) (by simp; omega) (by simp; omega), if_neg]
        rw [List.getElem?_append_right (by omega), ← e]; simp; omega)]
      have : n - b.length = (free n b).length := by omega
      rw [this]
      grind
    · rw [sum_one (free_nodup n b) hif (x := 0) (y := inv (n - (b.length + 1)))]
      · have e1 : (free n b).length - 1 = n - (b.length + 1) := by omega
        have e2 : (free n b).length = n - b.length := by omega
        rw [e1, e2]
        have := inv_mul (m := n - (b.length + 1)) (by omega)
        grind
      · exact wsum_taken hin (h.snoc hif) (by simp; omega) (by simp; omega) (by simp)
      · intro c hc hne
        rw [wsum_low hik hin (h.snoc hc) (by simp; omega) (by simp; omega) (by simp [hm]; omega)]
        simp
/-- A seat that is no pass of a traveler between the losers and this one. -/
def sp (k i : Nat) (x : Int) : Bool := decide (x < k) || decide ((i : Int) ≤ x)
def G (n k i : Nat) (b : List Int) : Nat := ((free n b).filter (sp k i)).length
theorem free_snoc (n : Nat) (b : List Int) (c : Int) : free n (b ++ [c]) = (free n b).filter fun x => !decide (x = c) := by
  unfold free
  rw [List.filter_filter]
  refine List.filter_congr fun x _ => ?_
  by_cases h1 : x ∈ b <;> by_cases h2 : x = c <;> simp [h1, h2]
theorem len_erase {l : List Int} {c : Int} (hn : l.Nodup) (hc : c ∈ l) : (l.filter fun x => !decide (x = c)).length + 1 = l.length := by
  have s := filter_split (fun x => decide (x = c)) l
  have : (l.filter fun x => decide (x = c)).length = 1 := by
    have e : (l.filter fun x => decide (x = c)).Perm [c] := by
      refine (List.perm_ext_iff_of_nodup (List.Pairwise.filter _ hn) (by simp)).2 fun x => ?_
      simp only [List.mem_filter, decide_eq_true_eq, List.mem_singleton]
      constructor
      · exact fun h => h.2
      · rintro rfl; exact ⟨hc, rfl⟩
    rw [e.length_eq]; rfl
  omega
theorem G_snoc {n k i : Nat} {b : List Int} {c : Int} (hc : c ∈ free n b) : G n k i (b ++ [c]) + (if sp k i c = true then 1 else 0) = G n k i b := by
  unfold G
  rw [free_snoc, List.filter_filter]
  have e : ((free n b).filter fun x => sp k i x && !decide (x = c)) = ((free n b).filter (sp k i)).filter fun x => !decide (x = c) := by
    rw [List.filter_filter]; exact List.filter_congr fun x _ => by simp [Bool.and_comm]
  rw [e]
  split
  · rename_i h
    exact len_erase (List.Pairwise.filter _ (free_nodup n b)) (List.mem_filter.2 ⟨hc, h⟩)
  · rename_i h
    rw [List.filter_eq_self.2]
    · simp
    · intro x hx
      rw [List.mem_filter] at hx
      by_cases e : x = c
      · subst e; exact absurd hx.2 h
      · simp [e]
theorem count_window (n lo hi : Nat) (h1 : lo ≤ hi) (h2 : hi ≤ n) : (((List.range n).map fun i => ((i : Nat) : Int)).filter fun x => decide ((lo : Int) ≤ x) && decide (x < hi)).length = hi - lo := by
  induction n generalizing hi with
  | zero => simp; omega
  | succ n ih =>
    rw [List.range_succ, List.map_append, List.filter_append, List.length_append]
    by_cases e : hi = n + 1
    · subst e
      have : ((List.map (fun i => ((i : Nat) : Int)) (List.range n)).filter fun x => decide ((lo : Int) ≤ x) && decide (x < ((n + 1 : Nat) : Int))) = ((List.map (fun i => ((i : Nat) : Int)) (List.range n)).filter fun x => decide ((lo : Int) ≤ x) && decide (x < (n : Int))) := by
        refine List.filter_congr fun x hx => ?_
        simp at hx
        obtain ⟨a, ha, rfl⟩ := hx
        have h3 : ((a : Nat) : Int) < ((n + 1 : Nat) : Int) := by omega
        have h4 : ((a : Nat) : Int) < ((n : Nat) : Int) := by omega
        simp [h3, h4]
        omega
      rw [this]
      by_cases e2 : lo = n + 1
      · subst e2
        have : ((List.map (fun i => ((i : Nat) : Int)) (List.range n)).filter fun x => decide (((n + 1 : Nat) : Int) ≤ x) && decide (x < (n : Int))) = [] := by
          rw [List.filter_eq_nil_iff]
          intro x hx; simp; omega
        rw [this]; simp [List.filter_cons]; 
      · rw [ih n (by omega) (Nat.le_refl _)]
        have : (decide ((lo : Int) ≤ ((n : Nat) : Int)) && decide (((n : Nat) : Int) < ((n + 1 : Nat) : Int))) = true := by simp; omega
        simp only [List.map_cons, List.map_nil, List.filter_cons, this, if_true, List.filter_nil, List.length_singleton]
        omega
    · rw [ih hi h1 (by omega)]
      have : (decide ((lo : Int) ≤ ((n : Nat) : Int)) && decide (((n : Nat) : Int) < (hi : Int))) = false := by simp; omega
      simp only [List.map_cons, List.map_nil, List.filter_cons, this, List.filter_nil, List.length_nil]
      simp
theorem filter_le {α : Type} (p q : α → Bool) (l : List α) (h : ∀ x ∈ l, p x = true → q x = true) : (l.filter p).length ≤ (l.filter q).length := by
  induction l with
  | nil => simp
  | cons a l ih =>
    have i := ih fun x hx => h x (by simp [hx])
    have ha := h a (by simp)
    simp only [List.filter_cons]
    cases hp : p a <;> cases hq : q a <;> simp_all <;> omega
theorem sum_two {f : Int → Rat} {a : Int} {p : Int → Bool} {x y z : Rat} {l : List Int} (hn : l.Nodup) (ha : a ∈ l) (hpa : p a = true) (h0 : f a = x) (h1 : ∀ c ∈ l, p c = true → c ≠ a → f c = y) (h2 : ∀ c ∈ l, p c = false → f c = z) :
    (l.map f).sum = x + (((l.filter p).length - 1 : Nat) : Rat) * y + ((l.filter fun c => !p c).length : Rat) * z := by
  have e : (l.map f).sum = ((l.filter p).map f).sum + ((l.filter fun c => !p c).map f).sum := by
    clear hn ha h0 h1 h2 hpa
    induction l with
    | nil => simp only [List.filter_nil, List.map_nil, List.sum_nil]; grind
    | cons c l ih =>
      cases h : p c <;> simp only [List.filter_cons, h, List.map_cons, List.sum_cons, ih, Bool.not_true, Bool.not_false, if_true, Bool.false_eq_true, if_false] <;> grind
  rw [e, sum_one (List.Pairwise.filter _ hn) (List.mem_filter.2 ⟨ha, hpa⟩) h0 (y := y), sum_const (v := z)]
  · intro c hc; rw [List.mem_filter] at hc; exact h2 c hc.1 (by simpa using hc.2)
  · intro c hc hne; rw [List.mem_filter] at hc; exact h1 c hc.1 hc.2 hne
/-- A traveler with a pass. -/
theorem wsum_high {n k i : Nat} (hki : k ≤ i) (hin : i < n) : ∀ {d : Nat} {b : List Int}, Ok n b → b.length + d = n → b.length ≤ i → ¬ (i : Int) ∈ b → (∀ t : Nat, k ≤ t → t < b.length → (t : Int) ∈ b) → wsum n k i d b = ((n - i : Nat) : Rat) * inv (G n k i b)
  | 0, b, _, hd, hi, _, _ => by omega
  | d + 1, b, h, hd, hi, hm, hv => by
    have hl := free_len h
    have hif : (i : Int) ∈ free n b := mem_free.2 ⟨by omega, hm⟩
    have hspi : sp k i (i : Int) = true := by simp [sp]
    have s := filter_split (sp k i) (free n b)
    have hG : ((free n b).filter (sp k i)).length = G n k i b := rfl
    rw [wsum]
    by_cases e : b.length = i
    · have hc : choices n k b = [((b.length : Nat) : Int)] := by unfold choices; rw [if_pos ⟨by omega, by rw [e]; exact hm⟩]
      rw [hc]
      have h1 : wsum n k i d (b ++ [((b.length : Nat) : Int)]) = 1 := by
        rw [e, wsum_done (h.snoc hif) (by simp; omega) (by simp; omega), if_pos]
        rw [List.getElem?_append_right (by omega), ← e]; simp
      have h2 : ((free n b).filter fun x => !sp k i x) = [] := by
        rw [List.filter_eq_nil_iff]
        intro x hx
        obtain ⟨⟨h3, h4⟩, h5⟩ := mem_free.1 hx
        simp only [sp, Bool.not_eq_true', Bool.or_eq_false_iff, decide_eq_false_iff_not, not_and]
        intro h6 h7
        exact h5 (by have := hv x.toNat (by omega) (by omega); rwa [Int.toNat_of_nonneg h3] at this)
      rw [h2] at s
      simp only [List.length_nil, Nat.add_zero, hG] at s
      have : G n k i b = n - i := by omega
      rw [this]
      simp only [List.map_cons, List.map_nil, List.sum_cons, List.sum_nil, List.length_singleton, h1]
      have := inv_mul (m := n - i) (by omega)
      have := inv_mul (m := 1) (by omega)
      have h1 : ((1 : Nat) : Rat) = 1 := rfl
      grind
    · by_cases hj : k ≤ b.length ∧ ¬ ((b.length : Nat) : Int) ∈ b
      · have hc : choices n k b = [((b.length : Nat) : Int)] := by unfold choices; rw [if_pos hj]
        have hjf : ((b.length : Nat) : Int) ∈ free n b := mem_free.2 ⟨by omega, hj.2⟩
        rw [hc]
        have h1 := wsum_high hki hin (d := d) (h.snoc hjf) (by simp; omega) (by simp; omega) (by simp [hm]; omega) (fun t h1 h2 => by
          simp at h2
          by_cases h3 : t = b.length
          · subst h3; simp
          · simp [hv t h1 (by omega)])
        have h2 := G_snoc (k := k) (i := i) hjf
        rw [if_neg (by simp [sp]; omega)] at h2
        simp only [List.map_cons, List.map_nil, List.sum_cons, List.sum_nil, List.length_singleton, h1]
        rw [Nat.add_zero] at h2
        rw [h2]
        have := inv_mul (m := 1) (by omega)
        have h1 : ((1 : Nat) : Rat) = 1 := rfl
        grind
      · have hc : choices n k b = free n b := by unfold choices; rw [if_neg hj]
        rw [hc]
        have hnext : ∀ c ∈ free n b, c ≠ (i : Int) → wsum n k i d (b ++ [c]) = ((n - i : Nat) : Rat) * inv (G n k i (b ++ [c])) := fun c hcf hne =>
          wsum_high hki hin (h.snoc hcf) (by simp; omega) (by simp; omega) (by simp [hm]; omega) (fun t h1 h2 => by
            simp at h2
            by_cases h3 : t = b.length
            · subst h3; simp; left; exact Classical.byContradiction fun h4 => hj ⟨h1, h4⟩
            · simp [hv t h1 (by omega)])
        have hM : ((free n b).filter fun x => !sp k i x).length ≤ i - (b.length + 1) := by
          rw [← count_window n (b.length + 1) i (by omega) (by omega)]
          unfold free
          rw [List.filter_filter]
          refine filter_le _ _ _ fun x hx hp => ?_
          simp only [Bool.and_eq_true, Bool.not_eq_true', sp, Bool.or_eq_false_iff, decide_eq_false_iff_not, List.contains_eq_mem] at hp
          simp only [Bool.and_eq_true, decide_eq_true_eq]
          refine ⟨?_, by omega⟩
          apply Classical.byContradiction
          intro h4
          apply hp.2
          by_cases h5 : x = b.length
          · subst h5; exact Classical.byContradiction fun h6 => hj ⟨by omega, h6⟩
          · have := hv x.toNat (by omega) (by omega); rwa [Int.toNat_of_nonneg (by omega)] at this
        have hG2 : n - i + 1 ≤ G n k i b := by omega
        rw [sum_two (p := sp k i) (x := 0) (y := ((n - i : Nat) : Rat) * inv (G n k i b - 1)) (z := ((n - i : Nat) : Rat) * inv (G n k i b)) (free_nodup n b) hif hspi]
        · rw [hG]
          have e1 : (free n b).length = G n k i b + ((free n b).filter fun x => !sp k i x).length := by omega
          have p1 := inv_mul (m := G n k i b - 1) (by omega)
          have p2 := inv_mul (m := G n k i b) (by omega)
          have p3 := inv_mul (m := (free n b).length) (by omega)
          have e2 : ((free n b).length : Rat) = (G n k i b : Rat) + (((free n b).filter fun x => !sp k i x).length : Rat) := by rw [e1, Rat.natCast_add]
          generalize (((free n b).filter fun x => !sp k i x).length : Rat) = M at *
          generalize inv (free n b).length = F at *
          generalize ((free n b).length : Rat) = L at *
          generalize ((G n k i b - 1 : Nat) : Rat) = g1 at *
          generalize inv (G n k i b - 1) = j1 at *
          generalize ((G n k i b : Nat) : Rat) = g at *
          generalize inv (G n k i b) = j at *
          grind
        · exact wsum_taken hin (h.snoc hif) (by simp; omega) (by simp; omega) (by simp)
        · intro c hcf hp hne
          rw [hnext c hcf hne]
          have h2 := G_snoc (k := k) (i := i) hcf
          rw [if_pos hp] at h2
          have : G n k i (b ++ [c]) = G n k i b - 1 := by omega
          rw [this]
        · intro c hcf hp
          rw [hnext c hcf (by rintro rfl; rw [hspi] at hp; cases hp)]
          have h2 := G_snoc (k := k) (i := i) hcf
          rw [if_neg (by simp [hp]), Nat.add_zero] at h2
          rw [h2]
theorem G_nil {n k i : Nat} (hki : k ≤ i) (hin : i < n) : G n k i [] = n - i + k := by
  have s := filter_split (sp k i) (free n [])
  have h0 := free_len (n := n) (b := []) ⟨by simp, by simp⟩
  have hM : ((free n []).filter fun x => !sp k i x).length = i - k := by
    rw [← count_window n k i hki (by omega)]
    unfold free
    rw [List.filter_filter]
    refine congrArg _ (List.filter_congr fun x hx => ?_)
    by_cases h1 : x < (k : Int) <;> by_cases h2 : (i : Int) ≤ x <;> simp [sp, h1, h2] <;> omega
  unfold G
  simp at h0
  omega
theorem own_chance {n k i : Nat} (_ : k ≤ n) (hin : i < n) : total n k i (all n k n []) = if i < k then inv n else ((n - i : Nat) : Rat) * inv (n - i + k) := by
  rw [total_all n k i n [] (by simp)]
  simp only [List.length_nil, ch]
  have h0 : Ok n [] := ⟨by simp, by simp⟩
  split
  · rename_i h
    rw [wsum_low h hin h0 (by simp) (by simp) (by simp)]; simp only [List.length_nil, Nat.sub_zero]; grind
  · rw [wsum_high (by omega) hin h0 (by simp) (by simp) (by simp) (fun t _ h => by simp at h), G_nil (by omega) hin]; grind
end OwnT
open OwnT
theorem good_at (a0 a1 : Int) : spec_l5Good.f a0 a1 = some (decide ((1 ≤ a0 ∧ a0 ≤ 12) ∧ (0 ≤ a1 ∧ a1 ≤ a0))) ∧ impl_isPlane.f a0 a1 = some (decide ((1 ≤ a0 ∧ a0 ≤ 12) ∧ (0 ≤ a1 ∧ a1 ≤ a0))) := by
  constructor
  · unfold spec_l5Good.f
    simp only [in_spec, Option.bind_some]
    by_cases h1 : 1 ≤ a0 ∧ a0 ≤ 12
    · rw [if_pos (by simpa using h1)]; simp [h1]
    · rw [if_neg (by simpa using h1)]; simp [h1]
  · unfold impl_isPlane.f
    simp only [in_impl, Option.bind_some]
    by_cases h1 : 1 ≤ a0 ∧ a0 ≤ 12
    · rw [if_pos (by simpa using h1)]; simp [h1]
    · rw [if_neg (by simpa using h1)]; simp [h1]
theorem choices_loop (n : Nat) (b : List Int) (hb : b.length ≤ 1048576) (hn : n ≤ 1000) : ∀ d j (acc : List Int), j + d = n → acc.length ≤ j →
    Ev (fun k => spec_l5Choices.l0 k (n : Int) b acc (j : Int)) (acc ++ ((List.range' j d).map fun i => ((i : Nat) : Int)).filter fun x => !b.contains x)
  | 0, j, acc, h, _ => by
    apply evshift
    simp only [spec_l5Choices.l0, List.range'_zero, List.map_nil, List.filter_nil, List.append_nil]
    exact evn (by omega) (evs _)
  | d + 1, j, acc, h, ha => by
    apply evshift
    simp only [spec_l5Choices.l0]
    rw [wnext j (by omega), List.range'_succ, List.map_cons, List.filter_cons]
    refine evp (by omega) (evb (ev_l1Has b (j : Int) hb) ?_)
    by_cases c : (j : Int) ∈ b
    · rw [if_neg (by simpa using c)]
      exact evp (by simpa using c) (choices_loop n b hb hn d (j + 1) acc (by omega) (by omega))
    · rw [if_pos (by simpa using c)]
      refine evn (by simpa using c) (evp (by omega) ?_)
      have ih := choices_loop n b hb hn d (j + 1) (acc ++ [(j : Int)]) (by omega) (by simp; omega)
      rwa [List.append_assoc, List.singleton_append] at ih
theorem ev_choices (n kk : Nat) (b : List Int) (hb : b.length ≤ 1048576) (hn : n ≤ 1000) : Ev (fun k => spec_l5Choices.f k (n : Int) (kk : Int) b) (choices n kk b) := by
  have hfree : Ev (fun k => spec_l5Choices.l0 k (n : Int) b [] 0) (free n b) := by
    have h := choices_loop n b hb hn n 0 [] (by omega) (by simp)
    rw [List.nil_append, ← List.range_eq_range'] at h
    exact h
  unfold spec_l5Choices.f choices
  by_cases c : kk ≤ b.length
  · refine evp (by omega) (evb (ev_l1Has b _ hb) ?_)
    apply evshift
    simp only [spec_l5Choices.j0]
    by_cases c2 : ((b.length : Nat) : Int) ∈ b
    · rw [if_neg (by simp [c2])]
      exact evn (by simp [c2]) hfree
    · rw [if_pos ⟨c, c2⟩]
      exact evp (by simp [c2]) (evs _)
  · refine evn (by omega) ?_
    rw [if_neg (by omega)]
    apply evshift
    simp only [spec_l5Choices.j0]
    exact evn (by simp) hfree
theorem free_le (n : Nat) (b : List Int) : (free n b).length ≤ n := by
  have := List.length_filter_le (fun x => !b.contains x) ((List.range n).map fun i => ((i : Nat) : Int))
  simpa [free] using this
theorem choices_le {n k : Nat} {b : List Int} (hn : 0 < n) : (choices n k b).length ≤ n := by
  unfold choices
  split
  · simp; omega
  · exact free_le n b
theorem flat_le {α β : Type} (f : α → List β) (m : Nat) : ∀ l : List α, (∀ x ∈ l, (f x).length ≤ m) → (l.flatMap f).length ≤ l.length * m
  | [], _ => by simp
  | x :: l, h => by
    have h1 := h x (by simp)
    have h2 := flat_le f m l fun y hy => h y (by simp [hy])
    rw [List.flatMap_cons, List.length_append, List.length_cons, Nat.add_mul, Nat.one_mul]
    omega
theorem all_le {n k : Nat} (hn : 0 < n) (hn7 : n ≤ 7) : ∀ (d : Nat) (b : List Int), (all n k d b).length ≤ 7 ^ d
  | 0, b => by simp [all]
  | d + 1, b => by
    rw [all]
    refine Nat.le_trans (flat_le _ (7 ^ d) _ fun c _ => all_le hn hn7 d _) ?_
    have := choices_le (k := k) (b := b) hn
    rw [Nat.pow_succ, Nat.mul_comm]
    exact Nat.mul_le_mul_left _ (by omega)
theorem pow7 {d : Nat} (h : d ≤ 7) : 7 ^ d ≤ 823543 := Nat.le_trans (Nat.pow_le_pow_right (by omega) h) (by decide)
theorem ev_all {n kk : Nat} (hn : 0 < n) (hn7 : n ≤ 7) : ∀ (d : Nat) (b : List Int), b.length + d = n → Ev (fun k => spec_l5All.f k (n : Int) (kk : Int) b) (all n kk d b)
  | 0, b, h => by
    apply evshift
    simp only [spec_l5All.f, all]
    exact evp (by omega) (evs _)
  | d + 1, b, h => by
    have loop : ∀ e j (acc : List (List Int)), j + e = (choices n kk b).length → acc.length ≤ j * 7 ^ d →
        Ev (fun k => spec_l5All.l0 k (n : Int) (kk : Int) b acc (choices n kk b) (j : Int)) (acc ++ ((choices n kk b).drop j).flatMap fun c => all n kk d (b ++ [c])) := by
      intro e
      induction e with
      | zero =>
        intro j acc hj _
        apply evshift
        simp only [spec_l5All.l0]
        rw [List.drop_eq_nil_of_le (by omega)]
        refine evn (by omega) (eve (evs _) ?_)
        simp
      | succ e ih =>
        intro j acc hj ha
        have hlt : j < (choices n kk b).length := by omega
        have hcl := choices_le (k := kk) (b := b) hn
        have p7 := pow7 (d := d) (by omega)
        have hal := all_le (k := kk) hn hn7 d (b ++ [rd (choices n kk b) (j : Int)])
        have hm : j * 7 ^ d ≤ 7 * 823543 := Nat.mul_le_mul (by omega) p7
        apply evshift
        simp only [spec_l5All.l0, Option.bind_some]
        refine evp (by omega) (evc (l1Own b (by omega)) (evp (by omega) (evp (by simp only [List.length_singleton]; omega) (evb (ev_all hn hn7 d (b ++ [rd (choices n kk b) (j : Int)]) (by simp; omega)) (evp (by omega) ?_)))))
        rw [wnext j (by omega), drop_cons hlt, List.flatMap_cons, ← List.append_assoc]
        exact ih (j + 1) _ (by omega) (by rw [List.length_append, Nat.add_mul, Nat.one_mul]; omega)
    apply evshift
    simp only [spec_l5All.f, all]
    refine evn (by omega) (evb (ev_choices n kk b (by omega) (by omega)) ?_)
    have h0 := loop (choices n kk b).length 0 [] (by omega) (by simp)
    simpa using h0
theorem OwnT.Ok.take {n : Nat} {s : List Int} (h : Ok n s) (j : Nat) : Ok n (s.take j) := ⟨h.nd.sublist (List.take_sublist _ _), fun x hx => h.mem x (List.mem_of_mem_take hx)⟩
/-- What is said of each seating. -/
structure Good (n k : Nat) (s : List Int) : Prop where
  len : s.length = n
  ok : Ok n s
  pick : ∀ j, j < n → rd s (j : Int) ∈ choices n k (s.take j)
theorem all_good {n k : Nat} : ∀ (d : Nat) (b s : List Int), b.length + d = n → Ok n b → s ∈ all n k d b → s.length = n ∧ s.take b.length = b ∧ Ok n s ∧ ∀ j, b.length ≤ j → j < n → rd s (j : Int) ∈ choices n k (s.take j)
  | 0, b, s, h, hb, hs => by
    simp only [all, List.mem_singleton] at hs
    subst hs
    exact ⟨by omega, List.take_length, hb, fun j h1 h2 => by omega⟩
  | d + 1, b, s, h, hb, hs => by
    simp only [all, List.mem_flatMap] at hs
    obtain ⟨c, hc, hs⟩ := hs
    obtain ⟨h1, h2, h3, h4⟩ := all_good d (b ++ [c]) s (by simp; omega) (hb.snoc (choices_sub (by omega) hc)) hs
    have h5 : s.take b.length = b := by
      have := congrArg (List.take b.length) h2
      rw [List.take_take, List.length_append, List.length_singleton, Nat.min_eq_left (by omega), List.take_append_of_le_length (Nat.le_refl _), List.take_length] at this
      exact this
    refine ⟨h1, h5, h3, fun j j1 j2 => ?_⟩
    by_cases e : j = b.length
    · subst e
      rw [h5]
      have : rd s ((b.length : Nat) : Int) = c := by
        rw [rd_lt (by omega)]
        have h6 := congrArg (fun l => l[b.length]?) h2
        simp only [List.length_append, List.length_singleton] at h6
        rw [List.getElem?_take_of_lt (by omega), List.getElem?_append_right (Nat.le_refl _), Nat.sub_self, List.getElem?_eq_getElem (by omega)] at h6
        exact Option.some.inj h6
      rw [this]
      exact hc
    · exact h4 j (by simp; omega) j2
/-- By what 1 is divided in the chance of a seating. -/
def chD (n k : Nat) (s : List Int) : Nat → Nat
  | 0 => 1
  | j + 1 => chD n k s j * (choices n k (s.take j)).length
theorem chD_pos {n k : Nat} {s : List Int} (h : Ok n s) (hl : s.length = n) : ∀ j, j ≤ n → 0 < chD n k s j
  | 0, _ => by simp [chD]
  | j + 1, hj => Nat.mul_pos (chD_pos h hl j (by omega)) (choices_pos (h.take j) (by rw [List.length_take]; omega))
theorem inv_inv_mul {a b : Nat} (ha : 0 < a) (hb : 0 < b) : inv a * inv b = inv (a * b) := by
  unfold inv
  rw [Rat.natCast_mul]
  have h1 := natCast_ne ha
  have h2 := natCast_ne hb
  grind
theorem ch_chD {n k : Nat} {s : List Int} (h : Ok n s) (hl : s.length = n) : ∀ j, j ≤ n → ch n k s j = inv (chD n k s j)
  | 0, _ => by
    simp only [ch, chD, inv]
    have h1 : ((1 : Nat) : Rat) = 1 := rfl
    rw [h1]; grind
  | j + 1, hj => by
    rw [ch, chD, ch_chD h hl j (by omega), inv_inv_mul (chD_pos h hl j (by omega)) (choices_pos (h.take j) (by rw [List.length_take]; omega))]
def fac : Nat → Nat
  | 0 => 1
  | n + 1 => (n + 1) * fac n
theorem chD_fac {n k : Nat} {s : List Int} (h : Ok n s) (hl : s.length = n) : ∀ j, j ≤ n → chD n k s j * fac (n - j) ∣ fac n
  | 0, _ => by simp [chD]
  | j + 1, hj => by
    have ih := chD_fac (k := k) h hl j (by omega)
    obtain ⟨m, hm⟩ : ∃ m, n - j = m + 1 := ⟨n - j - 1, by omega⟩
    rw [hm, fac] at ih
    rw [show n - (j + 1) = m by omega, chD]
    have ht : (s.take j).length = j := by rw [List.length_take]; omega
    unfold choices
    split
    · rw [List.length_singleton, Nat.mul_one]
      refine Nat.dvd_trans ?_ ih
      rw [← Nat.mul_assoc, Nat.mul_comm (chD n k s j) (m + 1), Nat.mul_assoc]
      exact Nat.dvd_mul_left _ _
    · have := free_len (h.take j)
      have e : (free n (s.take j)).length = m + 1 := by omega
      rw [e, Nat.mul_assoc]
      exact ih
theorem fac_5040 : ∀ n, n ≤ 7 → fac n ∣ 5040 := by
  intro n hn
  have : n = 0 ∨ n = 1 ∨ n = 2 ∨ n = 3 ∨ n = 4 ∨ n = 5 ∨ n = 6 ∨ n = 7 := by omega
  rcases this with rfl | rfl | rfl | rfl | rfl | rfl | rfl | rfl <;> decide
theorem fr_inv {m : Nat} (h : 0 < m) : fr (inv m) = (1, (m : Int)) := by
  have e := fr_cut 1 m h
  have : ((1 : Int).natAbs.gcd m) = 1 := by simp
  rw [this] at e
  unfold inv
  have e1 : ((1 : Int) : Rat) = 1 := rfl
  rw [e1] at e
  rw [← e]
  simp
theorem chD_le {n k : Nat} {s : List Int} (hn : 0 < n) (hn7 : n ≤ 7) : ∀ j, chD n k s j ≤ 7 ^ j
  | 0 => by simp [chD]
  | j + 1 => by
    have h1 := chD_le (k := k) (s := s) hn hn7 j
    have h2 := choices_le (k := k) (b := s.take j) hn
    rw [chD, Nat.pow_succ]
    exact Nat.mul_le_mul h1 (by omega)
theorem ev_chance {n kk : Nat} {s : List Int} (hn : 0 < n) (hn7 : n ≤ 7) (hg : Good n kk s) : Ev (fun k => spec_l5Chance.f k (n : Int) (kk : Int) s) (fr (ch n kk s n)) := by
  have hl := hg.len
  have loop : ∀ d j, j + d = n → Ev (fun k => spec_l5Chance.l0 k (n : Int) (kk : Int) s (j : Int) 1 ((chD n kk s j : Nat) : Int)) (fr (ch n kk s n)) := by
    intro d
    induction d with
    | zero =>
      intro j hj
      obtain rfl : j = n := by omega
      apply evshift
      simp only [spec_l5Chance.l0]
      refine evn (by omega) (eve (evs _) ?_)
      rw [ch_chD hg.ok hl _ (Nat.le_refl _), fr_inv (chD_pos hg.ok hl _ (Nat.le_refl _))]
    | succ d ih =>
      intro j hj
      have ht : (s.take j).length = j := by rw [List.length_take]; omega
      have hcl := choices_le (k := kk) (b := s.take j) hn
      have hcp := choices_pos (k := kk) (hg.ok.take j) (by omega)
      have hp := chD_pos (k := kk) hg.ok hl j (by omega)
      have hp1 := chD_pos (k := kk) hg.ok hl (j + 1) (by omega)
      have hD := Nat.le_trans (chD_le (k := kk) (s := s) hn hn7 j) (pow7 (by omega))
      have hD1 := Nat.le_trans (chD_le (k := kk) (s := s) hn hn7 (j + 1)) (pow7 (by omega))
      have hin := hg.pick j (by omega)
      apply evshift
      simp only [spec_l5Chance.l0]
      rw [wnext j (by omega), Int.toNat_natCast]
      refine evp (by omega) (evp (by omega) (evp (by omega) (evb (ev_choices n kk (s.take j) (by omega) (by omega)) (evp (by omega) (evb (ev_l1Has _ _ (by omega)) (evp (by simpa using hin) ?_))))))
      have em : ((chD n kk s j : Nat) : Int) * (((choices n kk (s.take j)).length : Nat) : Int) = ((chD n kk s (j + 1) : Nat) : Int) := by
        rw [chD]; exact (Int.natCast_mul _ _).symm
      rw [em, w64 (by omega) (by omega)]
      have hcut := ev_l2Cut 1 (chD n kk s (j + 1)) hp1 (by omega) (by omega)
      have ef : fr (((1 : Nat) : Rat) / ((chD n kk s (j + 1) : Nat) : Rat)) = (1, ((chD n kk s (j + 1) : Nat) : Int)) := fr_inv hp1
      rw [ef] at hcut
      exact evb hcut (ih (j + 1) (by omega))
  unfold spec_l5Chance.f
  exact loop n 0 (by omega)
theorem chance_part {n kk : Nat} {s : List Int} (hn7 : n ≤ 7) (hg : Good n kk s) : ∃ u : Nat, ch n kk s n * ((5040 : Nat) : Rat) = (u : Rat) ∧ u ≤ 5040 := by
  have hp := chD_pos (k := kk) hg.ok hg.len n (Nat.le_refl _)
  have hd := chD_fac (k := kk) hg.ok hg.len n (Nat.le_refl _)
  rw [Nat.sub_self, fac, Nat.mul_one] at hd
  obtain ⟨u, hu⟩ := Nat.dvd_trans hd (fac_5040 n hn7)
  refine ⟨u, ?_, ?_⟩
  · rw [ch_chD hg.ok hg.len _ (Nat.le_refl _), hu, Rat.natCast_mul]
    have := inv_mul hp
    grind
  · rw [hu]; exact Nat.le_mul_of_pos_left _ hp
theorem rd_L1_lt {l : List (List Int)} {j : Nat} (h : j < l.length) : rd_L1 l (j : Int) = l[j] := by simp [rd_L1, List.getD, h]
theorem ownsum_loop {n kk i : Nat} (hn : 0 < n) (hn7 : n ≤ 7) (hi : i < n) (l : List (List Int)) (hl : l.length ≤ 823543) (hg : ∀ s ∈ l, Good n kk s) (x6 : List S65) (hx6 : x6.length ≤ 100) (R : List S65 × Bool) :
    ∀ e j (p : Rat) (u : Nat), j + e = l.length → p * ((5040 : Nat) : Rat) = (u : Rat) → u ≤ 5040 * j →
      Ev (fun k => spec_OwnTable.l0 k (n : Int) (kk : Int) (x6 ++ [(⟨(fr (p + total n kk i (l.drop j))).1, (fr (p + total n kk i (l.drop j))).2⟩ : S65)]) l ((i + 1 : Nat) : Int)) R →
      Ev (fun k => spec_OwnTable.l1 k (n : Int) (kk : Int) x6 l (i : Int) (j : Int) (fr p).1 (fr p).2) R
  | 0, j, p, u, h, hp, hu, hc => by
    apply evshift
    simp only [spec_OwnTable.l1]
    rw [wnext i (by omega)]
    refine evn (by omega) (evp (by omega) ?_)
    rw [List.drop_eq_nil_of_le (by omega), show total n kk i [] = 0 by simp [total], show p + 0 = p by grind] at hc
    exact hc
  | e + 1, j, p, u, h, hp, hu, hc => by
    have hj : j < l.length := by omega
    have hgj := hg _ (List.getElem_mem hj)
    have hlen := hgj.len
    have hu2 : 5040 * j ≤ 5040 * 823543 := Nat.mul_le_mul_left _ (by omega)
    apply evshift
    simp only [spec_OwnTable.l1]
    rw [rd_L1_lt hj, wnext j (by omega)]
    refine evp (by omega) (evp (by omega) (evp (by omega) (evp (by omega) ?_)))
    have hget : l[j][i]? = some (rd l[j] (i : Int)) := by rw [rd_lt (by omega)]; exact List.getElem?_eq_getElem _
    rw [List.drop_eq_getElem_cons hj] at hc
    have et : total n kk i (l[j] :: l.drop (j + 1)) = (if rd l[j] (i : Int) = (i : Int) then ch n kk l[j] n else 0) + total n kk i (l.drop (j + 1)) := by
      unfold total
      rw [List.filter_cons, hget]
      by_cases c : rd l[j] (i : Int) = (i : Int)
      · rw [if_pos c, if_pos (by rw [c]; simp), List.map_cons, List.sum_cons]
      · rw [if_neg c, if_neg (by simpa using c)]; grind
    rw [et] at hc
    by_cases c : rd l[j] (i : Int) = (i : Int)
    · obtain ⟨v, hv, hv2⟩ := chance_part hn7 hgj
      rw [if_pos c, ← Rat.add_assoc] at hc
      refine evp c (evb (ev_chance hn hn7 hgj) (evb (ev_l2Plus p _ u v 5040 (5040 * (j + 1)) (by omega) (by omega) hp hv (by omega) (by omega) (by omega)) ?_))
      exact ownsum_loop hn hn7 hi l hl hg x6 hx6 R e (j + 1) _ (u + v) (by omega) (by rw [Rat.natCast_add]; grind) (by omega) hc
    · rw [if_neg c, show p + (0 + total n kk i (l.drop (j + 1))) = p + total n kk i (l.drop (j + 1)) by grind] at hc
      exact evn c (ownsum_loop hn hn7 hi l hl hg x6 hx6 R e (j + 1) p u (by omega) hp (by omega) hc)
def ownPair (n kk i : Nat) : S65 := ⟨(fr (total n kk i (all n kk n []))).1, (fr (total n kk i (all n kk n []))).2⟩
theorem fr_zero : fr 0 = (0, 1) := rfl
theorem spec_loop {n kk : Nat} (hn : 0 < n) (hn7 : n ≤ 7) : ∀ d i (acc : List S65), i + d = n → acc.length = i →
    Ev (fun k => spec_OwnTable.l0 k (n : Int) (kk : Int) acc (all n kk n []) (i : Int)) (acc ++ (List.range' i d).map (ownPair n kk), true)
  | 0, i, acc, h, ha => by
    apply evshift
    simp only [spec_OwnTable.l0, List.range'_zero, List.map_nil, List.append_nil]
    exact evn (by omega) (evs _)
  | d + 1, i, acc, h, ha => by
    apply evshift
    simp only [spec_OwnTable.l0]
    refine evp (by omega) ?_
    have hg : ∀ s ∈ all n kk n [], Good n kk s := fun s hs => by
      obtain ⟨h1, _, h3, h4⟩ := all_good n [] s (by simp) ⟨by simp, by simp⟩ hs
      exact ⟨h1, h3, fun j hj => h4 j (by simp) hj⟩
    have hl := Nat.le_trans (all_le (k := kk) hn hn7 n []) (pow7 hn7)
    have hs := ownsum_loop hn hn7 (show i < n by omega) (all n kk n []) hl hg acc (by omega) (acc ++ (List.range' i (d + 1)).map (ownPair n kk), true) _ 0 0 0 (by rw [Nat.zero_add]) (by simp) (by omega) ?_
    · rw [fr_zero] at hs
      exact hs
    · rw [List.drop_zero, show (0 : Rat) + total n kk i (all n kk n []) = total n kk i (all n kk n []) by grind]
      have ih := spec_loop (kk := kk) hn hn7 d (i + 1) (acc ++ [ownPair n kk i]) (by omega) (by simp; omega)
      rw [List.range'_succ, List.map_cons]
      rw [List.append_assoc, List.singleton_append] at ih
      exact ih
theorem ev_ownChance {n kk i : Nat} (hn : 0 < n) (hn7 : n ≤ 7) (hk : kk ≤ n) (hi : i < n) : Ev (fun k => impl_ownChance.f k (n : Int) (kk : Int) (i : Int)) ((ownPair n kk i).f0, (ownPair n kk i).f1) := by
  unfold impl_ownChance.f ownPair
  rw [own_chance hk hi]
  by_cases c : i < kk
  · rw [if_pos c, fr_inv hn]
    exact evp (by omega) (evs _)
  · rw [if_neg c]
    refine evn (by omega) ?_
    rw [w64 (x := (n : Int) - (i : Int)) (by omega) (by omega), w64 (by omega) (by omega), show (n : Int) - (i : Int) = ((n - i : Nat) : Int) by omega, show ((n - i : Nat) : Int) + (kk : Int) = ((n - i + kk : Nat) : Int) by omega]
    have h := ev_fraction (n - i) (n - i + kk) (by omega) (by omega) (by omega)
    have e : ((n - i : Nat) : Rat) * inv (n - i + kk) = ((n - i : Nat) : Rat) / ((n - i + kk : Nat) : Rat) := by
      unfold inv
      have := natCast_ne (m := n - i + kk) (by omega)
      grind
    rw [e]
    exact evb h (evs _)
theorem impl_loop {n kk : Nat} (hn : 0 < n) (hn7 : n ≤ 7) (hk : kk ≤ n) : ∀ d i (acc : List S65), i + d = n → acc.length = i →
    Ev (fun k => impl_OwnTable.l0 k (n : Int) (kk : Int) acc (n : Int) (i : Int)) (acc ++ (List.range' i d).map (ownPair n kk), true)
  | 0, i, acc, h, ha => by
    apply evshift
    simp only [impl_OwnTable.l0, List.range'_zero, List.map_nil, List.append_nil]
    exact evn (by omega) (evs _)
  | d + 1, i, acc, h, ha => by
    apply evshift
    simp only [impl_OwnTable.l0]
    rw [wnext i (by omega)]
    refine evp (by omega) (evb (ev_ownChance hn hn7 hk (by omega)) (evp (by omega) ?_))
    have ih := impl_loop hn hn7 hk d (i + 1) (acc ++ [ownPair n kk i]) (by omega) (by simp; omega)
    rw [List.range'_succ, List.map_cons]
    rw [List.append_assoc, List.singleton_append] at ih
    exact ih
theorem bothOwnTable (a0 a1 : Int) : ∃ R ok, Ev (fun k => spec_OwnTable.f k a0 a1) (R, ok) ∧ Ev (fun k => impl_OwnTable.f k a0 a1) (R, ok) ∧ R.length ≤ 1048576 := by
  obtain ⟨g1, g2⟩ := good_at a0 a1
  unfold spec_OwnTable.f impl_OwnTable.f
  simp only [Option.bind_some]
  by_cases h : (1 ≤ a0 ∧ a0 ≤ 12) ∧ (0 ≤ a1 ∧ a1 ≤ a0)
  · rw [decide_eq_true h] at g1 g2
    by_cases h7 : a0 > 7
    · refine ⟨[], false, evc g1 (evp rfl ?_), evc g2 (evp rfl ?_), by simp⟩
      · apply evshift
        simp only [spec_OwnTable.j0]
        exact evp (by simpa using h7) (evs _)
      · apply evshift
        simp only [impl_OwnTable.j0]
        exact evp (by simpa using h7) (evs _)
    · obtain ⟨n, rfl⟩ : ∃ n : Nat, a0 = n := ⟨a0.toNat, by omega⟩
      obtain ⟨kk, rfl⟩ : ∃ n : Nat, a1 = n := ⟨a1.toNat, by omega⟩
      have hn : 0 < n := by omega
      have hn7 : n ≤ 7 := by omega
      refine ⟨(List.range' 0 n).map (ownPair n kk), true, evc g1 (evp rfl ?_), evc g2 (evp rfl ?_), by simp; omega⟩
      · apply evshift
        simp only [spec_OwnTable.j0]
        refine evn (by simpa using h7) (evb (ev_all hn hn7 n [] (by simp)) ?_)
        have := spec_loop (kk := kk) hn hn7 n 0 [] (by omega) rfl
        simpa using this
      · apply evshift
        simp only [impl_OwnTable.j0]
        refine evn (by simpa using h7) ?_
        have := impl_loop (kk := kk) hn hn7 (by omega) n 0 [] (by omega) rfl
        simpa using this
  · rw [decide_eq_false h] at g1 g2
    refine ⟨[], false, evc g1 (evn (by simp) ?_), evc g2 (evn (by simp) ?_), by simp⟩
    · apply evshift
      simp only [spec_OwnTable.j0]
      exact evp (by simp) (evs _)
    · apply evshift
      simp only [impl_OwnTable.j0]
      exact evp (by simp) (evs _)
theorem FnExactOwnTable : laws_FnExactOwnTable.Pure := by
  intro n kk _ _
  refine Ev.rounds (g := fun k => laws_FnExactOwnTable.f k n kk) ?_
  unfold laws_FnExactOwnTable.f
  obtain ⟨R, ok, hS, hI, hR⟩ := bothOwnTable n kk
  repeat (first
    | exact evs true
    | (with_reducible refine evb hS ?_)
    | (with_reducible refine evb hI ?_)
    | (with_reducible refine evb (ev_eqIntA2 _ _) ?_)
    | (with_reducible refine evb (ev_eqIntA2S _ (by assumption)) ?_)
    | (with_reducible refine evb (ev_markIntA2S _ _ (by assumption) (by omega) (by omega)) ?_)
    | (with_reducible refine evb (ev_heldIntA2S _ _ (by assumption) (by omega) (by omega)) ?_)
    | (with_reducible show Ev (fun k => laws_FnExactOwnTable.j0 k _ _ _ _ _ _) _; apply evshift; simp only [laws_FnExactOwnTable.j0])
    | (with_reducible show Ev (fun k => laws_FnExactOwnTable.j1 k _ _ _) _; apply evshift; simp only [laws_FnExactOwnTable.j1])
    | (refine evp ?hc ?_; (case hc => first | omega | (simp; done)))
    | (refine evn ?hc ?_; (case hc => first | omega | (simp; done)))
    | dsimp only)

end Go.Proofs.Ytdbdmdegnmoblaa.Pure
