/- The law laws.FnExactShiftToPark, told as plain Lean functions of numbers, lists and strings, answers true for every input, if enough rounds are given: the program's ShiftToPark answers what the reference's answers. Conditions: none but the kinds' own (each number one of its kind, each length one that the model reads). -/
import Derived.Test.YtdbdmdegnmoblaaPFnExactShiftToParkx3
import Derived.Test.YtdbdmdegnmoblaaBase
namespace Go.Proofs.Ytdbdmdegnmoblaa.Pure
open Go.RowKit Go.Proofs.Ytdbdmdegnmoblaa.PFnExactShiftToPark Go.Proofs.YtdbdmdegnmoblaaW.PrintWords Go.Proofs.YtdbdmdegnmoblaaW.PrintLast Go.Proofs.YtdbdmdegnmoblaaW.PrintMore Go.Proofs.Ytdbdmdegnmoblaa.Base

/-- The values of F at 0, 1, .., n - 1. -/
def listF (F : Int → Int) (n : Nat) : List Int := (List.range n).map fun i => F ((i : Nat) : Int)
theorem listF_len (F : Int → Int) (n : Nat) : (listF F n).length = n := by simp [listF]
theorem listF_succ (F : Int → Int) (n : Nat) : listF F (n + 1) = listF F n ++ [F (n : Int)] := by simp [listF, List.range_succ]
theorem in_spec (a lo hi : Int) : spec_l1In.f a lo hi = some (decide (lo ≤ a ∧ a ≤ hi)) := by
  unfold spec_l1In.f
  split
  · congr 1; simp; omega
  · congr 1; simp; omega
theorem l1Has_loop (l : List Int) (x : Int) (hl : l.length ≤ 1048576) : ∀ d j, j + d = l.length → Ev (fun k => spec_l1Has.l0 k l x (j : Int)) (decide (x ∈ l.drop j))
  | 0, j, h => by
    apply evshift
    simp only [spec_l1Has.l0]
    refine evn (by omega) ?_
    rw [List.drop_eq_nil_of_le (by omega)]
    simpa using evs false
  | d + 1, j, h => by
    have ih := l1Has_loop l x hl d (j + 1) (by omega)
    apply evshift
    simp only [spec_l1Has.l0]
    refine evp (by omega) (evp (by omega) ?_)
    rw [drop_cons (by omega : j < l.length)]
    by_cases h1 : rd l (j : Int) = x
    · refine evp h1 ?_
      simpa [h1] using evs true
    · refine evn h1 ?_
      have h2 : ¬ x = rd l (j : Int) := fun h => h1 h.symm
      rw [wnext j (by omega)]
      simpa [h2] using ih
theorem ev_l1Has (l : List Int) (x : Int) (hl : l.length ≤ 1048576) : Ev (fun k => spec_l1Has.f k l x) (decide (x ∈ l)) := by
  unfold spec_l1Has.f
  have h := l1Has_loop l x hl l.length 0 (by omega)
  simpa using h
theorem toIntS_loop (l : List Int) (hl : l.length ≤ 1048576) : ∀ d j, j + d = l.length → Ev (fun k => laws_toIntS.l0 k l (l.take j ++ List.replicate (l.length - j) 0) (j : Int)) l
  | 0, j, h => by
    apply evshift
    simp only [laws_toIntS.l0]
    refine evn (by omega) ?_
    have e : l.take j ++ List.replicate (l.length - j) 0 = l := by rw [show j = l.length by omega]; simp
    rw [e]
    exact evs _
  | d + 1, j, h => by
    have ih := toIntS_loop l hl d (j + 1) (by omega)
    apply evshift
    simp only [laws_toIntS.l0]
    refine evp (by omega) (evp (by omega) (evp (by simp; omega) ?_))
    rw [Int.toNat_natCast, set_copy l j (by omega), wnext j (by omega)]
    exact ih
theorem ev_toIntS (l : List Int) (hl : l.length ≤ 1048576) : Ev (fun k => laws_toIntS.f k l) l := by
  unfold laws_toIntS.f
  refine evp (by omega) (evp (by omega) ?_)
  have h := toIntS_loop l hl l.length 0 (by omega)
  simpa using h
theorem in_impl (a lo hi : Int) : impl_within.f a lo hi = some (decide (lo ≤ a ∧ a ≤ hi)) := by
  unfold impl_within.f
  split
  · congr 1; simp; omega
  · congr 1; simp; omega
theorem allWithin_loop (l : List Int) (lo hi : Int) (hl : l.length ≤ 1048576) : ∀ d j, j + d = l.length → Ev (fun k => impl_allWithin.l0 k lo hi l (l.length : Int) (j : Int)) ((l.drop j).all fun x => decide (lo ≤ x ∧ x ≤ hi))
  | 0, j, h => by
    apply evshift
    simp only [impl_allWithin.l0]
    refine evn (by omega) ?_
    rw [List.drop_eq_nil_of_le (by omega)]
    exact evs _
  | d + 1, j, h => by
    have ih := allWithin_loop l lo hi hl d (j + 1) (by omega)
    apply evshift
    simp only [impl_allWithin.l0, in_impl, Option.bind_some]
    refine evp (by omega) (evp (by omega) (evp (by omega) ?_))
    rw [drop_cons (by omega : j < l.length), List.all_cons]
    by_cases h1 : lo ≤ rd l (j : Int) ∧ rd l (j : Int) ≤ hi
    · refine evp (by simpa using h1) ?_
      rw [wnext j (by omega)]
      simpa [h1] using ih
    · refine evn (by simpa using h1) ?_
      simpa [h1] using evs false
theorem ev_allWithin (l : List Int) (lo hi : Int) (hl : l.length ≤ 1048576) : Ev (fun k => impl_allWithin.f k l lo hi) (l.all fun x => decide (lo ≤ x ∧ x ≤ hi)) := by
  unfold impl_allWithin.f
  have h := allWithin_loop l lo hi hl l.length 0 (by omega)
  simpa using h
theorem eqIntS_loop (l : List Int) (hl : l.length ≤ 1048576) : ∀ d j, j + d = l.length → Ev (fun k => laws_eqIntS.l0 k l l (j : Int)) true
  | 0, j, h => by
    apply evshift
    simp only [laws_eqIntS.l0]
    exact evn (by omega) (evs _)
  | d + 1, j, h => by
    have ih := eqIntS_loop l hl d (j + 1) (by omega)
    apply evshift
    simp only [laws_eqIntS.l0]
    refine evp (by omega) (evp (by omega) (evp (by omega) (evp (by trivial) ?_)))
    rw [wnext j (by omega)]
    exact ih
theorem ev_eqIntS (l : List Int) (hl : l.length ≤ 1048576) : Ev (fun k => laws_eqIntS.f k l l) true := by
  unfold laws_eqIntS.f
  exact evp (by trivial) (eqIntS_loop l hl l.length 0 (by omega))
def VF (n s x : Int) : Int := Int.tmod (x + s) (n + 1)
theorem VF_bd {n s x : Int} (h : 0 ≤ n) (hs : 0 ≤ s) (hx : 0 ≤ x) : 0 ≤ VF n s x ∧ VF n s x ≤ n := by
  unfold VF
  have h1 := Int.tmod_nonneg (n + 1) (show 0 ≤ x + s by omega)
  have h2 := Int.tmod_lt_of_pos (x + s) (show 0 < n + 1 by omega)
  omega
def cntG (vs : List Int) (q : Int) : Nat := vs.countP fun v => decide (v ≥ q)
def cntE (vs : List Int) (q : Int) : Nat := vs.countP fun v => decide (v = q)
theorem cntG_cons (v : Int) (vs : List Int) (q : Int) : cntG (v :: vs) q = cntG vs q + if v ≥ q then 1 else 0 := by
  unfold cntG
  rw [List.countP_cons]
  by_cases h : v ≥ q <;> simp [h]
theorem cntE_cons (v : Int) (vs : List Int) (q : Int) : cntE (v :: vs) q = cntE vs q + if v = q then 1 else 0 := by
  unfold cntE
  rw [List.countP_cons]
  by_cases h : v = q <;> simp [h]
theorem cntG_step (vs : List Int) (q : Int) : cntG vs q = cntE vs q + cntG vs (q + 1) := by
  induction vs with
  | nil => rfl
  | cons v vs ih =>
    rw [cntG_cons, cntE_cons, cntG_cons, ih]
    split <;> split <;> split <;> omega
theorem cntG_none {vs : List Int} {q : Int} (h : ∀ v ∈ vs, v < q) : cntG vs q = 0 := by
  unfold cntG
  rw [List.countP_eq_zero]
  intro v hv
  have := h v hv
  simp; omega
theorem cntG_le (vs : List Int) (q : Int) : cntG vs q ≤ vs.length := List.countP_le_length
theorem cntE_le (vs : List Int) (q : Int) : cntE vs q ≤ vs.length := List.countP_le_length
theorem cntG_top {vs : List Int} {n : Int} (h : ∀ v ∈ vs, v ≤ n) : cntG vs n = 0 ↔ ¬ n ∈ vs := by
  unfold cntG
  rw [List.countP_eq_zero]
  constructor
  · intro h1 h2
    have := h1 n h2
    simp at this
  · intro h1 v hv
    have := h v hv
    simp
    rcases Int.lt_or_eq_of_le this with h2 | h2
    · exact h2
    · subst h2; exact absurd hv h1
def okQ (n : Nat) (vs : List Int) (q : Nat) : Bool := decide ((cntG vs (q : Int) : Int) ≤ (n : Int) - (q : Int))
theorem l6_inner (n q : Nat) (vs : List Int) (hl : vs.length ≤ 1048576) (hn : n ≤ 1048576) (hq : q < n) (r : Bool) (hr : if okQ n vs q = true then Ev (fun k => spec_l6List.l0 k (n : Int) vs ((q + 1 : Nat) : Int)) r else r = false) : ∀ d j c, j + d = vs.length → c + cntG (vs.drop j) (q : Int) = cntG vs (q : Int) → Ev (fun k => spec_l6List.l1 k (n : Int) vs (q : Int) (c : Int) (j : Int)) r
  | 0, j, c, h, hc => by
    rw [List.drop_eq_nil_of_le (by omega)] at hc
    have hc' : c = cntG vs (q : Int) := by simpa [cntG] using hc
    subst hc'
    apply evshift
    simp only [spec_l6List.l1]
    rw [w64 (x := (n : Int) - (q : Int)) (by omega) (by omega)]
    refine evn (by omega) ?_
    unfold okQ at hr
    by_cases c1 : (cntG vs (q : Int) : Int) ≤ (n : Int) - (q : Int)
    · rw [if_pos (by simpa using c1)] at hr
      rw [wnext q (by omega)]
      exact evn (by omega) hr
    · rw [if_neg (by simpa using c1)] at hr
      subst hr
      exact evp (by omega) (evs _)
  | d + 1, j, c, h, hc => by
    have hle := cntG_le vs (q : Int)
    rw [drop_cons (by omega : j < vs.length), cntG_cons] at hc
    apply evshift
    simp only [spec_l6List.l1]
    refine evp (by omega) (evp (by omega) ?_)
    rw [wnext j (by omega)]
    by_cases c1 : rd vs (j : Int) ≥ (q : Int)
    · rw [if_pos c1] at hc
      refine evp c1 ?_
      rw [wnext c (by omega)]
      exact l6_inner n q vs hl hn hq r hr d (j + 1) (c + 1) (by omega) (by omega)
    · rw [if_neg c1] at hc
      exact evn c1 (l6_inner n q vs hl hn hq r hr d (j + 1) c (by omega) (by omega))
theorem l6_list (n : Nat) (vs : List Int) (hl : vs.length ≤ 1048576) (hn : n ≤ 1048576) : ∀ d q, q + d = n → ∃ b : Bool, Ev (fun k => spec_l6List.l0 k (n : Int) vs (q : Int)) b ∧ (b = true ↔ (∀ q', q ≤ q' → q' < n → okQ n vs q' = true) ∧ ¬ (n : Int) ∈ vs)
  | 0, q, h => by
    refine ⟨!decide ((n : Int) ∈ vs), ?_, ?_⟩
    · apply evshift
      simp only [spec_l6List.l0]
      exact evn (by omega) (evb (ev_l1Has vs _ hl) (evs _))
    · simp only [Bool.not_eq_true', decide_eq_false_iff_not]
      constructor
      · exact fun h1 => ⟨fun q' h2 h3 => by omega, h1⟩
      · exact fun h1 => h1.2
  | d + 1, q, h => by
    obtain ⟨b, h1, h2⟩ := l6_list n vs hl hn d (q + 1) (by omega)
    cases hq : okQ n vs q with
    | true =>
      refine ⟨b, ?_, ?_⟩
      · apply evshift
        simp only [spec_l6List.l0]
        refine evp (by omega) (l6_inner n q vs hl hn (by omega) b ?_ vs.length 0 0 (by omega) (by simp))
        rw [if_pos hq]; exact h1
      · rw [h2]
        constructor
        · rintro ⟨h3, h4⟩
          refine ⟨fun q' h5 h6 => ?_, h4⟩
          by_cases e : q' = q
          · subst e; exact hq
          · exact h3 q' (by omega) h6
        · rintro ⟨h3, h4⟩
          exact ⟨fun q' h5 h6 => h3 q' (by omega) h6, h4⟩
    | false =>
      refine ⟨false, ?_, ?_⟩
      · apply evshift
        simp only [spec_l6List.l0]
        refine evp (by omega) (l6_inner n q vs hl hn (by omega) false ?_ vs.length 0 0 (by omega) (by simp))
        rw [if_neg (by simp [hq])]
      · constructor
        · intro h3; simp at h3
        · rintro ⟨h3, _⟩
          have := h3 q (by omega) (by omega)
          rw [hq] at this
          simp at this
theorem spec_build (n s : Nat) (xs : List Int) (hn : n ≤ 12) (hs : s ≤ n) (hx : ∀ x ∈ xs, 0 ≤ x ∧ x ≤ (n : Int)) (hl : xs.length = n) (r : Int × Bool) (b : Bool) (hb : Ev (fun k => spec_l6List.f k (n : Int) (xs.map (VF n s))) b)
    (hr : if b = true then r = ((s : Int), true) else Ev (fun k => spec_ShiftToPark.l1 k (n : Int) xs ((s + 1 : Nat) : Int)) r) : ∀ d j, j + d = n → Ev (fun k => spec_ShiftToPark.l2 k (n : Int) xs (s : Int) ((xs.take j).map (VF n s)) (j : Int)) r
  | 0, j, h => by
    rw [List.take_of_length_le (by omega)]
    apply evshift
    simp only [spec_ShiftToPark.l2]
    refine evn (by omega) (evb hb ?_)
    cases b with
    | true => rw [if_pos rfl] at hr; exact evp rfl (hr ▸ evs _)
    | false =>
      rw [if_neg (by simp)] at hr
      rw [wnext s (by omega)]
      exact evn (by simp) hr
  | d + 1, j, h => by
    have hj : j < xs.length := by omega
    have ih := spec_build n s xs hn hs hx hl r b hb hr d (j + 1) (by omega)
    have hb' := hx _ (rd_mem hj)
    rw [List.take_succ_eq_append_getElem hj, List.map_append, ← rd_lt hj] at ih
    have hlen : ((xs.take j).map (VF n s)).length = j := by simp; omega
    apply evshift
    simp only [spec_ShiftToPark.l2]
    rw [w64 (x := (n : Int) + 1) (by omega) (by omega), w64 (x := rd xs (j : Int) + (s : Int)) (by omega) (by omega), wnext j (by omega)]
    exact evp (by omega) (evp (by omega) (evp (by omega) (evn (by omega) (evp (by omega) ih))))
theorem listF_set (F : Int → Int) (m p : Nat) (y : Int) : (listF F m).set p y = listF (fun i => if i = (p : Int) then y else F i) m := by
  apply List.ext_getElem
  · simp [listF]
  · intro i h1 h2
    simp only [listF, List.getElem_set, List.getElem_map, List.getElem_range]
    by_cases e : p = i
    · subst e; simp
    · rw [if_neg e, if_neg (by omega)]
theorem listF_congr {F G : Int → Int} {m : Nat} (h : ∀ i : Nat, i < m → F (i : Int) = G (i : Int)) : listF F m = listF G m := by
  unfold listF
  exact List.map_congr_left fun i hi => h i (List.mem_range.1 hi)
theorem rdF {F : Int → Int} {m j : Nat} (h : j < m) : rd (listF F m) (j : Int) = F (j : Int) := by
  rw [rd_lt (by rw [listF_len]; exact h)]; simp [listF]
theorem impl_sums (n s : Nat) (xs vs : List Int) (hn : n ≤ 12) (hs : s ≤ n) (hl : vs.length = n) (r : Int × Bool) (b : Bool) (hb : b = true ↔ ∀ q', q' ≤ n → okQ n vs q' = true)
    (hr : if b = true then r = ((s : Int), true) else Ev (fun k => impl_ShiftToPark.l0 k (n : Int) xs ((n + 1 : Nat) : Int) ((s + 1 : Nat) : Int)) r) : ∀ d (fl : Bool), d ≤ n + 1 → (fl = true ↔ ∀ q', d ≤ q' → q' ≤ n → okQ n vs q' = true) →
    Ev (fun k => impl_ShiftToPark.l2 k (n : Int) xs (s : Int) (listF (fun v => (cntE vs v : Int)) (n + 1)) (cntG vs (d : Int) : Int) fl ((d : Int) - 1) ((n + 1 : Nat) : Int) (s : Int)) r
  | 0, fl, _, hf => by
    have e : fl = b := by
      rw [Bool.eq_iff_iff, hf, hb]
      constructor
      · exact fun h q' h1 => h q' (by omega) h1
      · exact fun h q' _ h1 => h q' h1
    subst e
    apply evshift
    simp only [impl_ShiftToPark.l2]
    refine evn (by omega) ?_
    cases fl with
    | true => rw [if_pos rfl] at hr; exact evp rfl (hr ▸ evs _)
    | false =>
      rw [if_neg (by simp)] at hr
      rw [wnext s (by omega)]
      exact evn (by simp) hr
  | d + 1, fl, hd, hf => by
    have hg := cntG_step vs (d : Int)
    have h1 := cntG_le vs (d : Int)
    have e1 : ((d + 1 : Nat) : Int) - 1 = (d : Int) := by omega
    have e2 : ((d + 1 : Nat) : Int) = (d : Int) + 1 := by omega
    have e3 : wrap64 ((d : Int) - 1) = (d : Int) - 1 := w64 (by omega) (by omega)
    have hsum : wrap64 ((cntG vs ((d + 1 : Nat) : Int) : Int) + rd (listF (fun v => (cntE vs v : Int)) (n + 1)) (d : Int)) = (cntG vs (d : Int) : Int) := by
      rw [rdF (by omega), e2, w64 (by omega) (by omega)]
      omega
    apply evshift
    simp only [impl_ShiftToPark.l2]
    rw [e1, hsum, e3]
    refine evp (by omega) (evp (by omega) (evp (by rw [listF_len]; omega) ?_))
    cases fl with
    | true =>
      refine evp rfl ?_
      rw [w64 (by omega) (by omega)]
      refine impl_sums n s xs vs hn hs hl r b hb hr d _ (by omega) ?_
      have hf' := hf.1 rfl
      show okQ n vs d = true ↔ _
      constructor
      · intro h q' h2 h3
        by_cases e : q' = d
        · subst e; exact h
        · exact hf' q' (by omega) h3
      · exact fun h => h d (Nat.le_refl _) (by omega)
    | false =>
      refine evn (by simp) (impl_sums n s xs vs hn hs hl r b hb hr d false (by omega) ?_)
      constructor
      · intro h; simp at h
      · intro h
        exact hf.2 fun q' h2 h3 => h q' (by omega) h3
theorem impl_build (n s : Nat) (xs : List Int) (hn : n ≤ 12) (hs : s ≤ n) (hx : ∀ x ∈ xs, 0 ≤ x ∧ x ≤ (n : Int)) (hl : xs.length = n) (r : Int × Bool)
    (hr : Ev (fun k => impl_ShiftToPark.l2 k (n : Int) xs (s : Int) (listF (fun v => (cntE (xs.map (VF n s)) v : Int)) (n + 1)) 0 true (n : Int) ((n + 1 : Nat) : Int) (s : Int)) r) : ∀ d j, j + d = n →
    Ev (fun k => impl_ShiftToPark.l1 k (n : Int) xs (s : Int) (listF (fun v => (cntE ((xs.take j).map (VF n s)) v : Int)) (n + 1)) 0 true ((n + 1 : Nat) : Int) (s : Int) xs (xs.length : Int) (j : Int)) r
  | 0, j, h => by
    rw [List.take_of_length_le (by omega)]
    apply evshift
    simp only [impl_ShiftToPark.l1]
    exact evn (by omega) hr
  | d + 1, j, h => by
    have hj : j < xs.length := by omega
    have ih := impl_build n s xs hn hs hx hl r hr d (j + 1) (by omega)
    have hb' := hx _ (rd_mem hj)
    have hv := VF_bd (n := (n : Int)) (s := (s : Int)) (x := rd xs (j : Int)) (by omega) (by omega) hb'.1
    obtain ⟨p, hp⟩ : ∃ p : Nat, VF n s (rd xs (j : Int)) = (p : Int) := ⟨(VF n s (rd xs (j : Int))).toNat, by omega⟩
    have hp' : Int.tmod (rd xs (j : Int) + (s : Int)) ((n : Int) + 1) = (p : Int) := hp
    have hle := cntE_le ((xs.take j).map (VF n s)) (p : Int)
    have hlen : ((xs.take j).map (VF n s)).length = j := by simp; omega
    have hset : (listF (fun v => (cntE ((xs.take j).map (VF n s)) v : Int)) (n + 1)).set p (wrap64 (rd (listF (fun v => (cntE ((xs.take j).map (VF n s)) v : Int)) (n + 1)) (p : Int) + 1)) = listF (fun v => (cntE ((xs.take (j + 1)).map (VF n s)) v : Int)) (n + 1) := by
      rw [rdF (by omega), w64 (by omega) (by omega), listF_set]
      refine listF_congr fun i _ => ?_
      rw [List.take_succ_eq_append_getElem hj, List.map_append, ← rd_lt hj]
      show _ = ((List.countP _ _ : Nat) : Int)
      rw [List.countP_append]
      simp only [List.map_cons, List.map_nil, hp]
      by_cases e : i = p
      · subst e; simp [cntE]
      · have e2 : ¬ (p : Int) = (i : Int) := by omega
        have e3 : ¬ (i : Int) = (p : Int) := by omega
        simp [cntE, e2, e3]
    apply evshift
    simp only [impl_ShiftToPark.l1]
    rw [w64 (x := (n : Int) + 1) (by omega) (by omega), w64 (x := rd xs (j : Int) + (s : Int)) (by omega) (by omega), wnext j (by omega), hp', Int.toNat_natCast, hset]
    exact evp (by omega) (evp (by omega) (evp (by omega) (evn (by omega) (evp (by omega) (evp (by rw [listF_len]; omega) ih)))))
theorem shift_loop (n : Nat) (xs : List Int) (hn1 : 1 ≤ n) (hn : n ≤ 12) (hx : ∀ x ∈ xs, 0 ≤ x ∧ x ≤ (n : Int)) (hl : xs.length = n) : ∀ d s, s + d = n + 1 → ∃ r, Ev (fun k => spec_ShiftToPark.l1 k (n : Int) xs (s : Int)) r ∧ Ev (fun k => impl_ShiftToPark.l0 k (n : Int) xs ((n + 1 : Nat) : Int) (s : Int)) r
  | 0, s, h => by
    refine ⟨(0, false), ?_, ?_⟩
    · apply evshift
      simp only [spec_ShiftToPark.l1]
      exact evn (by omega) (evs _)
    · apply evshift
      simp only [impl_ShiftToPark.l0]
      exact evn (by omega) (evs _)
  | d + 1, s, h => by
    obtain ⟨r', h1, h2⟩ := shift_loop n xs hn1 hn hx hl d (s + 1) (by omega)
    have hvl : (xs.map (VF n s)).length = n := by simp [hl]
    obtain ⟨b, hb, hbi⟩ := l6_list n (xs.map (VF n s)) (by omega) (by omega) n 0 (by omega)
    have hv : ∀ v ∈ xs.map (VF n s), v ≤ (n : Int) := fun v hv => by
      obtain ⟨x, hx1, rfl⟩ := List.mem_map.1 hv
      exact (VF_bd (by omega) (by omega) (hx x hx1).1).2
    have hbi2 : b = true ↔ ∀ q', q' ≤ n → okQ n (xs.map (VF n s)) q' = true := by
      have ht : okQ n (xs.map (VF n s)) n = true ↔ ¬ (n : Int) ∈ xs.map (VF n s) := by
        rw [← cntG_top hv]
        unfold okQ
        rw [decide_eq_true_eq]
        omega
      rw [hbi, ← ht]
      constructor
      · rintro ⟨h3, h4⟩ q' h5
        by_cases e : q' = n
        · rw [e]; exact h4
        · exact h3 q' (by omega) (by omega)
      · exact fun h3 => ⟨fun q' _ h5 => h3 q' (by omega), h3 n (Nat.le_refl _)⟩
    refine ⟨if b = true then ((s : Int), true) else r', ?_, ?_⟩
    · apply evshift
      simp only [spec_ShiftToPark.l1]
      refine evp (by omega) (spec_build n s xs hn (by omega) hx hl _ b (by unfold spec_l6List.f; exact hb) ?_ n 0 (by omega))
      cases b with
      | true => rfl
      | false => exact h1
    · apply evshift
      simp only [impl_ShiftToPark.l0]
      rw [w64 (x := (n : Int) + 1) (by omega) (by omega)]
      refine evp (by omega) (evp (by omega) (evp (by omega) ?_))
      have e0 : List.replicate ((n : Int) + 1).toNat (0 : Int) = listF (fun v => (cntE ((xs.take 0).map (VF n s)) v : Int)) (n + 1) := by
        rw [show ((n : Int) + 1).toNat = n + 1 by omega]
        apply List.ext_getElem
        · simp [listF]
        · intro i h3 h4
          simp [listF, cntE]
      rw [e0]
      refine impl_build n s xs hn (by omega) hx hl _ ?_ n 0 (by omega)
      have hz : cntG (xs.map (VF n s)) ((n + 1 : Nat) : Int) = 0 := cntG_none fun v h3 => by have := hv v h3; omega
      have h5 := impl_sums n s xs (xs.map (VF n s)) hn (by omega) hvl (if b = true then ((s : Int), true) else r') b hbi2 (by
        cases b with
        | true => rfl
        | false => exact h2) (n + 1) true (Nat.le_refl _) (by
        constructor
        · intro _ q' h6 h7; omega
        · intro _; rfl)
      rw [hz, show ((n + 1 : Nat) : Int) - 1 = (n : Int) by omega] at h5
      exact h5
theorem spec_all (n : Nat) (xs : List Int) (hn : n ≤ 12) (hl : xs.length = n) (r : Int × Bool) (hr : if (xs.all fun x => decide (0 ≤ x ∧ x ≤ (n : Int))) = true then Ev (fun k => spec_ShiftToPark.l1 k (n : Int) xs 0) r else r = (0, false)) : ∀ d j, j + d = n → (∀ x ∈ xs.take j, 0 ≤ x ∧ x ≤ (n : Int)) → Ev (fun k => spec_ShiftToPark.l0 k (n : Int) xs (j : Int)) r
  | 0, j, h, hp => by
    rw [List.take_of_length_le (by omega)] at hp
    rw [if_pos (List.all_eq_true.2 fun x hx => decide_eq_true (hp x hx))] at hr
    apply evshift
    simp only [spec_ShiftToPark.l0]
    exact evn (by omega) hr
  | d + 1, j, h, hp => by
    have hj : j < xs.length := by omega
    apply evshift
    simp only [spec_ShiftToPark.l0]
    refine evp (by omega) (evp (by omega) (evp (by omega) (evc (in_spec _ _ _) ?_)))
    by_cases c : 0 ≤ rd xs (j : Int) ∧ rd xs (j : Int) ≤ (n : Int)
    · refine evp (by simpa using c) ?_
      rw [wnext j (by omega)]
      refine spec_all n xs hn hl r hr d (j + 1) (by omega) fun x hx => ?_
      rw [List.take_succ_eq_append_getElem hj, List.mem_append, List.mem_singleton] at hx
      rcases hx with hx | rfl
      · exact hp x hx
      · rw [rd_lt hj] at c; exact c
    · refine evn (by simpa using c) ?_
      rw [if_neg fun h1 => c (by simpa using List.all_eq_true.1 h1 _ (rd_mem hj))] at hr
      exact hr ▸ evs _
theorem shiftNo (a : Int) (xs : List Int) : Ev (fun k => spec_ShiftToPark.j0 k a xs true) (0, false) ∧ Ev (fun k => impl_ShiftToPark.j0 k a xs true) (0, false) := by
  constructor
  · apply evshift; simp only [spec_ShiftToPark.j0]; exact evp (by simp) (evs _)
  · apply evshift; simp only [impl_ShiftToPark.j0]; exact evp (by simp) (evs _)
theorem bothShiftToPark (a : Int) (xs : List Int) (hx : xs.length ≤ 1048576) : ∃ r, Ev (fun k => spec_ShiftToPark.f k a xs) r ∧ Ev (fun k => impl_ShiftToPark.f k a xs) r := by
  have no := shiftNo a xs
  have hi : impl_isCars.f a = some (decide (1 ≤ a ∧ a ≤ 12)) := by
    unfold impl_isCars.f
    rw [in_impl]; rfl
  unfold spec_ShiftToPark.f impl_ShiftToPark.f
  by_cases h1 : 1 ≤ a ∧ a ≤ 12
  · obtain ⟨n, rfl⟩ : ∃ n : Nat, a = n := ⟨a.toNat, by omega⟩
    by_cases h2 : xs.length = n
    · have hw := ev_allWithin xs 0 (n : Int) hx
      have e1 : ((xs.length : Int) != (n : Int)) = false := by rw [bne_eq_false_iff_eq]; omega
      by_cases h3 : (xs.all fun x => decide (0 ≤ x ∧ x ≤ (n : Int))) = true
      · obtain ⟨r, g1, g2⟩ := shift_loop n xs (by omega) (by omega) (fun x hx' => by simpa using List.all_eq_true.1 h3 x hx') h2 (n + 1) 0 (by omega)
        refine ⟨r, evc (in_spec _ _ _) (evp (by simpa using h1) ?_), evc hi (evp (by simpa using h1) (evp (by omega) (evb hw ?_)))⟩
        · rw [e1]
          apply evshift
          simp only [spec_ShiftToPark.j0]
          refine evn (by simp) (spec_all n xs (by omega) h2 r ?_ n 0 (by omega) (by simp))
          rw [if_pos h3]; exact g1
        · rw [h3]
          apply evshift
          simp only [impl_ShiftToPark.j0]
          rw [wnext n (by omega)]
          exact evn (by simp) g2
      · refine ⟨(0, false), evc (in_spec _ _ _) (evp (by simpa using h1) ?_), evc hi (evp (by simpa using h1) (evp (by omega) (evb hw ?_)))⟩
        · rw [e1]
          apply evshift
          simp only [spec_ShiftToPark.j0]
          refine evn (by simp) (spec_all n xs (by omega) h2 (0, false) ?_ n 0 (by omega) (by simp))
          rw [if_neg h3]
        · rw [Bool.eq_false_iff.2 h3]
          exact no.2
    · have e1 : ((xs.length : Int) != (n : Int)) = true := by rw [bne_iff_ne]; omega
      refine ⟨(0, false), evc (in_spec _ _ _) (evp (by simpa using h1) ?_), evc hi (evp (by simpa using h1) (evn (by omega) no.2))⟩
      rw [e1]; exact no.1
  · exact ⟨(0, false), evc (in_spec _ _ _) (evn (by simpa using h1) no.1), evc hi (evn (by simpa using h1) no.2)⟩
theorem FnExactShiftToPark : laws_FnExactShiftToPark.Pure := by
  intro a xs _ _ _ _
  refine Ev.rounds (g := fun k => laws_FnExactShiftToPark.f k a xs) ?_
  unfold laws_FnExactShiftToPark.f
  by_cases hx : (xs.length : Int) > 1048576
  · exact evp hx (evs _)
  refine evn hx ?_
  have hxl : xs.length ≤ 1048576 := by omega
  obtain ⟨⟨r, ok⟩, hS, hI⟩ := bothShiftToPark a xs hxl
  repeat (first
    | exact evs true
    | (with_reducible refine evb hS ?_)
    | (with_reducible refine evb hI ?_)
    | (with_reducible refine evb (ev_toIntS _ (by assumption)) ?_)
    | (with_reducible refine evb (ev_eqIntS _ (by assumption)) ?_)
    | (with_reducible show Ev (fun k => laws_FnExactShiftToPark.j0 k _ _ _) _; apply evshift; simp only [laws_FnExactShiftToPark.j0])
    | (refine evp ?hc ?_; (case hc => first | omega | (simp; done)))
    | (refine evn ?hc ?_; (case hc => first | omega | (simp; done)))
    | dsimp only)

end Go.Proofs.Ytdbdmdegnmoblaa.Pure
