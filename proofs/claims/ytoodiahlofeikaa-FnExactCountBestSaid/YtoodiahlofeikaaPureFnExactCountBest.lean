/- The law laws.FnExactCountBest, told as plain Lean functions of numbers, lists and strings, answers true for every input, if enough rounds are given: the program's CountBest answers what the reference's answers. Conditions: none but the kinds' own (each number one of its kind, each length one that the model reads). -/
import Derived.Test.YtoodiahlofeikaaPFnExactCountBestx7
import Derived.Test.YtoodiahlofeikaaSFnExactCountBest
namespace Go.Proofs.Ytoodiahlofeikaa.Pure
open Go.RowKit Go.Proofs.Ytoodiahlofeikaa.PFnExactCountBest Go.Proofs.YtoodiahlofeikaaW.PrintWords Go.Proofs.YtoodiahlofeikaaW.PrintLast Go.Proofs.YtoodiahlofeikaaW.PrintMore Go.Proofs.Ytoodiahlofeikaa.Base

theorem in_spec (a lo hi : Int) : spec_l1In.f a lo hi = some (decide (lo ≤ a ∧ a ≤ hi)) := by
  unfold spec_l1In.f
  split
  · congr 1; simp; omega
  · congr 1; simp; omega
theorem l1Has_loop (l : List Int) (x : Int) (hl : l.length ≤ 1048576) : ∀ d j, j + d = l.length → Ev (fun k => spec_l1Has.l0 k l x (j : Int)) (decide (x ∈ l.drop j))
  | 0, j, h => by
    apply evshift
    simp only [spec_l1Has.l0]
    refine evn (by omega) ?_
    rw [List.drop_eq_nil_of_le (by omega)]
    simpa using evs false
  | d + 1, j, h => by
    have ih := l1Has_loop l x hl d (j + 1) (by omega)
    apply evshift
    simp only [spec_l1Has.l0]
    refine evp (by omega) (evp (by omega) ?_)
    rw [drop_cons (by omega : j < l.length)]
    by_cases h1 : rd l (j : Int) = x
    · refine evp h1 ?_
      simpa [h1] using evs true
    · refine evn h1 ?_
      have h2 : ¬ x = rd l (j : Int) := fun h => h1 h.symm
      rw [wnext j (by omega)]
      simpa [h2] using ih
theorem ev_l1Has (l : List Int) (x : Int) (hl : l.length ≤ 1048576) : Ev (fun k => spec_l1Has.f k l x) (decide (x ∈ l)) := by
  unfold spec_l1Has.f
  have h := l1Has_loop l x hl l.length 0 (by omega)
  simpa using h
theorem in_impl (a lo hi : Int) : impl_within.f a lo hi = some (decide (lo ≤ a ∧ a ≤ hi)) := by
  unfold impl_within.f
  split
  · congr 1; simp; omega
  · congr 1; simp; omega
set_option linter.unusedSimpArgs false
set_option linter.unusedVariables false
set_option linter.unnecessarySimpa false
namespace Bd
def upd (f : Int → Int) (r v : Int) : Int → Int := fun x => if x = r then v else f x
theorem upd_at (f : Int → Int) (r v : Int) : upd f r v r = v := by simp [upd]
theorem upd_ne {f : Int → Int} {r v x : Int} (h : x ≠ r) : upd f r v x = f x := by simp [upd, h]
/-- The sum over the rows below m. -/
def S : Nat → (Int → Int) → Int
  | 0, _ => 0
  | m + 1, f => S m f + f (m : Int)
theorem S_congr {f g : Int → Int} : ∀ m : Nat, (∀ i : Int, 0 ≤ i → i < (m : Int) → f i = g i) → S m f = S m g
  | 0, _ => rfl
  | m + 1, h => by
    simp only [S]
    rw [S_congr m fun i h1 h2 => h i h1 (by omega), h (m : Int) (by omega) (by omega)]
theorem S_upd_ge {f : Int → Int} {r v : Int} : ∀ m : Nat, (m : Int) ≤ r → S m (upd f r v) = S m f := fun m h => S_congr m fun i _ h2 => upd_ne (by omega)
theorem S_upd {f : Int → Int} {r v : Int} : ∀ m : Nat, 0 ≤ r → r < (m : Int) → S m (upd f r v) = S m f + (v - f r)
  | 0, h0, h => by omega
  | m + 1, h0, h => by
    simp only [S]
    by_cases c : r = (m : Int)
    · subst c
      rw [S_upd_ge m (by omega), upd_at]
      omega
    · rw [S_upd m h0 (by omega), upd_ne (by omega)]
      omega
theorem S_set {f g : Int → Int} {r : Int} {m : Nat} (h0 : 0 ≤ r) (h : r < (m : Int)) (hg : ∀ i, 0 ≤ i → i < (m : Int) → i ≠ r → g i = f i) : S m g = S m f + (g r - f r) := by
  rw [← S_upd (v := g r) m h0 h]
  refine S_congr m fun i h1 h2 => ?_
  by_cases c : i = r
  · subst c; rw [upd_at]
  · rw [upd_ne c, hg i h1 h2 c]
theorem S_nonneg {f : Int → Int} : ∀ m : Nat, (∀ i : Int, 0 ≤ i → i < (m : Int) → 0 ≤ f i) → 0 ≤ S m f
  | 0, _ => by simp [S]
  | m + 1, h => by
    have h1 := S_nonneg m fun i a b => h i a (by omega)
    have h2 := h (m : Int) (by omega) (by omega)
    simp only [S]
    omega
theorem S_ge {f : Int → Int} {r : Int} : ∀ m : Nat, (∀ i : Int, 0 ≤ i → i < (m : Int) → 0 ≤ f i) → 0 ≤ r → r < (m : Int) → f r ≤ S m f
  | 0, _, h0, h => by omega
  | m + 1, h, h0, hr => by
    simp only [S]
    have h2 := h (m : Int) (by omega) (by omega)
    by_cases c : r = (m : Int)
    · subst c
      have := S_nonneg m fun i a b => h i a (by omega)
      omega
    · have := S_ge m (fun i a b => h i a (by omega)) h0 (by omega)
      omega
theorem S_ex {f : Int → Int} : ∀ m : Nat, 0 < S m f → ∃ i : Int, 0 ≤ i ∧ i < (m : Int) ∧ 0 < f i
  | 0, h => by simp [S] at h
  | m + 1, h => by
    simp only [S] at h
    by_cases c : 0 < f (m : Int)
    · exact ⟨m, by omega, by omega, c⟩
    · obtain ⟨i, h1, h2, h3⟩ := S_ex (f := f) m (by omega)
      exact ⟨i, h1, by omega, h3⟩
theorem S_le {f : Int → Int} : ∀ m : Nat, (∀ i : Int, 0 ≤ i → i < (m : Int) → f i ≤ 11) → S m f ≤ (m : Int) * 11
  | 0, _ => by simp [S]
  | m + 1, h => by
    have h1 := S_le m fun i a b => h i a (by omega)
    have h2 := h (m : Int) (by omega) (by omega)
    simp only [S]
    omega
structure M where
  ai : Int → Int
  at_ : Int → Int
  st : Int → Int
  sat : Int → Int
def act (s t : Int) (m : M) (r : Int) : M :=
  if 0 < m.sat r then m
  else if m.at_ r < 0 then (if m.ai 0 < 0 then ⟨upd m.ai 0 r, upd m.at_ r 0, m.st, m.sat⟩ else m)
  else if m.at_ r = r then (if m.st r + 1 = s then ⟨upd m.ai r (-1), m.at_, upd m.st r (m.st r + 1), upd m.sat r t⟩ else ⟨m.ai, m.at_, upd m.st r (m.st r + 1), m.sat⟩)
  else if m.ai (m.at_ r + 1) < 0 then ⟨upd (upd m.ai (m.at_ r) (-1)) (m.at_ r + 1) r, upd m.at_ r (m.at_ r + 1), m.st, m.sat⟩
  else m
structure Inv (n : Nat) (s t : Int) (m : M) : Prop where
  a : ∀ i, 0 ≤ i → i < (n : Int) → -1 ≤ m.at_ i ∧ m.at_ i ≤ i ∧ 0 ≤ m.sat i ∧ m.sat i ≤ t ∧ 0 ≤ m.st i ∧ (m.sat i = 0 → m.st i < s)
  b : ∀ p, 0 ≤ p → p < (n : Int) → 0 ≤ m.ai p → m.ai p < (n : Int) ∧ m.at_ (m.ai p) = p ∧ m.sat (m.ai p) = 0
def rem (s : Int) (m : M) (i : Int) : Int := if 0 < m.sat i then 0 else (i - m.at_ i) + (s - m.st i)
def un (m : M) (i : Int) : Int := if 0 < m.sat i then 0 else 1
theorem Inv.weak {n : Nat} {s t t' : Int} {m : M} (h : Inv n s t m) (ht : t ≤ t') : Inv n s t' m :=
  ⟨fun i h1 h2 => by obtain ⟨a1, a2, a3, a4, a5, a6⟩ := h.a i h1 h2; exact ⟨a1, a2, a3, by omega, a5, a6⟩, h.b⟩
/-- What one who acts changes. -/
theorem act_all {n : Nat} {s t : Int} {m : M} {r : Int} (h : Inv n s t m) (ht : 1 ≤ t) (h0 : 0 ≤ r) (hr : r < (n : Int)) :
    Inv n s t (act s t m r) ∧ (act s t m r = m ∧ (0 < m.sat r ∨ (m.at_ r < 0 ∧ 0 ≤ m.ai 0) ∨ (0 ≤ m.at_ r ∧ m.at_ r ≠ r ∧ 0 ≤ m.ai (m.at_ r + 1))) ∨ S n (rem s (act s t m r)) < S n (rem s m)) ∧ ∀ i, (act s t m r).sat i = m.sat i ∨ (act s t m r).sat i = t := by
  obtain ⟨a1, a2, a3, a4, a5, a6⟩ := h.a r h0 hr
  unfold act
  by_cases c1 : 0 < m.sat r
  · rw [if_pos c1]; exact ⟨h, .inl ⟨rfl, .inl c1⟩, fun i => .inl rfl⟩
  rw [if_neg c1]
  have hs0 : m.sat r = 0 := by omega
  have hst := a6 hs0
  by_cases c2 : m.at_ r < 0
  · rw [if_pos c2]
    by_cases c3 : m.ai 0 < 0
    · rw [if_pos c3]
      refine ⟨⟨fun i h1 h2 => ?_, fun p h1 h2 hp => ?_⟩, .inr ?_, fun i => .inl rfl⟩
      · obtain ⟨b1, b2, b3, b4, b5, b6⟩ := h.a i h1 h2
        by_cases e : i = r
        · subst e; simp only [upd_at]; exact ⟨by omega, by omega, b3, b4, b5, b6⟩
        · simp only [upd_ne e]; exact ⟨b1, b2, b3, b4, b5, b6⟩
      · by_cases e : p = 0
        · subst e; simp only [upd_at]; exact ⟨hr, by simp only [upd_at], hs0⟩
        · simp only [upd_ne e] at hp ⊢
          obtain ⟨b1, b2, b3⟩ := h.b p h1 h2 hp
          have hne : m.ai p ≠ r := fun e => by rw [e] at b2; omega
          rw [upd_ne hne]
          exact ⟨b1, b2, b3⟩
      · rw [S_set (f := rem s m) h0 hr fun i _ _ hi => by simp only [rem, upd_ne hi]]
        simp only [rem, upd_at, if_neg c1]
        omega
    · rw [if_neg c3]; exact ⟨h, .inl ⟨rfl, .inr (.inl ⟨c2, by omega⟩)⟩, fun i => .inl rfl⟩
  rw [if_neg c2]
  by_cases c3 : m.at_ r = r
  · rw [if_pos c3]
    by_cases c4 : m.st r + 1 = s
    · rw [if_pos c4]
      refine ⟨⟨fun i h1 h2 => ?_, fun p h1 h2 hp => ?_⟩, .inr ?_, fun i => ?_⟩
      · obtain ⟨b1, b2, b3, b4, b5, b6⟩ := h.a i h1 h2
        by_cases e : i = r
        · subst e; simp only [upd_at]; exact ⟨by omega, by omega, by omega, by omega, by omega, by omega⟩
        · simp only [upd_ne e]; exact ⟨b1, b2, b3, b4, b5, b6⟩
      · by_cases e : p = r
        · subst e; simp only [upd_at] at hp; omega
        · simp only [upd_ne e] at hp ⊢
          obtain ⟨b1, b2, b3⟩ := h.b p h1 h2 hp
          have hne : m.ai p ≠ r := fun e => by rw [e] at b2; omega
          rw [upd_ne hne]
          exact ⟨b1, b2, b3⟩
      · rw [S_set (f := rem s m) h0 hr fun i _ _ hi => by simp only [rem, upd_ne hi]]
        simp only [rem, upd_at, if_neg c1]
        rw [if_pos (by omega)]
        omega
      · by_cases e : i = r
        · subst e; exact .inr (upd_at _ _ _)
        · exact .inl (upd_ne e)
    · rw [if_neg c4]
      refine ⟨⟨fun i h1 h2 => ?_, h.b⟩, .inr ?_, fun i => .inl rfl⟩
      · obtain ⟨b1, b2, b3, b4, b5, b6⟩ := h.a i h1 h2
        by_cases e : i = r
        · subst e; simp only [upd_at]; exact ⟨b1, b2, b3, b4, by omega, by omega⟩
        · simp only [upd_ne e]; exact ⟨b1, b2, b3, b4, b5, b6⟩
      · rw [S_set (f := rem s m) h0 hr fun i _ _ hi => by simp only [rem, upd_ne hi]]
        simp only [rem, upd_at, if_neg c1]
        omega
  rw [if_neg c3]
  by_cases c4 : m.ai (m.at_ r + 1) < 0
  · rw [if_pos c4]
    refine ⟨⟨fun i h1 h2 => ?_, fun p h1 h2 hp => ?_⟩, .inr ?_, fun i => .inl rfl⟩
    · obtain ⟨b1, b2, b3, b4, b5, b6⟩ := h.a i h1 h2
      by_cases e : i = r
      · subst e; simp only [upd_at]; exact ⟨by omega, by omega, b3, b4, b5, b6⟩
      · simp only [upd_ne e]; exact ⟨b1, b2, b3, b4, b5, b6⟩
    · by_cases e : p = m.at_ r + 1
      · subst e; simp only [upd_at]; exact ⟨hr, by simp only [upd_at], hs0⟩
      · by_cases e2 : p = m.at_ r
        · simp only [upd_ne e] at hp; rw [e2, upd_at] at hp; omega
        · simp only [upd_ne e, upd_ne e2] at hp ⊢
          obtain ⟨b1, b2, b3⟩ := h.b p h1 h2 hp
          have hne : m.ai p ≠ r := fun e => by rw [e] at b2; omega
          rw [upd_ne hne]
          exact ⟨b1, b2, b3⟩
    · rw [S_set (f := rem s m) h0 hr fun i _ _ hi => by simp only [rem, upd_ne hi]]
      simp only [rem, upd_at, if_neg c1]
      omega
  · rw [if_neg c4]; exact ⟨h, .inl ⟨rfl, .inr (.inr ⟨by omega, c3, by omega⟩)⟩, fun i => .inl rfl⟩
/-- Of those who are on their way one can act. -/
theorem busy {n : Nat} {s t : Int} {m : M} (h : Inv n s t m) : ∀ (d : Nat) (r : Int), 0 ≤ r → r < (n : Int) → m.sat r = 0 → 0 ≤ m.at_ r → m.at_ r + d = (n : Int) → ∃ r', 0 ≤ r' ∧ r' < (n : Int) ∧ ¬ (0 < m.sat r' ∨ (m.at_ r' < 0 ∧ 0 ≤ m.ai 0) ∨ (0 ≤ m.at_ r' ∧ m.at_ r' ≠ r' ∧ 0 ≤ m.ai (m.at_ r' + 1)))
  | 0, r, h0, hr, hs, ha, hd => by
    obtain ⟨a1, a2, -⟩ := h.a r h0 hr
    omega
  | d + 1, r, h0, hr, hs, ha, hd => by
    obtain ⟨a1, a2, -⟩ := h.a r h0 hr
    by_cases c : m.at_ r = r
    · exact ⟨r, h0, hr, by omega⟩
    · by_cases c2 : m.ai (m.at_ r + 1) < 0
      · exact ⟨r, h0, hr, by omega⟩
      · obtain ⟨b1, b2, b3⟩ := h.b (m.at_ r + 1) (by omega) (by omega) (by omega)
        exact busy h d (m.ai (m.at_ r + 1)) (by omega) b1 b3 (by omega) (by omega)
theorem busy_any {n : Nat} {s t : Int} {m : M} (h : Inv n s t m) {r : Int} (h0 : 0 ≤ r) (hr : r < (n : Int)) (hs : m.sat r = 0) : ∃ r', 0 ≤ r' ∧ r' < (n : Int) ∧ ¬ (0 < m.sat r' ∨ (m.at_ r' < 0 ∧ 0 ≤ m.ai 0) ∨ (0 ≤ m.at_ r' ∧ m.at_ r' ≠ r' ∧ 0 ≤ m.ai (m.at_ r' + 1))) := by
  obtain ⟨a1, a2, -⟩ := h.a r h0 hr
  by_cases c : m.at_ r < 0
  · by_cases c2 : m.ai 0 < 0
    · exact ⟨r, h0, hr, by omega⟩
    · obtain ⟨b1, b2, b3⟩ := h.b 0 (by omega) (by omega) (by omega)
      exact busy h n (m.ai 0) (by omega) b1 b3 (by omega) (by omega)
  · exact busy h ((n : Int) - m.at_ r).toNat r h0 hr hs (by omega) (by omega)
/-- A unit: all act in an order. -/
def pass (s t : Int) (m : M) (l : List Int) : M := l.foldl (act s t) m
theorem pass_all {n : Nat} {s t : Int} (ht : 1 ≤ t) : ∀ (l : List Int) (m : M), Inv n s t m → (∀ x ∈ l, 0 ≤ x ∧ x < (n : Int)) →
    Inv n s t (pass s t m l) ∧ S n (rem s (pass s t m l)) ≤ S n (rem s m) ∧ (∀ i, (pass s t m l).sat i = m.sat i ∨ (pass s t m l).sat i = t) ∧ ((∃ r ∈ l, ¬ (0 < m.sat r ∨ (m.at_ r < 0 ∧ 0 ≤ m.ai 0) ∨ (0 ≤ m.at_ r ∧ m.at_ r ≠ r ∧ 0 ≤ m.ai (m.at_ r + 1)))) → S n (rem s (pass s t m l)) < S n (rem s m))
  | [], m, h, _ => ⟨h, by simp [pass], fun i => .inl rfl, by simp⟩
  | x :: l, m, h, hl => by
    obtain ⟨x0, xn⟩ := hl x (by simp)
    obtain ⟨i1, d1, s1⟩ := act_all h ht x0 xn
    obtain ⟨i2, d2, s2, m2⟩ := pass_all ht l (act s t m x) i1 fun y hy => hl y (by simp [hy])
    have e : pass s t m (x :: l) = pass s t (act s t m x) l := rfl
    rw [e]
    refine ⟨i2, ?_, fun i => ?_, ?_⟩
    · rcases d1 with ⟨d1, _⟩ | d1
      · rw [d1] at d2 ⊢; exact d2
      · omega
    · rcases s2 i with h2 | h2
      · rcases s1 i with h1 | h1
        · exact .inl (h2.trans h1)
        · exact .inr (h2.trans h1)
      · exact .inr h2
    · rintro ⟨r, hr, hn⟩
      rcases d1 with ⟨d1, dn⟩ | d1
      · rw [d1] at m2 ⊢
        rcases List.mem_cons.1 hr with rfl | hr
        · exact absurd dn hn
        · exact m2 ⟨r, hr, hn⟩
      · omega
/-- A list holds what a function says. -/
structure Rp (n : Nat) (l : List Int) (f : Int → Int) : Prop where
  len : l.length = n
  at_ : ∀ i, 0 ≤ i → i < (n : Int) → rd l i = f i
theorem Rp.set {n : Nat} {l : List Int} {f : Int → Int} (h : Rp n l f) {r : Int} (v : Int) (h0 : 0 ≤ r) (hr : r < (n : Int)) : Rp n (l.set r.toNat v) (upd f r v) := by
  refine ⟨by rw [List.length_set]; exact h.len, fun i i0 hi => ?_⟩
  have hl := h.len
  obtain ⟨j, rfl⟩ : ∃ j : Nat, i = j := ⟨i.toNat, by omega⟩
  by_cases e : (j : Int) = r
  · rw [e, upd_at, ← e, rd_lt (by rw [List.length_set]; omega)]
    subst e
    simp
  · rw [upd_ne e, ← h.at_ _ i0 hi, rd_lt (by rw [List.length_set]; omega), rd_lt (by omega), List.getElem_set_ne (by omega)]
theorem Rp.to {n : Nat} {l : List Int} {f g : Int → Int} (h : Rp n l f) (hg : ∀ i, 0 ≤ i → i < (n : Int) → f i = g i) : Rp n l g := ⟨h.len, fun i h1 h2 => (h.at_ i h1 h2).trans (hg i h1 h2)⟩
theorem Rp.rep (n : Nat) (v : Int) : Rp n (List.replicate n v) fun _ => v := by
  refine ⟨by simp, fun i h0 h => ?_⟩
  obtain ⟨j, rfl⟩ : ∃ j : Nat, i = j := ⟨i.toNat, by omega⟩
  rw [rd_lt (by simp; omega)]
  simp
end Bd
open Bd
theorem spec_act {n : Nat} {s t : Int} {m : M} {r : Int} (h : Inv n s t m) (hs : s ≤ 5) (hn : n ≤ 6) (h0 : 0 ≤ r) (hr : r < (n : Int)) {A B C D E F : List Int} (ra : Rp n A m.ai) (rb : Rp n B m.at_) (rc : Rp n C m.st) (ld : D.length = n) (re : Rp n E m.sat) (lf : F.length = n) :
    ∃ A' B' C' D' E' F', spec_l7Act.f A B C D E F r t s = some (A', B', C', D', E', F') ∧ Rp n A' (act s t m r).ai ∧ Rp n B' (act s t m r).at_ ∧ Rp n C' (act s t m r).st ∧ D'.length = n ∧ Rp n E' (act s t m r).sat ∧ F'.length = n := by
  obtain ⟨a1, a2, a3, a4, a5, a6⟩ := h.a r h0 hr
  have la := ra.len
  have lb := rb.len
  have lc := rc.len
  have le := re.len
  unfold spec_l7Act.f
  rw [if_pos h0, if_pos (by omega), if_pos (by omega)]
  simp only [re.at_ r h0 hr, rb.at_ r h0 hr, rc.at_ r h0 hr, Option.bind_some]
  by_cases c1 : 0 < m.sat r
  · have e : act s t m r = m := by unfold act; rw [if_pos c1]
    rw [if_pos c1, e]
    exact ⟨_, _, _, _, _, _, rfl, ra, rb, rc, ld, re, lf⟩
  have hs0 : m.sat r = 0 := by omega
  have hst := a6 hs0
  rw [if_neg c1]
  by_cases c2 : m.at_ r < 0
  · rw [if_pos c2, if_pos (by omega), ra.at_ 0 (by omega) (by omega)]
    by_cases c3 : m.ai 0 < 0
    · have e : act s t m r = ⟨upd m.ai 0 r, upd m.at_ r 0, m.st, m.sat⟩ := by unfold act; rw [if_neg c1, if_pos c2, if_pos c3]
      rw [if_pos c3, if_pos (by omega), e]
      exact ⟨_, _, _, _, _, _, rfl, ra.set r (by omega) (by omega), rb.set 0 h0 hr, rc, by simpa using ld, re, lf⟩
    · have e : act s t m r = m := by unfold act; rw [if_neg c1, if_pos c2, if_neg c3]
      rw [if_neg c3, e]
      exact ⟨_, _, _, _, _, _, rfl, ra, rb, rc, ld, re, lf⟩
  rw [if_neg c2]
  by_cases c3 : m.at_ r = r
  · have hw : wrap64 (m.st r + 1) = m.st r + 1 := w64 (by omega) (by omega)
    rw [if_pos c3, if_pos (by omega), hw, (rc.set (m.st r + 1) h0 hr).at_ r h0 hr, upd_at]
    by_cases c4 : m.st r + 1 = s
    · have e : act s t m r = ⟨upd m.ai r (-1), m.at_, upd m.st r (m.st r + 1), upd m.sat r t⟩ := by unfold act; rw [if_neg c1, if_neg c2, if_pos c3, if_pos c4]
      rw [if_pos c4, c3, if_pos h0, if_pos (by omega), e]
      exact ⟨_, _, _, _, _, _, rfl, ra.set _ h0 hr, rb, rc.set _ h0 hr, ld, re.set _ h0 hr, lf⟩
    · have e : act s t m r = ⟨m.ai, m.at_, upd m.st r (m.st r + 1), m.sat⟩ := by unfold act; rw [if_neg c1, if_neg c2, if_pos c3, if_neg c4]
      rw [if_neg c4, e]
      exact ⟨_, _, _, _, _, _, rfl, ra, rb, rc.set _ h0 hr, ld, re, lf⟩
  have hw : wrap64 (m.at_ r + 1) = m.at_ r + 1 := w64 (by omega) (by omega)
  rw [if_neg c3, hw, if_pos (by omega), if_pos (by omega), ra.at_ (m.at_ r + 1) (by omega) (by omega)]
  by_cases c4 : m.ai (m.at_ r + 1) < 0
  · have e : act s t m r = ⟨upd (upd m.ai (m.at_ r) (-1)) (m.at_ r + 1) r, upd m.at_ r (m.at_ r + 1), m.st, m.sat⟩ := by unfold act; rw [if_neg c1, if_neg c2, if_neg c3, if_pos c4]
    rw [if_pos c4, if_pos (by omega), if_pos (by omega), e]
    exact ⟨_, _, _, _, _, _, rfl, (ra.set _ (by omega) (by omega)).set _ (by omega) (by omega), rb.set _ h0 hr, rc, ld, re, lf⟩
  · have e : act s t m r = m := by unfold act; rw [if_neg c1, if_neg c2, if_neg c3, if_neg c4]
    rw [if_neg c4, if_pos (by omega), e]
    exact ⟨_, _, _, _, _, _, rfl, ra, rb, rc, ld, re, by simpa using lf⟩
theorem spec_pass {n : Nat} {s t : Int} (ht : 1 ≤ t) (hs : s ≤ 5) (hn : n ≤ 6) (l : List Int) (hl : l.length = n) (hm : ∀ x ∈ l, 0 ≤ x ∧ x < (n : Int)) : ∀ (d j : Nat) (m : M) (A B C D E F : List Int), j + d = n → Inv n s t m → Rp n A m.ai → Rp n B m.at_ → Rp n C m.st → D.length = n → Rp n E m.sat → F.length = n →
    ∃ A' B' C' D' E' F', Rp n A' (pass s t m (l.drop j)).ai ∧ Rp n B' (pass s t m (l.drop j)).at_ ∧ Rp n C' (pass s t m (l.drop j)).st ∧ D'.length = n ∧ Rp n E' (pass s t m (l.drop j)).sat ∧ F'.length = n ∧
      ∀ R, Ev (fun k => spec_l7Run.l0 k (n : Int) s l (-1) (wrap64 (t + 1)) A' B' C' D' E' F') R → Ev (fun k => spec_l7Run.l1 k (n : Int) s l (-1) t (j : Int) A B C D E F) R
  | 0, j, m, A, B, C, D, E, F, hj, hI, ra, rb, rc, ld, re, lf => by
    rw [List.drop_eq_nil_of_le (by omega)]
    refine ⟨A, B, C, D, E, F, ra, rb, rc, ld, re, lf, fun R h => ?_⟩
    apply evshift
    simp only [spec_l7Run.l1]
    exact evn (by omega) h
  | d + 1, j, m, A, B, C, D, E, F, hj, hI, ra, rb, rc, ld, re, lf => by
    have hlt : j < l.length := by omega
    obtain ⟨x0, xn⟩ := hm _ (rd_mem hlt)
    obtain ⟨A1, B1, C1, D1, E1, F1, e1, ra1, rb1, rc1, ld1, re1, lf1⟩ := spec_act hI hs hn x0 xn ra rb rc ld re lf
    obtain ⟨i1, -, -⟩ := act_all hI ht x0 xn
    obtain ⟨A', B', C', D', E', F', ra', rb', rc', ld', re', lf', hE⟩ := spec_pass ht hs hn l hl hm d (j + 1) _ A1 B1 C1 D1 E1 F1 (by omega) i1 ra1 rb1 rc1 ld1 re1 lf1
    have ep : pass s t m (l.drop j) = pass s t (act s t m (rd l (j : Int))) (l.drop (j + 1)) := by rw [drop_cons hlt]; rfl
    rw [ep]
    refine ⟨A', B', C', D', E', F', ra', rb', rc', ld', re', lf', fun R h => ?_⟩
    apply evshift
    simp only [spec_l7Run.l1]
    refine evp (by omega) (evp (by omega) (evp (by omega) (evc e1 ?_)))
    dsimp only
    rw [wnext j (by omega)]
    exact hE R h
def pl (n : Nat) (m : M) (r : Int) : Int := if 0 < m.sat r then (n : Int) else m.at_ r
theorem un_bound {n : Nat} {m : M} : ∀ q : Nat, 0 ≤ S q (un m) ∧ S q (un m) ≤ (q : Int)
  | 0 => by simp [S]
  | q + 1 => by
    have h := un_bound (n := n) (m := m) q
    simp only [S]
    have : 0 ≤ un m (q : Int) ∧ un m (q : Int) ≤ 1 := by unfold un; split <;> omega
    omega
theorem board_step {n : Nat} {s t : Int} {m : M} (ht : 1 ≤ t) (hs : s ≤ 5) (hn : n ≤ 6) (l : List Int) (hl : l.length = n) (hm : ∀ x ∈ l, 0 ≤ x ∧ x < (n : Int)) {j : Nat} (hj : j < n) (h : Inv n s t m) {P C A X Y Z : List Int} (W : List (List Int)) (rp : Rp n P (pl n m)) (rc : Rp n C m.st) (ra : Rp n A m.ai) (lx : X.length = n) (ly : Y.length = n) (lz : Z.length = n) :
    ∃ P' C' A' X' Y' Z', Rp n P' (pl n (act s t m (rd l (j : Int)))) ∧ Rp n C' (act s t m (rd l (j : Int))).st ∧ Rp n A' (act s t m (rd l (j : Int))).ai ∧ X'.length = n ∧ Y'.length = n ∧ Z'.length = n ∧
      ∀ R, Ev (fun k => impl_board.l1 k (n : Int) s l P' C' A' (S n (un (act s t m (rd l (j : Int))))) t l (l.length : Int) ((j + 1 : Nat) : Int) X' Y' Z' W) R → Ev (fun k => impl_board.l1 k (n : Int) s l P C A (S n (un m)) t l (l.length : Int) (j : Int) X Y Z W) R := by
  have hlt : j < l.length := by omega
  obtain ⟨h0, hr⟩ := hm _ (rd_mem hlt)
  generalize hrr : rd l (j : Int) = r at h0 hr
  obtain ⟨a1, a2, a3, a4, a5, a6⟩ := h.a r h0 hr
  have lp := rp.len
  have lc := rc.len
  have la := ra.len
  by_cases c1 : 0 < m.sat r
  · have e : act s t m r = m := by unfold act; rw [if_pos c1]
    have hp : pl n m r = (n : Int) := by unfold pl; rw [if_pos c1]
    rw [e]
    refine ⟨P, C, A, X, Y, Z, rp, rc, ra, lx, ly, lz, fun R hR => ?_⟩
    apply evshift
    simp only [impl_board.l1, hrr, rp.at_ r h0 hr, hp]
    rw [wnext j (by omega)]
    exact evp (by omega) (evp (by omega) (evp (by omega) (evp (by omega) (evp (by omega) (evp trivial hR)))))
  have hs0 : m.sat r = 0 := by omega
  have hst := a6 hs0
  have hp : pl n m r = m.at_ r := by unfold pl; rw [if_neg c1]
  by_cases c2 : m.at_ r < 0
  · have ea : m.at_ r = -1 := by omega
    by_cases c3 : m.ai 0 < 0
    · have e : act s t m r = ⟨upd m.ai 0 r, upd m.at_ r 0, m.st, m.sat⟩ := by unfold act; rw [if_neg c1, if_pos c2, if_pos c3]
      rw [e]
      refine ⟨P.set r.toNat 0, C, A.set (0 : Int).toNat r, X, Y.set r.toNat t, Z, ?_, rc, ra.set r (by omega) (by omega), lx, by simpa using ly, lz, fun R hR => ?_⟩
      · refine (rp.set 0 h0 hr).to fun i i0 i1 => ?_
        by_cases ei : i = r
        · subst ei; simp only [upd_at, pl, if_neg c1]
        · simp only [upd_ne ei, pl]
      · have hu : S n (un ⟨upd m.ai 0 r, upd m.at_ r 0, m.st, m.sat⟩) = S n (un m) := S_congr n fun i _ _ => rfl
        rw [hu] at hR
        apply evshift
        simp only [impl_board.l1, hrr, rp.at_ r h0 hr, hp, ea]
        rw [wnext j (by omega), show wrap64 (-1 + 1) = 0 by unfold wrap64; omega, ra.at_ 0 (by omega) (by omega)]
        exact evp (by omega) (evp (by omega) (evp (by omega) (evp (by omega) (evp (by omega) (evn (by omega) (evn (by omega) (evp (by omega) (evp (by omega) (evp c3 (evp (by omega) (evp (by omega) hR)))))))))))
    · have e : act s t m r = m := by unfold act; rw [if_neg c1, if_pos c2, if_neg c3]
      rw [e]
      refine ⟨P, C, A, X, Y, Z, rp, rc, ra, lx, ly, lz, fun R hR => ?_⟩
      apply evshift
      simp only [impl_board.l1, hrr, rp.at_ r h0 hr, hp, ea]
      rw [wnext j (by omega), show wrap64 (-1 + 1) = 0 by unfold wrap64; omega, ra.at_ 0 (by omega) (by omega)]
      exact evp (by omega) (evp (by omega) (evp (by omega) (evp (by omega) (evp (by omega) (evn (by omega) (evn (by omega) (evp (by omega) (evp (by omega) (evn c3 (evn (by omega) hR))))))))))
  by_cases c3 : m.at_ r = r
  · have hw : wrap64 (m.st r + 1) = m.st r + 1 := w64 (by omega) (by omega)
    by_cases c4 : m.st r + 1 = s
    · have e : act s t m r = ⟨upd m.ai r (-1), m.at_, upd m.st r (m.st r + 1), upd m.sat r t⟩ := by unfold act; rw [if_neg c1, if_neg c2, if_pos c3, if_pos c4]
      rw [e]
      refine ⟨P.set r.toNat (n : Int), C.set r.toNat (m.st r + 1), A.set r.toNat (-1), X.set r.toNat t, Y, Z, ?_, rc.set _ h0 hr, ra.set _ h0 hr, by simpa using lx, ly, lz, fun R hR => ?_⟩
      · refine (rp.set (n : Int) h0 hr).to fun i i0 i1 => ?_
        by_cases ei : i = r
        · subst ei; simp only [upd_at, pl]; rw [if_pos (by omega)]
        · simp only [upd_ne ei, pl]
      · have hu : S n (un ⟨upd m.ai r (-1), m.at_, upd m.st r (m.st r + 1), upd m.sat r t⟩) = S n (un m) - 1 := by
          rw [S_set (f := un m) h0 hr fun i _ _ hi => by simp only [un, upd_ne hi]]
          simp only [un, upd_at, if_neg c1]
          rw [if_pos (by omega)]
          omega
        rw [hu] at hR
        have ub := un_bound (n := n) (m := m) n
        apply evshift
        simp only [impl_board.l1, hrr, rp.at_ r h0 hr, hp, rc.at_ r h0 hr, Option.bind_some]
        rw [wnext j (by omega), hw, (rc.set (m.st r + 1) h0 hr).at_ r h0 hr, upd_at, c3, w64 (x := S n (un m) - 1) (by omega) (by omega)]
        exact evp (by omega) (evp (by omega) (evp (by omega) (evp (by omega) (evp (by omega) (evn (by omega) (evp rfl (evp (by omega) (evp c4 (evp (by omega) (evp (by omega) (evp (by omega) hR)))))))))))
    · have e : act s t m r = ⟨m.ai, m.at_, upd m.st r (m.st r + 1), m.sat⟩ := by unfold act; rw [if_neg c1, if_neg c2, if_pos c3, if_neg c4]
      rw [e]
      refine ⟨P, C.set r.toNat (m.st r + 1), A, X, Y, Z, rp, rc.set _ h0 hr, ra, lx, ly, lz, fun R hR => ?_⟩
      have hu : S n (un ⟨m.ai, m.at_, upd m.st r (m.st r + 1), m.sat⟩) = S n (un m) := S_congr n fun i _ _ => rfl
      rw [hu] at hR
      apply evshift
      simp only [impl_board.l1, hrr, rp.at_ r h0 hr, hp, rc.at_ r h0 hr, Option.bind_some]
      rw [wnext j (by omega), hw, (rc.set (m.st r + 1) h0 hr).at_ r h0 hr, upd_at, c3]
      exact evp (by omega) (evp (by omega) (evp (by omega) (evp (by omega) (evp (by omega) (evn (by omega) (evp rfl (evp (by omega) (evn c4 hR))))))))
  have hw : wrap64 (m.at_ r + 1) = m.at_ r + 1 := w64 (by omega) (by omega)
  by_cases c4 : m.ai (m.at_ r + 1) < 0
  · have e : act s t m r = ⟨upd (upd m.ai (m.at_ r) (-1)) (m.at_ r + 1) r, upd m.at_ r (m.at_ r + 1), m.st, m.sat⟩ := by unfold act; rw [if_neg c1, if_neg c2, if_neg c3, if_pos c4]
    rw [e]
    refine ⟨P.set r.toNat (m.at_ r + 1), C, (A.set (m.at_ r).toNat (-1)).set (m.at_ r + 1).toNat r, X, Y, Z, ?_, rc, (ra.set _ (by omega) (by omega)).set _ (by omega) (by omega), lx, ly, lz, fun R hR => ?_⟩
    · refine (rp.set (m.at_ r + 1) h0 hr).to fun i i0 i1 => ?_
      by_cases ei : i = r
      · subst ei; simp only [upd_at, pl, if_neg c1]
      · simp only [upd_ne ei, pl]
    · have hu : S n (un ⟨upd (upd m.ai (m.at_ r) (-1)) (m.at_ r + 1) r, upd m.at_ r (m.at_ r + 1), m.st, m.sat⟩) = S n (un m) := S_congr n fun i _ _ => rfl
      rw [hu] at hR
      apply evshift
      simp only [impl_board.l1, hrr, rp.at_ r h0 hr, hp]
      rw [wnext j (by omega), hw, ra.at_ (m.at_ r + 1) (by omega) (by omega)]
      exact evp (by omega) (evp (by omega) (evp (by omega) (evp (by omega) (evp (by omega) (evn (by omega) (evn c3 (evp (by omega) (evp (by omega) (evp c4 (evn (by omega) (evp (by omega) (evp (by omega) hR))))))))))))
  · have e : act s t m r = m := by unfold act; rw [if_neg c1, if_neg c2, if_neg c3, if_neg c4]
    rw [e]
    refine ⟨P, C, A, X, Y, Z.set r.toNat (wrap64 (rd Z r + 1)), rp, rc, ra, lx, ly, by simpa using lz, fun R hR => ?_⟩
    apply evshift
    simp only [impl_board.l1, hrr, rp.at_ r h0 hr, hp]
    rw [wnext j (by omega), hw, ra.at_ (m.at_ r + 1) (by omega) (by omega)]
    exact evp (by omega) (evp (by omega) (evp (by omega) (evp (by omega) (evp (by omega) (evn (by omega) (evn c3 (evp (by omega) (evp (by omega) (evn c4 (evp (by omega) (evp (by omega) hR)))))))))))
theorem board_pass {n : Nat} {s t : Int} (ht : 1 ≤ t) (hs : s ≤ 5) (hn : n ≤ 6) (l : List Int) (hl : l.length = n) (hm : ∀ x ∈ l, 0 ≤ x ∧ x < (n : Int)) (W : List (List Int)) (hW : W.length < 5864062014805) : ∀ (d j : Nat) (m : M) (P C A X Y Z : List Int), j + d = n → Inv n s t m → Rp n P (pl n m) → Rp n C m.st → Rp n A m.ai → X.length = n → Y.length = n → Z.length = n →
    ∃ P' C' A' X' Y' Z', Rp n P' (pl n (pass s t m (l.drop j))) ∧ Rp n C' (pass s t m (l.drop j)).st ∧ Rp n A' (pass s t m (l.drop j)).ai ∧ X'.length = n ∧ Y'.length = n ∧ Z'.length = n ∧
      ∀ R, Ev (fun k => impl_board.l0 k (n : Int) s l P' C' A' (S n (un (pass s t m (l.drop j)))) (wrap64 (t + 1)) X' Y' Z' (W ++ [A'])) R → Ev (fun k => impl_board.l1 k (n : Int) s l P C A (S n (un m)) t l (l.length : Int) (j : Int) X Y Z W) R
  | 0, j, m, P, C, A, X, Y, Z, hj, hI, rp, rc, ra, lx, ly, lz => by
    rw [List.drop_eq_nil_of_le (by omega)]
    refine ⟨P, C, A, X, Y, Z, rp, rc, ra, lx, ly, lz, fun R h => ?_⟩
    have la := ra.len
    have hc : slices_Clone_int_int.f A = some A := by unfold slices_Clone_int_int.f; rw [if_pos (by omega)]
    apply evshift
    simp only [impl_board.l1]
    exact evn (by omega) (evc hc (evp hW h))
  | d + 1, j, m, P, C, A, X, Y, Z, hj, hI, rp, rc, ra, lx, ly, lz => by
    have hlt : j < l.length := by omega
    obtain ⟨x0, xn⟩ := hm _ (rd_mem hlt)
    obtain ⟨P1, C1, A1, X1, Y1, Z1, rp1, rc1, ra1, lx1, ly1, lz1, hE1⟩ := board_step ht hs hn l hl hm (j := j) (by omega) hI W rp rc ra lx ly lz
    obtain ⟨i1, -, -⟩ := act_all hI ht x0 xn
    obtain ⟨P', C', A', X', Y', Z', rp', rc', ra', lx', ly', lz', hE⟩ := board_pass ht hs hn l hl hm W hW d (j + 1) _ P1 C1 A1 X1 Y1 Z1 (by omega) i1 rp1 rc1 ra1 lx1 ly1 lz1
    have ep : pass s t m (l.drop j) = pass s t (act s t m (rd l (j : Int))) (l.drop (j + 1)) := by rw [drop_cons hlt]; rfl
    rw [ep]
    exact ⟨P', C', A', X', Y', Z', rp', rc', ra', lx', ly', lz', fun R h => hE1 R (hE R h)⟩
theorem sat_has {n : Nat} {E : List Int} {m : M} (re : Rp n E m.sat) (h : ∀ i, 0 ≤ i → i < (n : Int) → 0 ≤ m.sat i) : (0 : Int) ∈ E ↔ 0 < S n (un m) := by
  have le := re.len
  constructor
  · intro h0
    obtain ⟨j, hj, e⟩ := List.getElem_of_mem h0
    have h1 := re.at_ (j : Int) (by omega) (by omega)
    rw [rd_lt hj, e] at h1
    have h2 := S_ge (f := un m) (r := (j : Int)) n (fun i _ _ => by unfold un; split <;> omega) (by omega) (by omega)
    have h3 : un m (j : Int) = 1 := by unfold un; rw [if_neg (by omega)]
    omega
  · intro h0
    obtain ⟨i, i0, i1, i2⟩ := S_ex n h0
    have h3 : ¬ 0 < m.sat i := fun h => by unfold un at i2; rw [if_pos h] at i2; omega
    have h4 := h i i0 i1
    have h1 := re.at_ i i0 i1
    obtain ⟨j, rfl⟩ : ∃ j : Nat, i = j := ⟨i.toNat, by omega⟩
    have hj : j < E.length := by omega
    have e : rd E (j : Int) = 0 := by omega
    rw [← e]
    exact rd_mem hj
/-- Both run to the same last unit. -/
theorem run {n s : Nat} (hs : s ≤ 5) (hn : n ≤ 6) (l : List Int) (hl : l.length = n) (hm : ∀ x ∈ l, 0 ≤ x ∧ x < (n : Int)) (hall : ∀ i : Int, 0 ≤ i → i < (n : Int) → i ∈ l) : ∀ (d : Nat) (t : Nat) (m : M), S n (rem (s : Int) m) ≤ (d : Int) → t + d ≤ 1000 → Inv n (s : Int) (t : Int) m →
    ∃ (U : Nat) (m' : M), t ≤ U ∧ U ≤ 1000 ∧ Inv n (s : Int) (U : Int) m' ∧ (∀ i, 0 ≤ i → i < (n : Int) → 0 < m'.sat i) ∧ ((U = t ∧ m' = m) ∨ ∃ i, 0 ≤ i ∧ i < (n : Int) ∧ m'.sat i = (U : Int)) ∧
      (∀ A B C D E F : List Int, Rp n A m.ai → Rp n B m.at_ → Rp n C m.st → D.length = n → Rp n E m.sat → F.length = n → ∃ A' B' C' D' E' F', Rp n E' m'.sat ∧ Ev (fun k => spec_l7Run.l0 k (n : Int) (s : Int) l (-1) ((t + 1 : Nat) : Int) A B C D E F) (A', B', C', D', E', F')) ∧
      (∀ (P C A X Y Z : List Int) (W : List (List Int)), Rp n P (pl n m) → Rp n C m.st → Rp n A m.ai → X.length = n → Y.length = n → Z.length = n → W.length = t + 1 → ∃ r1 r2 r3 r4, r4.length = U + 1 ∧ Ev (fun k => impl_board.l0 k (n : Int) (s : Int) l P C A (S n (un m)) ((t + 1 : Nat) : Int) X Y Z W) (r1, r2, r3, r4)) := by
  intro d
  induction d with
  | zero =>
    intro t m hd ht hI
    have hz : S n (un m) = 0 := by
      have ub := un_bound (n := n) (m := m) n
      by_cases c : 0 < S n (un m)
      · obtain ⟨i, i0, i1, i2⟩ := S_ex n c
        have h3 : ¬ 0 < m.sat i := fun h => by unfold un at i2; rw [if_pos h] at i2; omega
        obtain ⟨a1, a2, a3, a4, a5, a6⟩ := hI.a i i0 i1
        have h4 := S_ge (f := rem (s : Int) m) (r := i) n (fun q q0 q1 => by
          obtain ⟨b1, b2, b3, b4, b5, b6⟩ := hI.a q q0 q1
          unfold rem; split <;> omega) i0 i1
        have h5 : rem (s : Int) m i = (i - m.at_ i) + ((s : Int) - m.st i) := by unfold rem; rw [if_neg h3]
        have := a6 (by omega)
        omega
      · omega
    refine ⟨t, m, Nat.le_refl _, by omega, hI, fun i i0 i1 => ?_, .inl ⟨rfl, rfl⟩, ?_, ?_⟩
    · by_cases c : 0 < m.sat i
      · exact c
      · have h2 := S_ge (f := un m) (r := i) n (fun i _ _ => by unfold un; split <;> omega) i0 i1
        have h3 : un m i = 1 := by unfold un; rw [if_neg c]
        omega
    · intro A B C D E F ra rb rc ld re lf
      have hno : ¬ (0 : Int) ∈ E := fun h => by have := (sat_has re fun i i0 i1 => (hI.a i i0 i1).2.2.1).1 h; omega
      have le := re.len
      refine ⟨A, B, C, D, E, F, re, ?_⟩
      apply evshift
      simp only [spec_l7Run.l0]
      refine evp (by omega) (evb (ev_l1Has E 0 (by omega)) ?_)
      apply evshift
      simp only [spec_l7Run.j1]
      exact evn (by simp [hno]) (evs _)
    · intro P C A X Y Z W rp rc ra lx ly lz lw
      refine ⟨X, Y, Z, W, lw, ?_⟩
      apply evshift
      simp only [impl_board.l0, hz]
      exact evn (by omega) (evs _)
  | succ d ih =>
    intro t m hd ht hI
    by_cases c : 0 < S n (un m)
    · obtain ⟨i, i0, i1, i2⟩ := S_ex n c
      have hsi : m.sat i = 0 := by
        have h3 : ¬ 0 < m.sat i := fun h => by unfold un at i2; rw [if_pos h] at i2; omega
        have := (hI.a i i0 i1).2.2.1
        omega
      have key : ∀ m2 : M, 0 < m2.sat i → (m2.sat i = m.sat i ∨ m2.sat i = ((t + 1 : Nat) : Int)) → m2.sat i = ((t + 1 : Nat) : Int) := fun m2 h1 h2 => by omega
      have hI1 : Inv n (s : Int) ((t + 1 : Nat) : Int) m := hI.weak (by omega)
      obtain ⟨r', r0, r1, r2⟩ := busy_any hI i0 i1 hsi
      obtain ⟨p1, p2, p3, p4⟩ := pass_all (n := n) (s := (s : Int)) (t := ((t + 1 : Nat) : Int)) (by omega) l m hI1 hm
      have p5 := p4 ⟨r', hall r' r0 r1, r2⟩
      clear p4 r2 r1 r0
      obtain ⟨U, m', u1, u2, u3, u4, u5, u6, u7⟩ := ih (t + 1) (pass (s : Int) ((t + 1 : Nat) : Int) m l) (by omega) (by omega) p1
      have hwn : wrap64 (((t + 1 : Nat) : Int) + 1) = ((t + 1 + 1 : Nat) : Int) := wnext (t + 1) (by omega)
      refine ⟨U, m', Nat.le_trans (Nat.le_succ t) u1, u2, u3, u4, .inr ?_, ?_, ?_⟩
      · rcases u5 with ⟨e1, e2⟩ | h
        · have p3i := p3 i
          rw [← e2] at p3i
          refine ⟨i, i0, i1, ?_⟩
          rw [e1]
          exact key m' (u4 i i0 i1) p3i
        · exact h
      · clear u5 p3 p5 p2 u4 u3 hd key hsi i2
        intro A B C D E F ra rb rc ld re lf
        have hyes : (0 : Int) ∈ E := (sat_has re fun i i0 i1 => (hI.a i i0 i1).2.2.1).2 c
        clear c
        have le := re.len
        obtain ⟨A1, B1, C1, D1, E1, F1, ra1, rb1, rc1, ld1, re1, lf1, hE⟩ := spec_pass (n := n) (s := (s : Int)) (t := ((t + 1 : Nat) : Int)) (by omega) (by omega) hn l hl hm n 0 m A B C D E F (by omega) hI1 ra rb rc ld re lf
        rw [List.drop_zero] at ra1 rb1 rc1 re1
        obtain ⟨A', B', C', D', E', F', re', hR⟩ := u6 A1 B1 C1 D1 E1 F1 ra1 rb1 rc1 ld1 re1 lf1
        refine ⟨A', B', C', D', E', F', re', ?_⟩
        apply evshift
        simp only [spec_l7Run.l0]
        refine evp (by omega) (evb (ev_l1Has E 0 (by omega)) ?_)
        apply evshift
        simp only [spec_l7Run.j1]
        refine evp (by simp [hyes]) (hE _ ?_)
        rw [hwn]
        exact hR
      · clear u5 p3 p5 p2 u4 u3 hd u6 key hsi i2
        intro P C A X Y Z W rp rc ra lx ly lz lw
        obtain ⟨P1, C1, A1, X1, Y1, Z1, rp1, rc1, ra1, lx1, ly1, lz1, hE⟩ := board_pass (n := n) (s := (s : Int)) (t := ((t + 1 : Nat) : Int)) (by omega) (by omega) hn l hl hm W (by omega) n 0 m P C A X Y Z (by omega) hI1 rp rc ra lx ly lz
        rw [List.drop_zero] at rp1 rc1 ra1 hE
        obtain ⟨r1, r2, r3, r4, e4, hR⟩ := u7 P1 C1 A1 X1 Y1 Z1 (W ++ [A1]) rp1 rc1 ra1 lx1 ly1 lz1 (by simp; omega)
        refine ⟨r1, r2, r3, r4, e4, ?_⟩
        apply evshift
        simp only [impl_board.l0]
        refine evp c (hE _ ?_)
        rw [hwn]
        exact hR
    · have hz : S n (un m) = 0 := by have ub := un_bound (n := n) (m := m) n; omega
      refine ⟨t, m, Nat.le_refl _, by omega, hI, fun i i0 i1 => ?_, .inl ⟨rfl, rfl⟩, ?_, ?_⟩
      · by_cases c : 0 < m.sat i
        · exact c
        · have h2 := S_ge (f := un m) (r := i) n (fun i _ _ => by unfold un; split <;> omega) i0 i1
          have h3 : un m i = 1 := by unfold un; rw [if_neg c]
          omega
      · intro A B C D E F ra rb rc ld re lf
        have hno : ¬ (0 : Int) ∈ E := fun h => by have := (sat_has re fun i i0 i1 => (hI.a i i0 i1).2.2.1).1 h; omega
        have le := re.len
        refine ⟨A, B, C, D, E, F, re, ?_⟩
        apply evshift
        simp only [spec_l7Run.l0]
        refine evp (by omega) (evb (ev_l1Has E 0 (by omega)) ?_)
        apply evshift
        simp only [spec_l7Run.j1]
        exact evn (by simp [hno]) (evs _)
      · intro P C A X Y Z W rp rc ra lx ly lz lw
        refine ⟨X, Y, Z, W, lw, ?_⟩
        apply evshift
        simp only [impl_board.l0, hz]
        exact evn (by omega) (evs _)
theorem start_loop {n : Nat} (hn : n ≤ 6) (G H I J : List Int) : ∀ d j : Nat, j + d = n → Ev (fun k => spec_l7Start.l0 k (n : Int) (j : Int) (List.replicate j (-1)) (List.replicate j (-1)) G H I J) (List.replicate n (-1), List.replicate n (-1), G, H, I, J)
  | 0, j, h => by
    obtain rfl : j = n := by omega
    apply evshift
    simp only [spec_l7Start.l0]
    exact evn (by omega) (evs _)
  | d + 1, j, h => by
    have ih := start_loop hn G H I J d (j + 1) (by omega)
    apply evshift
    simp only [spec_l7Start.l0]
    refine evp (by omega) (evp (by simp; omega) (evp (by simp; omega) ?_))
    rw [wnext j (by omega), show ([(-1)] : List Int) = List.replicate 1 (-1) from rfl, List.replicate_append_replicate]
    exact ih
theorem most_loop {n : Nat} (hn : n ≤ 6) {E : List Int} {f : Int → Int} (re : Rp n E f) (U : Int) (hle : ∀ i, 0 ≤ i → i < (n : Int) → f i ≤ U) : ∀ (d j : Nat) (acc : Int), j + d = n → acc ≤ U → (acc = U ∨ ∃ i, (j : Int) ≤ i ∧ i < (n : Int) ∧ f i = U) → Ev (fun k => spec_l7Time.l0 k (n : Int) acc E (j : Int)) U
  | 0, j, acc, h, ha, hx => by
    obtain rfl : acc = U := by rcases hx with h1 | ⟨i, h1, h2, _⟩ <;> omega
    apply evshift
    simp only [spec_l7Time.l0]
    exact evn (by omega) (evs _)
  | d + 1, j, acc, h, ha, hx => by
    have le := re.len
    have hj := hle (j : Int) (by omega) (by omega)
    apply evshift
    simp only [spec_l7Time.l0]
    rw [re.at_ (j : Int) (by omega) (by omega), wnext j (by omega)]
    have next : ∀ acc', acc' = acc ∨ acc' = f (j : Int) → acc ≤ acc' → f (j : Int) ≤ acc' → Ev (fun k => spec_l7Time.l0 k (n : Int) acc' E ((j + 1 : Nat) : Int)) U := fun acc' h1 h2 h3 => by
      refine most_loop hn re U hle d (j + 1) acc' (by omega) (by omega) ?_
      rcases hx with h4 | ⟨i, h4, h5, h6⟩
      · exact .inl (by omega)
      · by_cases e : i = (j : Int)
        · subst e; exact .inl (by omega)
        · exact .inr ⟨i, by omega, h5, h6⟩
    refine evp (by omega) (evp (by omega) (evp (by omega) ?_))
    unfold spec_l1Most.f
    by_cases c : acc > f (j : Int)
    · exact evc (a := acc) (by rw [if_pos c]) (next acc (.inl rfl) (by omega) (by omega))
    · exact evc (a := f (j : Int)) (by rw [if_neg c]) (next _ (.inr rfl) (by omega) (by omega))
theorem times {n s : Nat} (hn0 : 0 < n) (hs0 : 0 < s) (hs : s ≤ 5) (hn : n ≤ 6) (l : List Int) (hl : l.length = n) (hm : ∀ x ∈ l, 0 ≤ x ∧ x < (n : Int)) (hall : ∀ i : Int, 0 ≤ i → i < (n : Int) → i ∈ l) :
    ∃ U : Int, Ev (fun k => spec_l7Time.f k (n : Int) (s : Int) l) U ∧ ∃ r1 r2 r3 r4, Ev (fun k => impl_board.f k (n : Int) (s : Int) l) (r1, r2, r3, r4) ∧ impl_boarding_time.f r1 r2 r3 r4 = some U := by
  have hI : Inv n (s : Int) ((0 : Nat) : Int) ⟨fun _ => -1, fun _ => -1, fun _ => 0, fun _ => 0⟩ :=
    ⟨fun i _ _ => ⟨by simp, by simp; omega, by simp, by simp, by simp, fun _ => by simp; omega⟩, fun p _ _ h => by simp at h⟩
  have hb : S n (rem (s : Int) ⟨fun _ => -1, fun _ => -1, fun _ => 0, fun _ => 0⟩) ≤ ((66 : Nat) : Int) := by
    have := S_le (f := rem (s : Int) ⟨fun _ => -1, fun _ => -1, fun _ => 0, fun _ => 0⟩) n fun i i0 i1 => by
      unfold rem
      rw [if_neg (by simp)]
      simp only
      omega
    omega
  have hu : S n (un ⟨fun _ => -1, fun _ => -1, fun _ => 0, fun _ => 0⟩) = (n : Int) := by
    have : ∀ q : Nat, S q (un ⟨fun _ => -1, fun _ => -1, fun _ => 0, fun _ => 0⟩) = (q : Int) := by
      intro q
      induction q with
      | zero => rfl
      | succ q ih => simp only [S, ih, un]; rw [if_neg (by omega)]; omega
    exact this n
  obtain ⟨U, m', u1, u2, u3, u4, u5, u6, u7⟩ := run hs hn l hl hm hall 66 0 _ hb (by omega) hI
  obtain ⟨A', B', C', D', E', F', re', hR⟩ := u6 (List.replicate n (-1)) (List.replicate n (-1)) (List.replicate n 0) (List.replicate n 0) (List.replicate n 0) (List.replicate n 0) (Rp.rep n _) (Rp.rep n _) (Rp.rep n _) (by simp) (Rp.rep n _) (by simp)
  obtain ⟨r1, r2, r3, r4, e4, hB⟩ := u7 (List.replicate n (-1)) (List.replicate n 0) (List.replicate n (-1)) (List.replicate n 0) (List.replicate n 0) (List.replicate n 0) [List.replicate n (-1)] ((Rp.rep n _).to fun i _ _ => by simp [pl]) (Rp.rep n _) (Rp.rep n _) (by simp) (by simp) (by simp) rfl
  refine ⟨(U : Int), ?_, r1, r2, r3, r4, ?_, ?_⟩
  · unfold spec_l7Time.f spec_l7Run.f spec_l7Start.f
    have hst := start_loop hn (List.replicate n 0) (List.replicate n 0) (List.replicate n 0) (List.replicate n 0) n 0 (by omega)
    have hx : ∃ i, (((0 : Nat) : Int)) ≤ i ∧ i < (n : Int) ∧ m'.sat i = (U : Int) := by
      rcases u5 with ⟨e1, e2⟩ | ⟨i, i0, i1, i2⟩
      · have := u4 0 (by omega) (by omega)
        rw [e2] at this
        simp at this
      · exact ⟨i, by omega, i1, i2⟩
    have hml := most_loop hn re' (U : Int) (fun i i0 i1 => (u3.a i i0 i1).2.2.2.1) n 0 0 (by omega) (by omega) (.inr hx)
    refine evb (a := (A', B', C', D', E', F')) (evb (a := (List.replicate n (-1), List.replicate n (-1), List.replicate n 0, List.replicate n 0, List.replicate n 0, List.replicate n 0)) (evp (by omega) (evp (by omega) ?_)) hR) hml
    exact hst
  · unfold impl_board.f
    have hrep : slices_Repeat_int_int.f [(-1)] (n : Int) = some (List.replicate n (-1)) := by
      unfold slices_Repeat_int_int.f
      rw [if_pos ⟨rfl, by omega, by omega⟩]
      rfl
    have hcl : slices_Clone_int_int.f (List.replicate n (-1)) = some (List.replicate n (-1)) := by
      unfold slices_Clone_int_int.f
      rw [if_pos (by simp; omega)]
    refine evp (by omega) (evp (by omega) (evc hrep (evc hrep (evc hcl (evp (by simp) ?_)))))
    rw [hu] at hB
    exact hB
  · unfold impl_boarding_time.f
    rw [e4, w64 (by omega) (by omega)]
    congr 1
    omega
def frees (b : List Int) (j e : Nat) : List Int := ((List.range' j e).map fun i => ((i : Nat) : Int)).filter fun x => !b.contains x
/-- All orders that begin with b. -/
def allB (n : Nat) : Nat → List Int → List (List Int)
  | 0, b => [b]
  | d + 1, b => (frees b 0 n).flatMap fun c => allB n d (b ++ [c])
theorem mem_frees {b : List Int} {j e : Nat} {x : Int} : x ∈ frees b j e → ((j : Int) ≤ x ∧ x < ((j + e : Nat) : Int)) ∧ ¬ x ∈ b := by
  simp only [frees, List.mem_filter, List.mem_map, List.mem_range', Bool.not_eq_true', List.contains_eq_mem, decide_eq_false_iff_not]
  rintro ⟨⟨i, ⟨q, hq, rfl⟩, rfl⟩, h⟩
  exact ⟨⟨by omega, by omega⟩, h⟩
theorem frees_le (b : List Int) (j e : Nat) : (frees b j e).length ≤ e := by
  have := List.length_filter_le (fun x => !b.contains x) ((List.range' j e).map fun i => ((i : Nat) : Int))
  simpa [frees] using this
theorem frees_in {b : List Int} {j e : Nat} (h : (j : Int) ∈ b) : frees b j (e + 1) = frees b (j + 1) e := by
  unfold frees
  rw [List.range'_succ, List.map_cons, List.filter_cons, if_neg (by simpa using h)]
theorem frees_out {b : List Int} {j e : Nat} (h : ¬ (j : Int) ∈ b) : frees b j (e + 1) = (j : Int) :: frees b (j + 1) e := by
  unfold frees
  rw [List.range'_succ, List.map_cons, List.filter_cons, if_pos (by simpa using h)]
theorem flat_le {α β : Type} (f : α → List β) (m : Nat) : ∀ l : List α, (∀ x ∈ l, (f x).length ≤ m) → (l.flatMap f).length ≤ l.length * m
  | [], _ => by simp
  | x :: l, h => by
    have h1 := h x (by simp)
    have h2 := flat_le f m l fun y hy => h y (by simp [hy])
    rw [List.flatMap_cons, List.length_append, List.length_cons, Nat.add_mul, Nat.one_mul]
    omega
theorem allB_le {n : Nat} (hn : n ≤ 6) : ∀ (d : Nat) (b : List Int), (allB n d b).length ≤ 6 ^ d
  | 0, b => by simp [allB]
  | d + 1, b => by
    rw [allB]
    refine Nat.le_trans (flat_le _ (6 ^ d) _ fun c _ => allB_le hn d _) ?_
    have := frees_le b 0 n
    rw [Nat.pow_succ, Nat.mul_comm]
    exact Nat.mul_le_mul_left _ (by omega)
theorem pow6 {d : Nat} (h : d ≤ 6) : 6 ^ d ≤ 46656 := Nat.le_trans (Nat.pow_le_pow_right (by omega) h) (by decide)
theorem own7 (b : List Int) (h : b.length ≤ 1048576) : spec_l1Own.f b = some b := by
  unfold spec_l1Own.f
  rw [Option.bind_some, if_pos (by simp; omega)]
  simp
theorem ev_all7 {n : Nat} (hn : n ≤ 6) : ∀ (d : Nat) (b : List Int), b.length + d = n → Ev (fun k => spec_l7All.f k (n : Int) b) (allB n d b)
  | 0, b, h => by
    apply evshift
    simp only [spec_l7All.f, allB]
    exact evp (by omega) (evs _)
  | d + 1, b, h => by
    have p6 := pow6 (d := d) (by omega)
    have loop : ∀ (e j : Nat) (acc : List (List Int)), j + e = n → acc.length ≤ j * 46656 →
        Ev (fun k => spec_l7All.l0 k (n : Int) b acc (j : Int)) (acc ++ (frees b j e).flatMap fun c => allB n d (b ++ [c])) := by
      intro e
      induction e with
      | zero =>
        intro j acc hj _
        apply evshift
        simp only [spec_l7All.l0]
        refine evn (by omega) (eve (evs _) ?_)
        simp [frees]
      | succ e ih =>
        intro j acc hj ha
        have hal := allB_le hn d (b ++ [(j : Int)])
        have hm : j * 46656 ≤ 6 * 46656 := Nat.mul_le_mul_right _ (by omega)
        apply evshift
        simp only [spec_l7All.l0]
        refine evp (by omega) (evb (ev_l1Has b (j : Int) (by omega)) ?_)
        rw [wnext j (by omega)]
        by_cases c : (j : Int) ∈ b
        · rw [frees_in c]
          exact evp (by simpa using c) (ih (j + 1) acc (by omega) (Nat.le_trans ha (Nat.mul_le_mul_right _ (Nat.le_succ j))))
        · rw [frees_out c, List.flatMap_cons, ← List.append_assoc]
          refine evn (by simpa using c) (evc (own7 b (by omega)) (evp (by omega) (evb (ev_all7 hn d (b ++ [(j : Int)]) (by simp; omega)) (evp (by omega) ?_))))
          exact ih (j + 1) _ (by omega) (by rw [List.length_append, Nat.add_mul, Nat.one_mul]; omega)
    apply evshift
    simp only [spec_l7All.f, allB]
    refine evn (by omega) ?_
    have h0 := loop n 0 [] (by omega) (by simp)
    simpa using h0
theorem nodup_le : ∀ (m : Nat) (l : List Int), l.Nodup → (∀ x ∈ l, 0 ≤ x ∧ x < (m : Int)) → l.length ≤ m
  | 0, l, _, h => by
    cases l with
    | nil => simp
    | cons x l => have := h x (by simp); omega
  | m + 1, l, hd, h => by
    by_cases c : (m : Int) ∈ l
    · have h1 := nodup_le m (l.erase (m : Int)) (hd.erase _) (fun x hx => by
        rw [hd.mem_erase_iff] at hx
        have := h x hx.2
        have := hx.1
        omega)
      rw [List.length_erase_of_mem c] at h1
      omega
    · have h1 := nodup_le m l hd (fun x hx => by
        have := h x hx
        have : x ≠ (m : Int) := fun e => c (e ▸ hx)
        omega)
      omega
structure Ord (n : Nat) (l : List Int) : Prop where
  len : l.length = n
  mem : ∀ x ∈ l, 0 ≤ x ∧ x < (n : Int)
  all : ∀ i : Int, 0 ≤ i → i < (n : Int) → i ∈ l
theorem allB_ok {n : Nat} : ∀ (d : Nat) (b : List Int), b.length + d = n → b.Nodup → (∀ x ∈ b, 0 ≤ x ∧ x < (n : Int)) → ∀ l ∈ allB n d b, Ord n l
  | 0, b, h, hd, hm, l, hl => by
    simp only [allB, List.mem_singleton] at hl
    subst hl
    refine ⟨by omega, hm, fun i i0 i1 => ?_⟩
    by_cases c : i ∈ l
    · exact c
    · have := nodup_le n (i :: l) (List.nodup_cons.2 ⟨c, hd⟩) (fun x hx => by
        rcases List.mem_cons.1 hx with rfl | hx
        · exact ⟨i0, i1⟩
        · exact hm x hx)
      rw [List.length_cons] at this
      omega
  | d + 1, b, h, hd, hm, l, hl => by
    simp only [allB, List.mem_flatMap] at hl
    obtain ⟨c, hc, hl⟩ := hl
    obtain ⟨h1, h2⟩ := mem_frees hc
    refine allB_ok d (b ++ [c]) (by simp; omega) ?_ (fun x hx => ?_) l hl
    · rw [List.nodup_append]
      exact ⟨hd, by simp, fun x hx y hy => by
        rw [List.mem_singleton] at hy
        subst hy
        exact fun e => h2 (e ▸ hx)⟩
    · rw [List.mem_append, List.mem_singleton] at hx
      rcases hx with hx | rfl
      · exact hm x hx
      · omega
def cnt (tm : List Int → Int) (w : Int) (L : List (List Int)) : Int := ((L.filter fun l => decide (tm l = w)).length : Int)
theorem cnt_nil (tm : List Int → Int) (w : Int) : cnt tm w [] = 0 := rfl
theorem cnt_cons (tm : List Int → Int) (w : Int) (l : List Int) (L : List (List Int)) : cnt tm w (l :: L) = (if tm l = w then 1 else 0) + cnt tm w L := by
  unfold cnt
  rw [List.filter_cons]
  by_cases c : tm l = w
  · rw [if_pos (by simpa using c), if_pos c, List.length_cons]; omega
  · rw [if_neg (by simpa using c), if_neg c]; omega
theorem cnt_append (tm : List Int → Int) (w : Int) (L M : List (List Int)) : cnt tm w (L ++ M) = cnt tm w L + cnt tm w M := by
  unfold cnt
  rw [List.filter_append, List.length_append]
  omega
theorem cnt_le (tm : List Int → Int) (w : Int) (L : List (List Int)) : 0 ≤ cnt tm w L ∧ cnt tm w L ≤ (L.length : Int) := by
  unfold cnt
  have := List.length_filter_le (fun l => decide (tm l = w)) L
  omega
theorem rd_L1_lt {l : List (List Int)} {j : Nat} (h : j < l.length) : rd_L1 l (j : Int) = l[j] := by simp [rd_L1, List.getD, h]
theorem spec_count {n s : Nat} (hn : n ≤ 6) (hs : s ≤ 5) (tm : List Int → Int) (L : List (List Int)) (hL : L.length ≤ 46656) (ht : ∀ l ∈ L, Ev (fun k => spec_l7Time.f k (n : Int) (s : Int) l) (tm l)) : ∀ (d j : Nat) (q : Int), j + d = L.length → 0 ≤ q → q ≤ (j : Int) → Ev (fun k => spec_CountBest.l0 k (n : Int) (s : Int) q L (j : Int)) (q + cnt tm ((n : Int) + (s : Int)) (L.drop j), true)
  | 0, j, q, h, h0, h1 => by
    apply evshift
    simp only [spec_CountBest.l0]
    rw [List.drop_eq_nil_of_le (by omega), cnt_nil, Int.add_zero]
    exact evn (by omega) (evs _)
  | d + 1, j, q, h, h0, h1 => by
    have hj : j < L.length := by omega
    apply evshift
    simp only [spec_CountBest.l0]
    refine evp (by omega) (evp (by omega) (evb (a := tm L[j]) (by rw [rd_L1_lt hj]; exact ht _ (List.getElem_mem hj)) ?_))
    rw [w64 (x := (n : Int) + (s : Int)) (by omega) (by omega), wnext j (by omega), w64 (x := q + 1) (by omega) (by omega), List.drop_eq_getElem_cons hj, cnt_cons]
    by_cases c : tm L[j] = (n : Int) + (s : Int)
    · rw [if_pos c]
      refine evp c ?_
      have ih := spec_count hn hs tm L hL ht d (j + 1) (q + 1) (by omega) (by omega) (by omega)
      rwa [Int.add_assoc] at ih
    · rw [if_neg c, Int.zero_add]
      exact evn c (spec_count hn hs tm L hL ht d (j + 1) q (by omega) (by omega) (by omega))
theorem index_loop (l : List Int) (x : Int) (hl : l.length ≤ 1048576) : ∀ d j : Nat, j + d = l.length → ∃ r, Ev (fun k => slices_Index_int_int.l0 k l x (l.length : Int) (j : Int)) r ∧ (0 ≤ r ↔ x ∈ l.drop j)
  | 0, j, h => by
    refine ⟨-1, ?_, by rw [List.drop_eq_nil_of_le (by omega)]; simp⟩
    apply evshift
    simp only [slices_Index_int_int.l0]
    exact evn (by omega) (evs _)
  | d + 1, j, h => by
    obtain ⟨r, h1, h2⟩ := index_loop l x hl d (j + 1) (by omega)
    by_cases c : x = rd l (j : Int)
    · refine ⟨(j : Int), ?_, ?_⟩
      · apply evshift
        simp only [slices_Index_int_int.l0]
        exact evp (by omega) (evp (by omega) (evp (by omega) (evp c (evs _))))
      · rw [drop_cons (by omega : j < l.length)]
        simp [c]
    · refine ⟨r, ?_, ?_⟩
      · apply evshift
        simp only [slices_Index_int_int.l0]
        rw [wnext j (by omega)]
        exact evp (by omega) (evp (by omega) (evp (by omega) (evn c h1)))
      · rw [drop_cons (by omega : j < l.length), List.mem_cons]
        simp [c, h2]
theorem ev_contains7 (l : List Int) (x : Int) (hl : l.length ≤ 1048576) : Ev (fun k => slices_Contains_int_int.f k l x) (decide (x ∈ l)) := by
  obtain ⟨r, h1, h2⟩ := index_loop l x hl l.length 0 (by omega)
  unfold slices_Contains_int_int.f slices_Index_int_int.f
  refine evb h1 (eve (evs _) ?_)
  rw [List.drop_zero] at h2
  by_cases c : x ∈ l
  · rw [decide_eq_true c, decide_eq_true (by have := h2.2 c; omega)]
  · rw [decide_eq_false c, decide_eq_false (fun h => c (h2.1 (by omega)))]
/-- The closure counts what the list of all has. -/
theorem fill_is {n s : Nat} (hn : n ≤ 6) (hs : s ≤ 5) (tm : List Int → Int) (ht : ∀ l, Ord n l → ∃ r1 r2 r3 r4, Ev (fun k => impl_board.f k (n : Int) (s : Int) l) (r1, r2, r3, r4) ∧ impl_boarding_time.f r1 r2 r3 r4 = some (tm l)) : ∀ (d : Nat) (b : List Int) (c : Int), b.length + d = n → b.Nodup → (∀ x ∈ b, 0 ≤ x ∧ x < (n : Int)) → 0 ≤ c → c + ((allB n d b).length : Int) ≤ 1000000 →
    ∃ K, ∀ k, K ≤ k → ∀ j, d + 1 ≤ j → fillC k (n : Int) (s : Int) j b c = some (c + cnt tm ((n : Int) + (s : Int)) (allB n d b))
  | 0, b, c, h, hd, hm, h0, h1 => by
    have ho := allB_ok 0 b h hd hm b (by simp [allB])
    obtain ⟨r1, r2, r3, r4, ⟨K, hK⟩, hT⟩ := ht b ho
    have h1' : c + 1 ≤ 1000000 := by simpa [allB] using h1
    refine ⟨K, fun k hk j hj => ?_⟩
    obtain ⟨i, rfl⟩ : ∃ i, j = i + 1 := ⟨j - 1, by omega⟩
    have hb : impl_board.f k (n : Int) (s : Int) b = some (r1, r2, r3, r4) := hK k hk
    simp only [fillC]
    rw [if_pos (by omega), hb, Option.bind_some, hT, Option.bind_some, w64 (x := (n : Int) + (s : Int)) (by omega) (by omega), w64 (x := c + 1) (by omega) (by omega)]
    simp only [allB, cnt_cons, cnt_nil]
    by_cases e : tm b = (n : Int) + (s : Int)
    · rw [if_pos e, if_pos e]; simp
    · rw [if_neg e, if_neg e]; simp
  | d + 1, b, c, h, hd, hm, h0, h1 => by
    have p6 := pow6 (d := d) (by omega)
    have loop : ∀ (e row : Nat) (c : Int), row + e = n → 0 ≤ c → c + (((frees b row e).flatMap fun x => allB n d (b ++ [x])).length : Int) ≤ 1000000 → ∃ K, ∀ k, K ≤ k → ∀ j, d + 1 ≤ j → ∀ m, e + 1 ≤ m → fillL (fillC k (n : Int) (s : Int) j) k (n : Int) b m (row : Int) c = some (c + cnt tm ((n : Int) + (s : Int)) ((frees b row e).flatMap fun x => allB n d (b ++ [x]))) := by
      intro e
      induction e with
      | zero =>
        intro row c hr c0 c1
        refine ⟨0, fun k _ j _ m hm => ?_⟩
        obtain ⟨i, rfl⟩ : ∃ i, m = i + 1 := ⟨m - 1, by omega⟩
        simp only [fillL]
        rw [if_neg (by omega)]
        simp [frees, cnt_nil]
      | succ e ih =>
        intro row c hr c0 c1
        obtain ⟨K0, hK0⟩ := ev_contains7 b (row : Int) (by omega)
        by_cases hc : (row : Int) ∈ b
        · rw [frees_in hc] at c1
          obtain ⟨K1, hK1⟩ := ih (row + 1) c (by omega) c0 c1
          refine ⟨max K0 K1, fun k hk j hj m hm => ?_⟩
          obtain ⟨i, rfl⟩ : ∃ i, m = i + 1 := ⟨m - 1, by omega⟩
          have hb : slices_Contains_int_int.f k b (row : Int) = some (decide ((row : Int) ∈ b)) := hK0 k (by omega)
          simp only [fillL]
          rw [if_pos (by omega), hb, Option.bind_some, if_pos (by simpa using hc), frees_in hc]
          have := hK1 k (by omega) j hj i (by omega)
          rwa [show ((row + 1 : Nat) : Int) = (row : Int) + 1 by omega] at this
        · rw [frees_out hc, List.flatMap_cons, List.length_append] at c1
          have hcn := cnt_le tm ((n : Int) + (s : Int)) (allB n d (b ++ [(row : Int)]))
          obtain ⟨K2, hK2⟩ := fill_is hn hs tm ht d (b ++ [(row : Int)]) c (by simp; omega) (by
            rw [List.nodup_append]
            exact ⟨hd, by simp, fun x hx y hy => by
              rw [List.mem_singleton] at hy
              subst hy
              exact fun e => hc (e ▸ hx)⟩) (fun x hx => by
            rw [List.mem_append, List.mem_singleton] at hx
            rcases hx with hx | rfl
            · exact hm x hx
            · omega) c0 (by omega)
          obtain ⟨K1, hK1⟩ := ih (row + 1) (c + cnt tm ((n : Int) + (s : Int)) (allB n d (b ++ [(row : Int)]))) (by omega) (by omega) (by omega)
          refine ⟨max K0 (max K1 K2), fun k hk j hj m hm => ?_⟩
          obtain ⟨i, rfl⟩ : ∃ i, m = i + 1 := ⟨m - 1, by omega⟩
          have hb : slices_Contains_int_int.f k b (row : Int) = some (decide ((row : Int) ∈ b)) := hK0 k (by omega)
          simp only [fillL]
          rw [if_pos (by omega), hb, Option.bind_some, if_neg (by simpa using hc), hK2 k (by omega) j hj, Option.bind_some, frees_out hc, List.flatMap_cons, cnt_append, ← Int.add_assoc]
          have := hK1 k (by omega) j hj i (by omega)
          rwa [show ((row + 1 : Nat) : Int) = (row : Int) + 1 by omega] at this
    obtain ⟨K, hK⟩ := loop n 0 c (by omega) h0 (by simpa only [allB] using h1)
    refine ⟨max K (n + 1), fun k hk j hj => ?_⟩
    obtain ⟨i, rfl⟩ : ∃ i, j = i + 1 := ⟨j - 1, by omega⟩
    simp only [fillC, allB]
    rw [if_neg (by omega)]
    exact hK k (by omega) i (by omega) k (by omega)
theorem few_at (a0 a1 : Int) : spec_l7Few.f a0 a1 = some (decide ((1 ≤ a0 ∧ a0 ≤ 6) ∧ (1 ≤ a1 ∧ a1 ≤ 5))) := by
  unfold spec_l7Few.f spec_l7Rows.f
  rw [in_spec, Option.bind_some]
  by_cases e1 : 1 ≤ a0 ∧ a0 ≤ 10
  · rw [if_pos (by simpa using e1), in_spec, Option.bind_some, Option.bind_some]
    by_cases e2 : 1 ≤ a1 ∧ a1 ≤ 5
    · rw [if_pos (by simpa using e2)]
      congr 1
      exact decide_eq_decide.2 (by omega)
    · rw [if_neg (by simpa using e2), decide_eq_false (by omega)]
  · rw [if_neg (by simpa using e1), Option.bind_some, if_neg (by simp), decide_eq_false (by omega)]
theorem both (a0 a1 : Int) : ∃ R ok, Ev (fun k => spec_CountBest.f k a0 a1) (R, ok) ∧ Ev (fun k => impl_CountBest.f k a0 a1) (R, ok) := by
  unfold spec_CountBest.f impl_CountBest.f
  by_cases h : (1 ≤ a0 ∧ a0 ≤ 6) ∧ (1 ≤ a1 ∧ a1 ≤ 5)
  · obtain ⟨n, rfl⟩ : ∃ n : Nat, a0 = n := ⟨a0.toNat, by omega⟩
    obtain ⟨s, rfl⟩ : ∃ n : Nat, a1 = n := ⟨a1.toNat, by omega⟩
    have hn : n ≤ 6 := by omega
    have hs : s ≤ 5 := by omega
    obtain ⟨tm, htm⟩ : ∃ tm : List Int → Int, ∀ l, Ord n l → Ev (fun k => spec_l7Time.f k (n : Int) (s : Int) l) (tm l) ∧ ∃ r1 r2 r3 r4, Ev (fun k => impl_board.f k (n : Int) (s : Int) l) (r1, r2, r3, r4) ∧ impl_boarding_time.f r1 r2 r3 r4 = some (tm l) := by
      refine Classical.axiomOfChoice (r := fun (l : List Int) (U : Int) => Ord n l → Ev (fun k => spec_l7Time.f k (n : Int) (s : Int) l) U ∧ ∃ r1 r2 r3 r4, Ev (fun k => impl_board.f k (n : Int) (s : Int) l) (r1, r2, r3, r4) ∧ impl_boarding_time.f r1 r2 r3 r4 = some U) fun l => ?_
      by_cases o : Ord n l
      · obtain ⟨U, h1, h2⟩ := times (by omega) (by omega) hs hn l o.len o.mem o.all
        exact ⟨U, fun _ => ⟨h1, h2⟩⟩
      · exact ⟨0, fun h => absurd h o⟩
    have hok := allB_ok (n := n) n ([] : List Int) (by simp) (by simp) (by simp)
    have hlen : (allB n n []).length ≤ 46656 := Nat.le_trans (allB_le hn n []) (pow6 hn)
    have h1 : Ev (fun k => spec_CountBest.l0 k (n : Int) (s : Int) 0 (allB n n []) 0) (0 + cnt tm ((n : Int) + (s : Int)) (allB n n []), true) := by
      have := spec_count hn hs tm (allB n n []) hlen (fun l hl => (htm l (hok l hl)).1) (allB n n []).length 0 0 (by omega) (by omega) (by omega)
      rwa [List.drop_zero] at this
    obtain ⟨K, hK⟩ := fill_is hn hs tm (fun l o => (htm l o).2) n [] 0 (by simp) (by simp) (by simp) (by omega) (by omega)
    have h2 : Ev (fun k => fillC k (n : Int) (s : Int) k [] 0) (0 + cnt tm ((n : Int) + (s : Int)) (allB n n [])) := ⟨max K (n + 1), fun k hk => hK k (by omega) k (by omega)⟩
    refine ⟨0 + cnt tm ((n : Int) + (s : Int)) (allB n n []), true, evc (few_at _ _) (evp (decide_eq_true h) (evb (ev_all7 hn n [] (by simp)) h1)), evc (in_impl _ _ _) (evp (decide_eq_true h.1) (evc (in_impl _ _ _) (evp (decide_eq_true h.2) (evb h2 (evs _)))))⟩
  · refine ⟨0, false, evc (few_at _ _) (evn (by simpa using h) (evs _)), evc (in_impl _ _ _) ?_⟩
    by_cases e1 : 1 ≤ a0 ∧ a0 ≤ 6
    · have e2 : ¬ (1 ≤ a1 ∧ a1 ≤ 5) := fun e => h ⟨e1, e⟩
      exact evp (decide_eq_true e1) (evc (in_impl _ _ _) (evn (by simpa using e2) (evs _)))
    · exact evn (by simpa using e1) (evs _)
theorem FnExactCountBest : laws_FnExactCountBest.Pure := by
  intro a0 a1 _ _
  refine Ev.rounds (g := fun k => laws_FnExactCountBest.f k a0 a1) ?_
  unfold laws_FnExactCountBest.f
  obtain ⟨R, ok, hS, hI⟩ := both a0 a1
  exact evb hS (evb hI (evp rfl (evn (by simp) (evs _))))

end Go.Proofs.Ytoodiahlofeikaa.Pure
