/- Plain lemmas of numbers, lists and sets of seats, with no program in sight: what the pure proofs of this seat share. -/
import Derived.Test.YtjbegmeibbpnmaaWWords
import Derived.Test.YtjbegmeibbpnmaaWLast
import Derived.Test.YtjbegmeibbpnmaaWMore
import Derived.Laws.BitsLemmas
import Derived.RowKit
namespace Go.Proofs.Ytjbegmeibbpnmaa.Base
open Go.RowKit Go.Proofs.YtjbegmeibbpnmaaW.PrintWords Go.Proofs.YtjbegmeibbpnmaaW.PrintLast Go.Proofs.YtjbegmeibbpnmaaW.PrintMore

theorem evs {α : Type} (r : α) : Ev (fun _ => some r) r := Ev.now r
theorem evshift {α : Type} {g : Nat → Option α} {r : α} (h : Ev (fun k => g (k + 1)) r) : Ev g r := Ev.step (fun _ => rfl) h
theorem evp {α : Type} {c : Prop} [Decidable c] {A B : Nat → Option α} {r : α} (hc : c) (h : Ev A r) : Ev (fun k => if c then A k else B k) r := by simpa only [if_pos hc] using h
theorem evn {α : Type} {c : Prop} [Decidable c] {A B : Nat → Option α} {r : α} (hc : ¬ c) (h : Ev B r) : Ev (fun k => if c then A k else B k) r := by simpa only [if_neg hc] using h
theorem evb {α β : Type} {g : Nat → Option α} {f : Nat → α → Option β} {a : α} {r : β} (h : Ev g a) (k : Ev (fun n => f n a) r) : Ev (fun n => (g n).bind (f n)) r := Ev.bind h k
theorem evc {α β : Type} {o : Option α} {f : Nat → α → Option β} {a : α} {r : β} (h : o = some a) (k : Ev (fun n => f n a) r) : Ev (fun n => o.bind (f n)) r := by subst h; exact k
theorem eve {α : Type} {g : Nat → Option α} {r r' : α} (h : Ev g r) (e : r = r') : Ev g r' := e ▸ h
theorem evt {α : Type} {c : Prop} [Decidable c] {g : Nat → Option α} {a b : α} (hc : c) (h : Ev g a) : Ev g (if c then a else b) := by rw [if_pos hc]; exact h
theorem evf {α : Type} {c : Prop} [Decidable c] {g : Nat → Option α} {a b : α} (hc : ¬ c) (h : Ev g b) : Ev g (if c then a else b) := by rw [if_neg hc]; exact h
theorem evk {α : Type} {g : Nat → Option α} {r : α} (h : ∀ k, g k = some r) : Ev g r := ⟨0, fun k _ => h k⟩

theorem w64 {x : Int} (h : -9223372036854775808 ≤ x) (h' : x ≤ 9223372036854775807) : wrap64 x = x := by unfold wrap64; omega
theorem wnext (j : Nat) (h : j < 4611686018427387904) : wrap64 ((j : Int) + 1) = ((j + 1 : Nat) : Int) := by unfold wrap64; omega
theorem wprev (j : Nat) (h : j < 4611686018427387904) : wrap64 (((j + 1 : Nat) : Int) - 1) = (j : Int) := by unfold wrap64; omega
theorem wfb {n : Int} (h : (Lit.int .i64 n).wf = true) : -9223372036854775808 ≤ n ∧ n ≤ 9223372036854775807 := by
  simpa [Lit.wf, IntKind.min, IntKind.max, IntKind.signed, IntKind.bits] using h

theorem rd_nat (xs : List Int) (j : Nat) : rd xs (j : Int) = xs.getD j 0 := by simp [rd]
theorem rd_lt {xs : List Int} {j : Nat} (h : j < xs.length) : rd xs (j : Int) = xs[j] := by simp [rd, List.getD, h]
theorem drop_cons {xs : List Int} {j : Nat} (h : j < xs.length) : xs.drop j = rd xs (j : Int) :: xs.drop (j + 1) := by
  rw [rd_lt h]; exact List.drop_eq_getElem_cons h
theorem rd_mem {xs : List Int} {j : Nat} (h : j < xs.length) : rd xs (j : Int) ∈ xs := by rw [rd_lt h]; exact List.getElem_mem h

/-- The numbers m, m + 1, .. -/
def marks (m : Int) (n : Nat) : List Int := (List.range n).map fun i => m + ((i : Nat) : Int)
theorem marks_len (m : Int) (n : Nat) : (marks m n).length = n := by simp [marks]
theorem rd_marks {m : Int} {n j : Nat} (h : j < n) : rd (marks m n) (j : Int) = m + j := by
  rw [rd_lt (by rw [marks_len]; exact h)]; simp [marks]
theorem set_marks (m : Int) (l : List Int) (j : Nat) (h : j < l.length) : ((marks m j) ++ l.drop j).set j (m + j) = marks m (j + 1) ++ l.drop (j + 1) := by
  rw [List.drop_eq_getElem_cons h, List.set_append_right _ _ (by rw [marks_len]; exact Nat.le_refl _), marks_len, Nat.sub_self, List.set_cons_zero]
  simp only [marks, List.range_succ, List.map_append, List.map_cons, List.map_nil, List.append_assoc, List.cons_append, List.nil_append]
theorem set_copy (l : List Int) (j : Nat) (h : j < l.length) : (l.take j ++ List.replicate (l.length - j) 0).set j (rd l (j : Int)) = l.take (j + 1) ++ List.replicate (l.length - (j + 1)) 0 := by
  have e : l.length - j = (l.length - (j + 1)) + 1 := by omega
  rw [e, List.replicate_succ, List.set_append_right _ _ (by simp; omega)]
  have hl : (l.take j).length = j := by simp; omega
  rw [hl, Nat.sub_self, rd_lt h, List.set_cons_zero, List.take_succ_eq_append_getElem h, List.append_assoc]
  rfl

/-- May a list of numbers be the taken seats of a row whose greatest seat is m: from index j on. -/
def okAt (m : Int) (l : List Int) (j : Nat) : Bool := decide (0 ≤ rd l (j : Int) ∧ rd l (j : Int) ≤ m) && (decide (j = 0) || decide (rd l ((j : Int) - 1) < rd l (j : Int)))
def okFrom (m : Int) (l : List Int) : Nat → Nat → Bool
  | 0, _ => true
  | d + 1, j => okAt m l j && okFrom m l d (j + 1)
/-- Is it a row? -/
def rowB (n : Int) (ring : Bool) (l : List Int) : Bool := decide (2 ≤ n ∧ n ≤ 24) && (!ring || decide (3 ≤ n)) && okFrom (n - 1) l l.length 0
structure RowOK (n : Int) (ring : Bool) (l : List Int) : Prop where
  lo : 2 ≤ n
  hi : n ≤ 24
  ring3 : ring = true → 3 ≤ n
  mem : ∀ x ∈ l, 0 ≤ x ∧ x < n
  inc : l.Pairwise (· < ·)
theorem okFrom_at {m : Int} {l : List Int} : ∀ {d j : Nat}, okFrom m l d j = true → ∀ i, j ≤ i → i < j + d → okAt m l i = true
  | 0, j, _, i, h1, h2 => by omega
  | d + 1, j, h, i, h1, h2 => by
    simp only [okFrom, Bool.and_eq_true] at h
    by_cases e : i = j
    · subst e; exact h.1
    · exact okFrom_at h.2 i (by omega) (by omega)
theorem pairwise_of_step {l : List Int} (h : ∀ i (hi : i + 1 < l.length), l[i] < l[i + 1]) : l.Pairwise (· < ·) := by
  induction l with
  | nil => exact .nil
  | cons a t ih =>
    have ht : t.Pairwise (· < ·) := ih fun i hi => by
      have := h (i + 1) (by simpa using hi)
      simpa using this
    refine List.pairwise_cons.2 ⟨fun b hb => ?_, ht⟩
    obtain ⟨i, hi, rfl⟩ := List.getElem_of_mem hb
    induction i with
    | zero => exact h 0 (by simpa using hi)
    | succ i ih2 =>
      have h1 := ih2 (by omega) (List.getElem_mem _)
      have h2 := h (i + 1) (by simpa using hi)
      simp only [List.getElem_cons_succ] at h2
      omega
theorem rowB_ok {n : Int} {ring : Bool} {l : List Int} (h : rowB n ring l = true) : RowOK n ring l := by
  simp only [rowB, Bool.and_eq_true, Bool.or_eq_true, decide_eq_true_eq] at h
  obtain ⟨⟨⟨h1, h2⟩, h3⟩, h4⟩ := h
  have at_ : ∀ i, i < l.length → okAt (n - 1) l i = true := fun i hi => okFrom_at h4 i (Nat.zero_le _) (by omega)
  refine ⟨h1, h2, fun hr => by subst hr; simpa using h3, fun x hx => ?_, pairwise_of_step fun i hi => ?_⟩
  · obtain ⟨i, hi, rfl⟩ := List.getElem_of_mem hx
    have := at_ i hi
    simp only [okAt, Bool.and_eq_true, decide_eq_true_eq, rd_lt hi] at this
    omega
  · have := at_ (i + 1) hi
    simp only [okAt, Bool.and_eq_true, Bool.or_eq_true, decide_eq_true_eq] at this
    obtain ⟨_, h5 | h5⟩ := this
    · omega
    · have e : (((i + 1 : Nat) : Int) - 1) = (i : Int) := by omega
      rw [e, rd_lt (by omega : i < l.length), rd_lt hi] at h5
      exact h5
theorem RowOK.len {n : Int} {ring : Bool} {l : List Int} (h : RowOK n ring l) : (l.length : Int) ≤ n := by
  have hi := h.mem
  have hp := h.inc
  have : ∀ (l : List Int) (a : Int), (∀ x ∈ l, a ≤ x ∧ x < n) → l.Pairwise (· < ·) → a + l.length ≤ n ∨ l = [] := by
    intro l
    induction l with
    | nil => exact fun _ _ _ => .inr rfl
    | cons b t ih =>
      intro a hm hq
      left
      rw [List.pairwise_cons] at hq
      have hb := hm b (by simp)
      rcases ih (b + 1) (fun x hx => by have := hq.1 x hx; have := hm x (by simp [hx]); omega) hq.2 with h1 | rfl
      · simp; omega
      · simp; omega
  rcases this l 0 hi hp with h1 | rfl
  · omega
  · have := h.lo; simp; omega

/-- The seats below n that meet P, in ascending order. -/
def sel (n : Nat) (P : Nat → Bool) : List Int := ((List.range n).filter P).map fun i => ((i : Nat) : Int)
theorem mem_sel {n : Nat} {P : Nat → Bool} {x : Int} : x ∈ sel n P ↔ ∃ i : Nat, i < n ∧ P i = true ∧ x = (i : Int) := by
  simp only [sel, List.mem_map, List.mem_filter, List.mem_range]
  constructor
  · rintro ⟨i, ⟨h1, h2⟩, rfl⟩; exact ⟨i, h1, h2, rfl⟩
  · rintro ⟨i, h1, h2, rfl⟩; exact ⟨i, ⟨h1, h2⟩, rfl⟩
theorem sel_inc (n : Nat) (P : Nat → Bool) : (sel n P).Pairwise (· < ·) := by
  unfold sel
  have h : ((List.range n).filter P).Pairwise (· < ·) := List.pairwise_lt_range.filter _
  exact h.map _ fun a b hab => by omega
theorem inc_ext : ∀ {a b : List Int}, a.Pairwise (· < ·) → b.Pairwise (· < ·) → (∀ x, x ∈ a ↔ x ∈ b) → a = b
  | [], [], _, _, _ => rfl
  | [], y :: b, _, _, h => by have := (h y).2 (by simp); simp at this
  | x :: a, [], _, _, h => by have := (h x).1 (by simp); simp at this
  | x :: a, y :: b, ha, hb, h => by
    rw [List.pairwise_cons] at ha hb
    have e : x = y := by
      have h1 := (h x).1 (by simp)
      have h2 := (h y).2 (by simp)
      rw [List.mem_cons] at h1 h2
      rcases h1 with h1 | h1
      · exact h1
      · rcases h2 with h2 | h2
        · exact h2.symm
        · have := ha.1 _ h2; have := hb.1 _ h1; omega
    subst e
    rw [inc_ext ha.2 hb.2 fun z => ?_]
    have hz := h z
    simp only [List.mem_cons] at hz
    constructor
    · intro h1
      rcases hz.1 (.inr h1) with rfl | h2
      · have := ha.1 _ h1; omega
      · exact h2
    · intro h1
      rcases hz.2 (.inr h1) with rfl | h2
      · have := hb.1 _ h1; omega
      · exact h2
theorem RowOK.sel {n : Int} {ring : Bool} {l : List Int} (h : RowOK n ring l) : l = Base.sel n.toNat (fun i => decide ((i : Int) ∈ l)) := by
  refine inc_ext h.inc (sel_inc _ _) fun x => ?_
  rw [mem_sel]
  constructor
  · intro hx
    have := h.mem x hx
    exact ⟨x.toNat, by omega, by simpa [Int.toNat_of_nonneg this.1] using hx, by omega⟩
  · rintro ⟨i, _, h2, rfl⟩
    simpa using h2
theorem sel_succ (n : Nat) (P : Nat → Bool) : sel (n + 1) P = sel n P ++ (if P n = true then [(n : Int)] else []) := by
  unfold sel
  rw [List.range_succ, List.filter_append, List.map_append]
  by_cases h : P n = true <;> simp [h]
theorem sel_len_le (n : Nat) (P : Nat → Bool) : (sel n P).length ≤ n := by
  unfold sel
  rw [List.length_map]
  exact Nat.le_trans (List.length_filter_le _ _) (by simp)
theorem sel_congr {n : Nat} {P Q : Nat → Bool} (h : ∀ i, i < n → P i = Q i) : sel n P = sel n Q := by
  unfold sel
  rw [List.filter_congr fun x hx => h x (List.mem_range.1 hx)]
theorem sel_cut {n m : Nat} {P : Nat → Bool} (h : n ≤ m) (hP : ∀ i, n ≤ i → i < m → P i = false) : sel m P = sel n P := by
  induction m with
  | zero => obtain rfl : n = 0 := by omega
            rfl
  | succ m ih =>
    by_cases e : n = m + 1
    · subst e; rfl
    · rw [sel_succ, ih (by omega) (fun i h1 h2 => hP i h1 (by omega)), hP m (by omega) (by omega)]
      simp
/-! ### Sets of seats, as uint32 holds them -/
theorem u32_wraps (n : Int) (h₀ : 0 ≤ n) (h₁ : n < 2 ^ 32) : IntKind.u32.wrap n = n := by rw [IntKind.wrap_u32]; omega
theorem b_and {x y : Nat} (hx : x < 2 ^ 32) (hy : y < 2 ^ 32) : Go.bits .and .u32 (x : Int) (y : Int) = ((x &&& y : Nat) : Int) := (bits_nat .u32 32 (by decide) u32_wraps x y hx hy).1
theorem b_or {x y : Nat} (hx : x < 2 ^ 32) (hy : y < 2 ^ 32) : Go.bits .or .u32 (x : Int) (y : Int) = ((x ||| y : Nat) : Int) := (bits_nat .u32 32 (by decide) u32_wraps x y hx hy).2
theorem b_andNot {x y : Nat} (hx : x < 2 ^ 32) (hy : y < 2 ^ 32) : Go.bits .andNot .u32 (x : Int) (y : Int) = ((x &&& (2 ^ 32 - (y + 1)) : Nat) : Int) := by
  have hk : IntKind.u32.bits = 32 := rfl
  have hx' : x % 2 ^ 32 = x := Nat.mod_eq_of_lt hx
  have hy' : y % 2 ^ 32 = y := Nat.mod_eq_of_lt hy
  have e : 2 ^ 32 - 1 - y = 2 ^ 32 - (y + 1) := by omega
  have hlt : x &&& (2 ^ 32 - (y + 1)) < 2 ^ 32 := Nat.and_lt_two_pow _ (by omega)
  simp only [Go.bits, hk, BitVec.ofInt_natCast, BitVec.toNat_and, BitVec.toNat_not, BitVec.toNat_ofNat, hx', hy', e]
  exact u32_wraps _ (Int.natCast_nonneg _) (by exact_mod_cast hlt)

/-- The number whose bits below n are P. -/
def msk (P : Nat → Bool) : Nat → Nat
  | 0 => 0
  | n + 1 => msk P n + (if P n = true then 2 ^ n else 0)
theorem msk_lt (P : Nat → Bool) : ∀ n, msk P n < 2 ^ n
  | 0 => by simp [msk]
  | n + 1 => by
    have := msk_lt P n
    rw [msk, Nat.pow_succ]
    split <;> omega
theorem msk_bit (P : Nat → Bool) : ∀ n i, (msk P n).testBit i = (decide (i < n) && P i)
  | 0, i => by simp [msk]
  | n + 1, i => by
    have hl := msk_lt P n
    rw [msk]
    by_cases h : P n = true
    · rw [if_pos h, Nat.add_comm, show 2 ^ n + msk P n = 2 ^ n * 1 + msk P n by omega, Nat.testBit_two_pow_mul_add _ hl, msk_bit P n]
      by_cases h1 : i < n
      · rw [if_pos h1]; simp [h1, Nat.lt_succ_of_lt h1]
      · rw [if_neg h1]
        by_cases h2 : i = n
        · subst h2; simp [h]
        · have : i - n = (i - n - 1) + 1 := by omega
          rw [this, Nat.testBit_succ]
          simp; omega
    · rw [if_neg h, Nat.add_zero, msk_bit P n]
      by_cases h1 : i < n
      · simp [h1, Nat.lt_succ_of_lt h1]
      · by_cases h2 : i = n
        · subst h2; simp [h]
        · simp [show ¬ i < n + 1 by omega, h1]
/-- A set of seats. -/
def M (P : Nat → Bool) : Nat := msk P 32
theorem M_lt (P : Nat → Bool) : M P < 2 ^ 32 := msk_lt P 32
theorem M_bit (P : Nat → Bool) (i : Nat) : (M P).testBit i = (decide (i < 32) && P i) := msk_bit P 32 i
theorem M_of {x : Nat} {P : Nat → Bool} (hx : x < 2 ^ 32) (h : ∀ i, i < 32 → x.testBit i = P i) : x = M P := by
  refine Nat.eq_of_testBit_eq fun i => ?_
  rw [M_bit]
  by_cases hi : i < 32
  · rw [h i hi]; simp [hi]
  · rw [Nat.testBit_lt_two_pow (Nat.lt_of_lt_of_le hx (Nat.pow_le_pow_right (by decide) (by omega)))]
    simp [hi]
theorem M_congr {P Q : Nat → Bool} (h : ∀ i, i < 32 → P i = Q i) : M P = M Q := M_of (M_lt P) fun i hi => by rw [M_bit]; simp [hi, h i hi]
theorem M_or (P Q : Nat → Bool) : Go.bits .or .u32 (M P : Int) (M Q : Int) = (M (fun i => P i || Q i) : Int) := by
  rw [b_or (M_lt P) (M_lt Q)]
  exact congrArg _ (M_of (Nat.or_lt_two_pow (M_lt P) (M_lt Q)) fun i hi => by rw [Nat.testBit_or, M_bit, M_bit]; simp [hi])
theorem M_and (P Q : Nat → Bool) : Go.bits .and .u32 (M P : Int) (M Q : Int) = (M (fun i => P i && Q i) : Int) := by
  rw [b_and (M_lt P) (M_lt Q)]
  exact congrArg _ (M_of (Nat.and_lt_two_pow _ (M_lt Q)) fun i hi => by rw [Nat.testBit_and, M_bit, M_bit]; simp [hi])
theorem M_andNot (P Q : Nat → Bool) : Go.bits .andNot .u32 (M P : Int) (M Q : Int) = (M (fun i => P i && !Q i) : Int) := by
  rw [b_andNot (M_lt P) (M_lt Q)]
  have := M_lt Q
  exact congrArg _ (M_of (Nat.and_lt_two_pow _ (by omega)) fun i hi => by rw [Nat.testBit_and, M_bit, Nat.testBit_two_pow_sub_succ (M_lt Q), M_bit]; simp [hi])
theorem M_one_nat {p : Nat} (h : p < 32) : (2 ^ p : Nat) = M (fun i => decide (i = p)) :=
  M_of (Nat.pow_lt_pow_right (by decide) h) fun i _ => by
    rw [Nat.testBit_two_pow]
    by_cases e : i = p
    · subst e; simp
    · have e2 : ¬ p = i := fun h => e h.symm
      simp [e, e2]
theorem shl_one {p : Nat} (h : p < 32) : shl .u32 1 (p : Int) = ((2 ^ p : Nat) : Int) := by
  have hp : (2 : Nat) ^ p < 2 ^ 32 := Nat.pow_lt_pow_right (by decide) h
  unfold shl
  rw [Int.toNat_natCast, show IntKind.u32.bits = 32 from rfl, Nat.min_eq_left (by omega), Int.one_mul, u32_wraps]
  · simp
  · exact_mod_cast Nat.zero_le _
  · exact_mod_cast hp
theorem M_one {p : Nat} (h : p < 32) : shl .u32 1 (p : Int) = (M (fun i => decide (i = p)) : Int) := by rw [shl_one h, M_one_nat h]
theorem M_all {n : Nat} (h : n < 32) : (shl .u32 1 (n : Int) - 1) % 4294967296 = (M (fun i => decide (i < n)) : Int) := by
  have hp : (2 : Nat) ^ n < 2 ^ 32 := Nat.pow_lt_pow_right (by decide) h
  have h0 : 0 < 2 ^ n := Nat.two_pow_pos n
  rw [shl_one h]
  have e : (2 ^ n - 1 : Nat) = M (fun i => decide (i < n)) := M_of (by omega) fun i _ => by rw [Nat.testBit_two_pow_sub_one]
  rw [← e]
  omega
theorem M_zero : (0 : Int) = (M (fun _ => false) : Int) := by
  have : (0 : Nat) = M (fun _ => false) := M_of (by decide) fun i _ => by simp
  rw [← this]; rfl
theorem M_eq_zero {P : Nat → Bool} : ((M P : Nat) : Int) = 0 ↔ ∀ i, i < 32 → P i = false := by
  constructor
  · intro h i hi
    have h1 : M P = 0 := by omega
    have := M_bit P i
    rw [h1] at this
    simpa [hi] using this.symm
  · intro h
    have : M P = M (fun _ => false) := M_congr h
    rw [this, ← M_zero]
theorem M_has {P : Nat → Bool} {p : Nat} (h : p < 32) : Go.bits .and .u32 (shr .u32 (M P : Int) (p : Int)) 1 = if P p = true then 1 else 0 := by
  unfold shr
  rw [Int.toNat_natCast, show IntKind.u32.bits = 32 from rfl, Nat.min_eq_left (by omega)]
  have e : ((M P : Nat) : Int) / 2 ^ p = ((M P / 2 ^ p : Nat) : Int) := by simp
  have hlt : M P / 2 ^ p < 2 ^ 32 := Nat.lt_of_le_of_lt (Nat.div_le_self _ _) (M_lt P)
  have hb : (M P).testBit p = P p := by rw [M_bit]; simp [h]
  rw [e, show (1 : Int) = ((1 : Nat) : Int) from rfl, b_and hlt (by decide), Nat.and_one_is_mod]
  rw [Nat.testBit_eq_decide_div_mod_eq] at hb
  rw [← hb]
  by_cases h1 : M P / 2 ^ p % 2 = 1
  · simp [h1]
  · have : M P / 2 ^ p % 2 = 0 := by omega
    simp [this]

/-- What a number is above its lowest bit. -/
theorem low_form {x t : Nat} (ht : x.testBit t = true) (hl : ∀ i, i < t → x.testBit i = false) : ∃ m, x = 2 ^ t * (2 * m + 1) := by
  have h0 : x % 2 ^ t = 0 := by
    refine Nat.eq_of_testBit_eq fun i => ?_
    rw [Nat.testBit_mod_two_pow]
    by_cases hi : i < t
    · simp [hi, hl i hi]
    · simp [hi]
  rw [Nat.testBit_eq_decide_div_mod_eq, decide_eq_true_eq] at ht
  refine ⟨x / 2 ^ t / 2, ?_⟩
  have h1 := Nat.div_add_mod x (2 ^ t)
  have h2 : 2 * (x / 2 ^ t / 2) + 1 = x / 2 ^ t := by omega
  rw [h2]; omega
theorem bit_odd (m j : Nat) : (2 * m + 1).testBit (j + 1) = (2 * m).testBit (j + 1) := by
  rw [Nat.testBit_succ, Nat.testBit_succ]
  congr 1; omega
theorem low_and {x t : Nat} (ht : x.testBit t = true) (hl : ∀ i, i < t → x.testBit i = false) (i : Nat) : (x &&& (x - 1)).testBit i = (x.testBit i && decide (i ≠ t)) := by
  obtain ⟨m, rfl⟩ := low_form ht hl
  have h0 : 0 < 2 ^ t := Nat.two_pow_pos t
  have e : 2 ^ t * (2 * m + 1) - 1 = 2 ^ t * (2 * m) + (2 ^ t - 1) := by rw [Nat.mul_add]; omega
  rw [Nat.testBit_and, e, Nat.testBit_two_pow_mul_add _ (by omega : 2 ^ t - 1 < 2 ^ t)]
  by_cases h1 : i < t
  · rw [hl i h1]; simp
  · rw [if_neg h1]
    by_cases h2 : i = t
    · subst h2; simp
    · obtain ⟨j, hj⟩ : ∃ j, i - t = j + 1 := ⟨i - t - 1, by omega⟩
      rw [Nat.testBit_two_pow_mul, hj, bit_odd]
      simp [h2]
theorem low_neg {x t : Nat} (hx : x < 2 ^ 32) (ht : x.testBit t = true) (hl : ∀ i, i < t → x.testBit i = false) : x &&& (2 ^ 32 - x) = 2 ^ t := by
  obtain ⟨m, rfl⟩ := low_form ht hl
  have h0 : 0 < 2 ^ t := Nat.two_pow_pos t
  have ht32 : t < 32 := by
    rcases Nat.lt_or_ge t 32 with h | h
    · exact h
    · have := Nat.pow_le_pow_right (n := 2) (by decide) h
      have : 2 ^ t * 1 ≤ 2 ^ t * (2 * m + 1) := Nat.mul_le_mul_left _ (by omega)
      omega
  have hs : 2 ^ 32 = 2 ^ t * 2 ^ (32 - t) := by rw [← Nat.pow_add]; congr 1; omega
  have hm : 2 * m + 1 < 2 ^ (32 - t) + 0 := by
    rw [hs] at hx
    exact Nat.lt_of_mul_lt_mul_left hx
  have e : 2 ^ 32 - 2 ^ t * (2 * m + 1) = 2 ^ t * (2 ^ (32 - t) - (2 * m + 1)) := by rw [hs, Nat.mul_sub]
  rw [e]
  refine Nat.eq_of_testBit_eq fun i => ?_
  rw [Nat.testBit_and, Nat.testBit_two_pow_mul, Nat.testBit_two_pow_mul, Nat.testBit_two_pow_sub_succ (by omega : 2 * m < 2 ^ (32 - t)), Nat.testBit_two_pow]
  by_cases h1 : i < t
  · have : ¬ i ≥ t := by omega
    have h2 : ¬ t = i := by omega
    simp [this, h2]
  · by_cases h2 : i = t
    · subst h2
      simp; omega
    · obtain ⟨j, hj⟩ : ∃ j, i - t = j + 1 := ⟨i - t - 1, by omega⟩
      rw [hj, bit_odd]
      have h3 : ¬ t = i := fun h => h2 h.symm
      simp [h3]
      intro _ h; simp [h]
/-- The least number that meets P. -/
theorem least_of {P : Nat → Bool} {n : Nat} (h : ∃ i, i < n ∧ P i = true) : ∃ t, t < n ∧ P t = true ∧ ∀ i, i < t → P i = false := by
  induction n with
  | zero => obtain ⟨i, h1, _⟩ := h; omega
  | succ n ih =>
    by_cases h1 : ∃ i, i < n ∧ P i = true
    · obtain ⟨t, h2, h3, h4⟩ := ih h1
      exact ⟨t, by omega, h3, h4⟩
    · obtain ⟨i, h2, h3⟩ := h
      have e : i = n := by
        rcases Nat.lt_or_ge i n with h | h
        · exact absurd ⟨i, h, h3⟩ h1
        · omega
      subst e
      refine ⟨i, by omega, h3, fun j hj => ?_⟩
      cases hp : P j with
      | false => rfl
      | true => exact absurd ⟨j, hj, hp⟩ h1
theorem M_low {P : Nat → Bool} {t : Nat} (h32 : t < 32) (ht : P t = true) (hl : ∀ i, i < t → P i = false) :
    Go.bits .and .u32 (M P : Int) ((-(M P : Int)) % 4294967296) = ((2 ^ t : Nat) : Int) ∧
    Go.bits .and .u32 (M P : Int) (((M P : Int) - 1) % 4294967296) = (M (fun i => P i && decide (i ≠ t)) : Int) := by
  have hb : (M P).testBit t = true := by rw [M_bit]; simp [h32, ht]
  have hlow : ∀ i, i < t → (M P).testBit i = false := fun i hi => by rw [M_bit, hl i hi]; simp
  have hx := M_lt P
  have hpos : 0 < M P := by
    rcases Nat.eq_zero_or_pos (M P) with h | h
    · rw [h] at hb; simp at hb
    · exact h
  constructor
  · have e : (-(M P : Int)) % 4294967296 = ((2 ^ 32 - M P : Nat) : Int) := by omega
    rw [e, b_and hx (by omega), low_neg hx hb hlow]
  · have e : ((M P : Int) - 1) % 4294967296 = ((M P - 1 : Nat) : Int) := by omega
    rw [e, b_and hx (by omega)]
    exact congrArg _ (M_of (Nat.and_lt_two_pow _ (by omega)) fun i hi => by rw [low_and hb hlow, M_bit]; simp [hi])
theorem sel_low {P : Nat → Bool} {n t : Nat} (h : t < n) (ht : P t = true) (hl : ∀ i, i < t → P i = false) : sel n P = (t : Int) :: sel n (fun i => P i && decide (i ≠ t)) := by
  refine inc_ext (sel_inc _ _) ?_ fun x => ?_
  · refine List.pairwise_cons.2 ⟨fun y hy => ?_, sel_inc _ _⟩
    obtain ⟨i, _, h2, rfl⟩ := mem_sel.1 hy
    simp only [Bool.and_eq_true, decide_eq_true_eq] at h2
    rcases Nat.lt_or_ge i t with h3 | h3
    · rw [hl i h3] at h2; simp at h2
    · omega
  · rw [List.mem_cons, mem_sel, mem_sel]
    constructor
    · rintro ⟨i, h1, h2, rfl⟩
      by_cases e : i = t
      · subst e; exact .inl rfl
      · exact .inr ⟨i, h1, by simp [h2, e], rfl⟩
    · rintro (rfl | ⟨i, h1, h2, rfl⟩)
      · exact ⟨t, h, ht, rfl⟩
      · simp only [Bool.and_eq_true] at h2
        exact ⟨i, h1, h2.1, rfl⟩
theorem sel_none {P : Nat → Bool} {n : Nat} (h : ∀ i, i < n → P i = false) : sel n P = [] := by
  rw [sel_congr (Q := fun _ => false) h]
  simp [sel]
/-! ### Gaps -/
def gapF (n : Int) (ring : Bool) (a b : Int) : Int := if ring = true then mn (mx (a - b) (b - a)) (n - mx (a - b) (b - a)) else mx (a - b) (b - a)
theorem mx_bd {a b B : Int} (h1 : a ≤ B) (h2 : b ≤ B) (h3 : -B ≤ a) (h4 : -B ≤ b) : -B ≤ mx a b ∧ mx a b ≤ B := by unfold mx; split <;> omega
theorem gapF_bd {n a b : Int} {ring : Bool} (h1 : 0 ≤ a) (h2 : a ≤ 1048576) (h3 : 0 ≤ b) (h4 : b ≤ 1048576) (h5 : 0 ≤ n) (h6 : n ≤ 1048576) : -1048576 ≤ gapF n ring a b ∧ gapF n ring a b ≤ 1048576 := by
  unfold gapF mn mx
  repeat' split
  all_goals omega
theorem mn_spec (a b : Int) : (if a < b then some a else some b) = some (mn a b) := by
  unfold mn
  by_cases h1 : a < b
  · rw [if_pos h1, if_neg (by omega)]
  · rw [if_neg h1]
    by_cases h2 : b < a
    · rw [if_pos h2]
    · rw [if_neg h2]; congr 1; omega
theorem mx_spec (a b : Int) : (if a > b then some a else some b) = some (mx a b) := by
  unfold mx
  by_cases h1 : a < b
  · rw [if_pos h1, if_neg (by omega)]
  · rw [if_neg h1]
    by_cases h2 : a > b
    · rw [if_pos h2]
    · rw [if_neg h2]; congr 1; omega
/-- The least gap of the i-th number to those from the j-th on, d of them. -/
def lgIn (n : Int) (ring : Bool) (l : List Int) (i : Nat) : Nat → Nat → Int → Int
  | 0, _, acc => acc
  | d + 1, j, acc => lgIn n ring l i d (j + 1) (mn acc (gapF n ring (rd l (i : Int)) (rd l (j : Int))))
def lgOut (n : Int) (ring : Bool) (l : List Int) : Nat → Nat → Int → Int
  | 0, _, acc => acc
  | d + 1, i, acc => lgOut n ring l d (i + 1) (lgIn n ring l i i 0 acc)
theorem rd_take {l : List Int} {i j : Nat} (h : j < i) (hl : i ≤ l.length) : rd (l.take i) (j : Int) = rd l (j : Int) := by
  rw [rd_lt (by simp; omega), rd_lt (by omega)]
  simp
theorem rd_bd {l : List Int} {n : Int} (h : ∀ x ∈ l, 0 ≤ x ∧ x < n) {j : Nat} (hj : j < l.length) : 0 ≤ rd l (j : Int) ∧ rd l (j : Int) < n := h _ (rd_mem hj)
/-! ### The nearest one of a list -/
def nearF (n : Int) (ring : Bool) (p : Int) (l : List Int) : Nat → Nat → Int → Int → Int × Int
  | 0, _, b, m => (b, m)
  | d + 1, j, b, m => if m < 0 ∨ gapF n ring p (rd l (j : Int)) < m then nearF n ring p l d (j + 1) (rd l (j : Int)) (gapF n ring p (rd l (j : Int))) else nearF n ring p l d (j + 1) b m
theorem gapF_nonneg {n a b : Int} {ring : Bool} (h1 : 0 ≤ a) (h2 : a < n) (h3 : 0 ≤ b) (h4 : b < n) : 0 ≤ gapF n ring a b ∧ gapF n ring a b ≤ n := by
  unfold gapF mn mx
  repeat' split
  all_goals omega
theorem nearF_pos {n p : Int} {ring : Bool} {l : List Int} (h1 : 0 ≤ p) (h2 : p < n) (hm : ∀ x ∈ l, 0 ≤ x ∧ x < n) : ∀ d j b m, j + d ≤ l.length → (0 < d ∨ 0 ≤ m) → m ≤ n → 0 ≤ (nearF n ring p l d j b m).2 ∧ (nearF n ring p l d j b m).2 ≤ n
  | 0, j, b, m, _, h, hn => by rcases h with h | h; exact absurd h (by omega); exact ⟨h, hn⟩
  | d + 1, j, b, m, hj, h, hn => by
    have r := rd_bd hm (by omega : j < l.length)
    have g := gapF_nonneg (ring := ring) h1 h2 r.1 r.2
    unfold nearF
    by_cases c : m < 0 ∨ gapF n ring p (rd l (j : Int)) < m
    · rw [if_pos c]; exact nearF_pos h1 h2 hm d (j + 1) _ _ (by omega) (.inr g.1) g.2
    · rw [if_neg c]; exact nearF_pos h1 h2 hm d (j + 1) _ _ (by omega) (.inr (by omega)) hn
theorem nearF_start {n p : Int} {ring : Bool} {l : List Int} (d j : Nat) (b b' : Int) (h : 0 < d) : nearF n ring p l d j b (-1) = nearF n ring p l d j b' (-1) := by
  cases d with
  | zero => omega
  | succ d => unfold nearF; rw [if_pos (.inl (by omega)), if_pos (.inl (by omega))]
theorem RowOK.sel32 {n : Int} {ring : Bool} {l : List Int} (h : RowOK n ring l) : Base.sel 32 (fun i => decide ((i : Int) ∈ l)) = l := by
  refine inc_ext (sel_inc _ _) h.inc fun x => ?_
  rw [mem_sel]
  constructor
  · rintro ⟨i, _, h2, rfl⟩; simpa using h2
  · intro hx
    have := h.mem x hx
    have := h.hi
    exact ⟨x.toNat, by omega, by simpa [Int.toNat_of_nonneg (h.mem x hx).1] using hx, by omega⟩
theorem RowOK.m32 {n : Int} {ring : Bool} {l : List Int} (h : RowOK n ring l) : ∀ x ∈ l, 0 ≤ x ∧ x < 32 := fun x hx => by
  have := h.mem x hx; have := h.hi; omega
theorem okFrom_mk {m : Int} {l : List Int} (h : ∀ i, i < l.length → okAt m l i = true) : ∀ d j, j + d ≤ l.length → okFrom m l d j = true
  | 0, _, _ => rfl
  | d + 1, j, hj => by
    simp only [okFrom, Bool.and_eq_true]
    exact ⟨h j (by omega), okFrom_mk h d (j + 1) (by omega)⟩
theorem rowB_mk {n : Int} {ring : Bool} {l : List Int} (h : RowOK n ring l) : rowB n ring l = true := by
  simp only [rowB, Bool.and_eq_true, Bool.or_eq_true, decide_eq_true_eq]
  refine ⟨⟨⟨h.lo, h.hi⟩, ?_⟩, okFrom_mk (fun i hi => ?_) _ _ (by omega)⟩
  · cases ring with
    | true => exact .inr (h.ring3 rfl)
    | false => exact .inl rfl
  · have hm := h.mem _ (rd_mem hi)
    simp only [okAt, Bool.and_eq_true, Bool.or_eq_true, decide_eq_true_eq]
    refine ⟨by omega, ?_⟩
    by_cases e : i = 0
    · exact .inl e
    · right
      have e1 : ((i : Int) - 1) = ((i - 1 : Nat) : Int) := by omega
      rw [e1, rd_lt (by omega : i - 1 < l.length), rd_lt hi]
      exact List.pairwise_iff_getElem.1 h.inc (i - 1) i (by omega) hi (by omega)
theorem sel_32 {n : Nat} {P : Nat → Bool} (hn : n ≤ 32) : Base.sel 32 (fun i => decide (i < n) && P i) = Base.sel n P := by
  rw [sel_cut (n := n) hn (fun i h1 _ => by simp [Nat.not_lt.2 h1])]
  exact sel_congr fun i h1 => by simp [h1]
/-- Twice a set: each seat one further. -/
theorem M_twice (P : Nat → Bool) : ((M P : Int) * 2) % 4294967296 = (M (fun i => decide (0 < i) && P (i - 1)) : Int) := by
  have e : ((M P : Int) * 2) % 4294967296 = ((M P * 2 % 2 ^ 32 : Nat) : Int) := by omega
  rw [e]
  refine congrArg _ (M_of (Nat.mod_lt _ (by decide)) fun i hi => ?_)
  rw [Nat.testBit_mod_two_pow, Nat.mul_comm, show (2 : Nat) * M P = 2 ^ 1 * M P by omega, Nat.testBit_two_pow_mul, M_bit]
  by_cases h0 : 0 < i
  · simp [hi, h0, show 1 ≤ i by omega, show i - 1 < 32 by omega]
  · have : i = 0 := by omega
    subst this; simp
/-! ### Counts, and sets told twice -/
theorem sel_count (n : Nat) (P : Nat → Bool) : (sel n P).length + (sel n fun i => !P i).length = n := by
  induction n with
  | zero => rfl
  | succ n ih => rw [sel_succ, sel_succ]; cases h : P n <;> simp <;> omega
/-- A list that ascends, told as the seats below m that meet P. -/
theorem sel_is {m : Nat} {P : Nat → Bool} {l : List Int} (hp : l.Pairwise (· < ·)) (h : ∀ x, x ∈ l ↔ ∃ i : Nat, i < m ∧ P i = true ∧ x = (i : Int)) : Base.sel m P = l :=
  inc_ext (sel_inc _ _) hp fun x => by rw [mem_sel, h]

end Go.Proofs.Ytjbegmeibbpnmaa.Base
