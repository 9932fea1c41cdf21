/- The law laws.FnExactFinalRows, told as plain Lean functions of numbers, lists and strings, answers true for every input, if enough rounds are given: the program's FinalRows answers what the reference's answers. Conditions: none but the kinds' own (each number one of its kind, each length one that the model reads). -/
import Derived.Test.YtihifglmnjocfaaDoorPFnExactFinalRowsx15
import Derived.Test.YtihifglmnjocfaaDoorSFnExactFinalRows
namespace Go.Proofs.YtihifglmnjocfaaDoor.Pure
open Go.RowKit Go.Proofs.YtihifglmnjocfaaDoor.PFnExactFinalRows Go.Proofs.YtihifglmnjocfaaDoorW.PrintWords Go.Proofs.YtihifglmnjocfaaDoorW.PrintLast Go.Proofs.YtihifglmnjocfaaDoorW.PrintMore Go.Proofs.YtihifglmnjocfaaDoor.Base

/-- The sum over a list. -/
def qsum {α : Type} (f : α → Rat) : List α → Rat
  | [] => 0
  | a :: l => f a + qsum f l
theorem qsum_congr {α : Type} {f g : α → Rat} : ∀ {l : List α}, (∀ a ∈ l, f a = g a) → qsum f l = qsum g l
  | [], _ => rfl
  | a :: l, h => by
    simp only [qsum]
    rw [h a (by simp), qsum_congr fun b hb => h b (by simp [hb])]
theorem qsum_append {α : Type} (f : α → Rat) : ∀ (l r : List α), qsum f (l ++ r) = qsum f l + qsum f r
  | [], r => by simp [qsum]; grind
  | a :: l, r => by
    simp only [List.cons_append, qsum]
    rw [qsum_append f l r]
    grind
theorem qsum_mul {α : Type} (f : α → Rat) (c : Rat) : ∀ (l : List α), qsum (fun a => c * f a) l = c * qsum f l
  | [] => by simp [qsum]
  | a :: l => by
    simp only [qsum]
    rw [qsum_mul f c l]
    grind
/-! Seats that fill at random: what a set F comes to, from the seats A that are lonely on. -/
theorem qsum_perm {α : Type} (f : α → Rat) {l r : List α} (h : l.Perm r) : qsum f l = qsum f r := by
  induction h with
  | nil => rfl
  | cons x _ ih => simp only [qsum]; rw [ih]
  | swap x y l => simp only [qsum]; grind
  | trans _ _ h1 h2 => exact h1.trans h2
theorem qsum_map {α β : Type} (f : β → Rat) (g : α → β) : ∀ l : List α, qsum f (l.map g) = qsum (fun a => f (g a)) l
  | [] => rfl
  | a :: l => by simp only [List.map_cons, qsum]; rw [qsum_map f g l]
theorem qsum_zero {α : Type} {f : α → Rat} : ∀ {l : List α}, (∀ a ∈ l, f a = 0) → qsum f l = 0
  | [], _ => rfl
  | a :: l, h => by
    simp only [qsum]
    rw [h a (by simp), qsum_zero fun b hb => h b (by simp [hb])]
    grind
theorem qsum_add {α : Type} (f g : α → Rat) : ∀ l : List α, qsum (fun a => f a + g a) l = qsum f l + qsum g l
  | [] => by simp [qsum]; grind
  | a :: l => by simp only [qsum]; rw [qsum_add f g l]; grind
theorem qsum_swap {α β : Type} (f : α → β → Rat) (m : List β) : ∀ l : List α, qsum (fun a => qsum (fun b => f a b) m) l = qsum (fun b => qsum (fun a => f a b) l) m
  | [] => by simp only [qsum]; exact (qsum_zero fun _ _ => rfl).symm
  | a :: l => by
    simp only [qsum]
    rw [qsum_swap f m l, ← qsum_add]
def okF (adj : Nat → Nat → Bool) (F : Nat → Bool) (A : List Nat) (p : Nat) : Bool := F p && A.all fun q => !(adj p q && F q)
def restF (adj : Nat → Nat → Bool) (A : List Nat) (p : Nat) : List Nat := A.filter fun q => !(q == p || adj p q)
def vf (adj : Nat → Nat → Bool) (F : Nat → Bool) : Nat → List Nat → Rat
  | 0, _ => 1
  | d + 1, A => if A = [] then 1 else qsum (fun p => if okF adj F A p = true then vf adj F d (restF adj A p) else 0) A / ((A.length : Nat) : Rat)
def Vq (adj : Nat → Nat → Bool) (F : Nat → Bool) (A : List Nat) : Rat := vf adj F A.length A
theorem natCast_nez {m : Nat} (h : 0 < m) : ((m : Nat) : Rat) ≠ 0 := by
  intro e
  have : ((m : Nat) : Rat) = ((0 : Nat) : Rat) := e
  rw [Rat.natCast_inj] at this
  omega
section
variable {adj : Nat → Nat → Bool} {F : Nat → Bool}
theorem rest_lt {A : List Nat} {p : Nat} (h : p ∈ A) : (restF adj A p).length < A.length := by
  unfold restF
  rw [List.length_filter_lt_length_iff_exists]
  exact ⟨p, h, by simp⟩
theorem vf_fuel : ∀ (d : Nat) (A : List Nat), A.length ≤ d → vf adj F (d + 1) A = vf adj F d A
  | 0, A, h => by
    have : A = [] := List.eq_nil_of_length_eq_zero (by omega)
    subst this
    simp [vf]
  | d + 1, A, h => by
    rw [vf]
    conv => rhs; rw [vf]
    by_cases hA : A = []
    · rw [if_pos hA, if_pos hA]
    · rw [if_neg hA, if_neg hA]
      congr 1
      refine qsum_congr fun p hp => ?_
      have := rest_lt (adj := adj) hp
      rw [vf_fuel d (restF adj A p) (by omega)]
theorem Vq_eq : ∀ (e : Nat) (A : List Nat), vf adj F (A.length + e) A = Vq adj F A
  | 0, A => rfl
  | e + 1, A => by rw [← Nat.add_assoc, vf_fuel _ _ (by omega), Vq_eq e A]
theorem Vq_le {d : Nat} {A : List Nat} (h : A.length ≤ d) : vf adj F d A = Vq adj F A := by
  have := Vq_eq (adj := adj) (F := F) (d - A.length) A
  rwa [show A.length + (d - A.length) = d by omega] at this
theorem Vq_nil : Vq adj F [] = 1 := rfl
theorem Vq_step {A : List Nat} (h : A ≠ []) : ((A.length : Nat) : Rat) * Vq adj F A = qsum (fun p => if okF adj F A p = true then Vq adj F (restF adj A p) else 0) A := by
  obtain ⟨n, hn⟩ : ∃ n, A.length = n + 1 := ⟨A.length - 1, by have := List.length_pos_iff.2 h; omega⟩
  have hne := natCast_nez (m := A.length) (by omega)
  have e : Vq adj F A = qsum (fun p => if okF adj F A p = true then Vq adj F (restF adj A p) else 0) A / ((A.length : Nat) : Rat) := by
    conv => lhs; unfold Vq
    rw [hn]
    rw [vf, if_neg h]
    rw [← hn]
    congr 1
    refine qsum_congr fun p hp => ?_
    have := rest_lt (adj := adj) hp
    rw [Vq_le (by omega)]
  rw [e]
  grind
theorem okF_perm {A B : List Nat} (h : A.Perm B) (p : Nat) : okF adj F A p = okF adj F B p := by
  unfold okF
  congr 1
  rw [Bool.eq_iff_iff, List.all_eq_true, List.all_eq_true]
  exact ⟨fun a q hq => a q (h.mem_iff.2 hq), fun a q hq => a q (h.mem_iff.1 hq)⟩
theorem vf_perm : ∀ (d : Nat) {A B : List Nat}, A.Perm B → vf adj F d A = vf adj F d B
  | 0, _, _, _ => rfl
  | d + 1, A, B, h => by
    rw [vf, vf]
    by_cases hA : A = []
    · subst hA
      have hB : B = [] := by simpa using h.symm
      rw [if_pos rfl, if_pos hB]
    · have hB : ¬ B = [] := fun e => hA (by subst e; simpa using h)
      rw [if_neg hA, if_neg hB, h.length_eq]
      congr 1
      rw [qsum_perm _ h]
      refine qsum_congr fun p _ => ?_
      rw [okF_perm h p, show vf adj F d (restF adj A p) = vf adj F d (restF adj B p) from vf_perm d (h.filter _)]
theorem Vq_perm {A B : List Nat} (h : A.Perm B) : Vq adj F A = Vq adj F B := by
  unfold Vq
  rw [h.length_eq]
  exact vf_perm _ h
theorem rest_append (A B : List Nat) (p : Nat) : restF adj (A ++ B) p = restF adj A p ++ restF adj B p := List.filter_append ..
theorem rest_self {B : List Nat} {p : Nat} (h : ∀ q ∈ B, adj p q = false ∧ q ≠ p) : restF adj B p = B := by
  unfold restF
  rw [List.filter_eq_self]
  intro q hq
  obtain ⟨h1, h2⟩ := h q hq
  simp [h1, h2]
theorem ok_left {A B : List Nat} {p : Nat} (h : ∀ q ∈ B, adj p q = false) : okF adj F (A ++ B) p = okF adj F A p := by
  unfold okF
  rw [List.all_append]
  have : (B.all fun q => !(adj p q && F q)) = true := List.all_eq_true.2 fun q hq => by rw [h q hq]; rfl
  rw [this, Bool.and_true]
theorem ok_right {A B : List Nat} {p : Nat} (h : ∀ q ∈ A, adj p q = false) : okF adj F (A ++ B) p = okF adj F B p := by
  unfold okF
  rw [List.all_append]
  have : (A.all fun q => !(adj p q && F q)) = true := List.all_eq_true.2 fun q hq => by rw [h q hq]; rfl
  rw [this, Bool.true_and]
/-- What lies apart comes to the product. -/
theorem Vq_append : ∀ (d : Nat) (A B : List Nat), A.length + B.length ≤ d → (∀ p ∈ A, ∀ q ∈ B, adj p q = false ∧ adj q p = false ∧ p ≠ q) → Vq adj F (A ++ B) = Vq adj F A * Vq adj F B
  | 0, A, B, h, _ => by
    have h1 : A = [] := List.eq_nil_of_length_eq_zero (by omega)
    have h2 : B = [] := List.eq_nil_of_length_eq_zero (by omega)
    subst h1; subst h2
    simp [Vq_nil]
  | d + 1, A, B, h, hap => by
    by_cases hA : A = []
    · subst hA; simp [Vq_nil]
    by_cases hB : B = []
    · subst hB; simp [Vq_nil]
    have hne : A ++ B ≠ [] := by simp [hA]
    have hs := Vq_step (adj := adj) (F := F) hne
    have hsA := Vq_step (adj := adj) (F := F) hA
    have hsB := Vq_step (adj := adj) (F := F) hB
    rw [qsum_append] at hs
    have e1 : qsum (fun p => if okF adj F (A ++ B) p = true then Vq adj F (restF adj (A ++ B) p) else 0) A = qsum (fun p => Vq adj F B * (if okF adj F A p = true then Vq adj F (restF adj A p) else 0)) A := by
      refine qsum_congr fun p hp => ?_
      rw [ok_left fun q hq => (hap p hp q hq).1, rest_append, rest_self (B := B) fun q hq => ⟨(hap p hp q hq).1, fun e => (hap p hp q hq).2.2 e.symm⟩]
      have hlt := rest_lt (adj := adj) hp
      rw [Vq_append d (restF adj A p) B (by omega) fun x hx y hy => hap x (List.mem_filter.1 hx).1 y hy]
      split <;> grind
    have e2 : qsum (fun p => if okF adj F (A ++ B) p = true then Vq adj F (restF adj (A ++ B) p) else 0) B = qsum (fun p => Vq adj F A * (if okF adj F B p = true then Vq adj F (restF adj B p) else 0)) B := by
      refine qsum_congr fun p hp => ?_
      rw [ok_right fun q hq => (hap q hq p hp).2.1, rest_append, rest_self (B := A) fun q hq => ⟨(hap q hq p hp).2.1, (hap q hq p hp).2.2⟩]
      have hlt := rest_lt (adj := adj) hp
      rw [Vq_append d A (restF adj B p) (by omega) fun x hx y hy => hap x hx y (List.mem_filter.1 hy).1]
      split <;> grind
    rw [e1, e2, qsum_mul, qsum_mul, ← hsA, ← hsB, List.length_append, Rat.natCast_add] at hs
    have h1 := natCast_nez (m := A.length + B.length) (by have := List.length_pos_iff.2 hA; omega)
    rw [Rat.natCast_add] at h1
    generalize ((A.length : Nat) : Rat) = a at *
    generalize ((B.length : Nat) : Rat) = b at *
    generalize Vq adj F (A ++ B) = x at *
    generalize Vq adj F A = y at *
    generalize Vq adj F B = z at *
    have : (a + b) * (x - y * z) = 0 := by grind
    grind
end
/-- The same seats by other names. -/
theorem vf_map {adj adj' : Nat → Nat → Bool} {F : Nat → Bool} (φ : Nat → Nat) : ∀ (d : Nat) (A : List Nat), (∀ i ∈ A, ∀ j ∈ A, adj' (φ i) (φ j) = adj i j ∧ (φ i = φ j → i = j)) → vf adj' F d (A.map φ) = vf adj (fun i => F (φ i)) d A
  | 0, _, _ => rfl
  | d + 1, A, h => by
    rw [vf, vf]
    by_cases hA : A = []
    · subst hA; simp
    · rw [if_neg hA, if_neg (by simpa using hA), List.length_map, qsum_map]
      congr 1
      refine qsum_congr fun p hp => ?_
      have e1 : okF adj' F (A.map φ) (φ p) = okF adj (fun i => F (φ i)) A p := by
        unfold okF
        congr 1
        rw [List.all_map, Bool.eq_iff_iff, List.all_eq_true, List.all_eq_true]
        constructor
        · intro a q hq
          have := a q hq
          simp only [Function.comp] at this
          rwa [(h p hp q hq).1] at this
        · intro a q hq
          have := a q hq
          simp only [Function.comp]
          rwa [(h p hp q hq).1]
      have e2 : restF adj' (A.map φ) (φ p) = (restF adj A p).map φ := by
        unfold restF
        rw [List.filter_map]
        congr 1
        refine List.filter_congr fun q hq => ?_
        simp only [Function.comp]
        rw [(h p hp q hq).1]
        by_cases e : q = p
        · simp [e]
        · have : φ q ≠ φ p := fun he => e ((h q hq p hp).2 he)
          rw [beq_eq_false_iff_ne.mpr e, beq_eq_false_iff_ne.mpr this]
      rw [e1, e2, vf_map φ d (restF adj A p) fun i hi j hj => h i (List.mem_filter.1 hi).1 j (List.mem_filter.1 hj).1]
theorem Vq_map {adj adj' : Nat → Nat → Bool} {F : Nat → Bool} (φ : Nat → Nat) (A : List Nat) (h : ∀ i ∈ A, ∀ j ∈ A, adj' (φ i) (φ j) = adj i j ∧ (φ i = φ j → i = j)) : Vq adj' F (A.map φ) = Vq adj (fun i => F (φ i)) A := by
  unfold Vq
  rw [List.length_map]
  exact vf_map φ _ A h
theorem vf_congr {adj : Nat → Nat → Bool} {F G : Nat → Bool} : ∀ (d : Nat) (A : List Nat), (∀ i ∈ A, F i = G i) → vf adj F d A = vf adj G d A
  | 0, _, _ => rfl
  | d + 1, A, h => by
    rw [vf, vf]
    by_cases hA : A = []
    · rw [if_pos hA, if_pos hA]
    · rw [if_neg hA, if_neg hA]
      congr 1
      refine qsum_congr fun p hp => ?_
      have e1 : okF adj F A p = okF adj G A p := by
        unfold okF
        rw [h p hp]
        congr 1
        rw [Bool.eq_iff_iff, List.all_eq_true, List.all_eq_true]
        exact ⟨fun a q hq => by have := a q hq; rwa [h q hq] at this, fun a q hq => by have := a q hq; rwa [h q hq]⟩
      rw [e1, vf_congr d (restF adj A p) fun i hi => h i (List.mem_filter.1 hi).1]
theorem Vq_congr {adj : Nat → Nat → Bool} {F G : Nat → Bool} {A : List Nat} (h : ∀ i ∈ A, F i = G i) : Vq adj F A = Vq adj G A := vf_congr _ _ h
/-! The reference's lists of sets and chances. -/
def adjP (i j : Nat) : Bool := i + 1 == j || j + 1 == i
/-- Does s hold just those below m that T holds? -/
def msT (m : Nat) (T : Nat → Bool) (s : List Nat) : Bool := (List.range m).all fun j => decide (j ∈ s) == T j
theorem msT_iff {m : Nat} {T : Nat → Bool} {s : List Nat} : msT m T s = true ↔ ∀ j, j < m → (j ∈ s ↔ T j = true) := by
  unfold msT
  rw [List.all_eq_true]
  constructor
  · intro h j hj
    have := h j (List.mem_range.2 hj)
    simp only [beq_iff_eq] at this
    rw [← this, decide_eq_true_eq]
  · intro h j hj
    have := h j (List.mem_range.1 hj)
    simp only [beq_iff_eq]
    rw [Bool.eq_iff_iff, decide_eq_true_eq]
    exact this
def EM (M : List Nat → Bool) (S : List (List Nat × Rat)) : Rat := qsum (fun x => if M x.1 = true then x.2 else 0) S
def addS : List (List Nat × Rat) → List Nat → Rat → List (List Nat × Rat)
  | [], s, c => [(s, c)]
  | x :: r, s, c => if x.1 = s then (x.1, x.2 + c) :: r else x :: addS r s c
theorem EM_add (M : List Nat → Bool) (s : List Nat) (c : Rat) : ∀ S, EM M (addS S s c) = EM M S + (if M s = true then c else 0)
  | [] => by simp only [addS, EM, qsum]; grind
  | x :: r => by
    unfold addS
    by_cases e : x.1 = s
    · rw [if_pos e]
      simp only [EM, qsum, e]
      by_cases h : M s = true
      · simp only [h, if_true]; grind
      · simp only [h, if_false, Bool.false_eq_true]; grind
    · rw [if_neg e]
      have ih := EM_add M s c r
      simp only [EM, qsum] at ih ⊢
      rw [ih]
      grind
theorem EM_foldl {α : Type} (M : List Nat → Bool) {f : List (List Nat × Rat) → α → List (List Nat × Rat)} {h : α → Rat} : ∀ (l : List α) (S : List (List Nat × Rat)), (∀ S, ∀ x ∈ l, EM M (f S x) = EM M S + h x) → EM M (l.foldl f S) = EM M S + qsum h l
  | [], S, _ => by simp only [List.foldl_nil, qsum]; grind
  | a :: l, S, hf => by
    rw [List.foldl_cons, EM_foldl M l (f S a) fun S x hx => hf S x (by simp [hx]), hf S a (by simp)]
    simp only [qsum]
    grind
/-- What holds of a list of sets: the sets are below n and rise, the chances are more than nothing, no set is there twice. -/
structure SetOk (n : Nat) (S : List (List Nat × Rat)) : Prop where
  low : ∀ x ∈ S, ∀ j ∈ x.1, j < n
  inc : ∀ x ∈ S, x.1.Pairwise (· < ·)
  pos : ∀ x ∈ S, 0 < x.2
  one : S.Pairwise fun x y => x.1 ≠ y.1
theorem mem_addS {s : List Nat} {c : Rat} {x : List Nat × Rat} : ∀ {S}, x ∈ addS S s c → x.1 = s ∨ x ∈ S
  | [], h => by simp [addS] at h; left; rw [h]
  | y :: r, h => by
    unfold addS at h
    by_cases e : y.1 = s
    · rw [if_pos e] at h
      rcases List.mem_cons.1 h with rfl | h
      · exact .inl e
      · exact .inr (by simp [h])
    · rw [if_neg e] at h
      rcases List.mem_cons.1 h with rfl | h
      · exact .inr (by simp)
      · exact (mem_addS h).imp id (fun h => by simp [h])
theorem pos_addS {s : List Nat} {c : Rat} (hc : 0 < c) {x : List Nat × Rat} : ∀ {S}, (∀ x ∈ S, 0 < x.2) → x ∈ addS S s c → 0 < x.2
  | [], _, h => by simp [addS] at h; rw [h]; exact hc
  | y :: r, hp, h => by
    unfold addS at h
    by_cases e : y.1 = s
    · rw [if_pos e] at h
      rcases List.mem_cons.1 h with rfl | h
      · have := hp y (by simp)
        show 0 < y.2 + c
        grind
      · exact hp x (by simp [h])
    · rw [if_neg e] at h
      rcases List.mem_cons.1 h with rfl | h
      · exact hp _ (by simp)
      · exact pos_addS hc (fun z hz => hp z (by simp [hz])) h
theorem one_addS {s : List Nat} {c : Rat} : ∀ {S : List (List Nat × Rat)}, S.Pairwise (fun x y => x.1 ≠ y.1) → (addS S s c).Pairwise fun x y => x.1 ≠ y.1
  | [], _ => by simp [addS]
  | y :: r, h => by
    obtain ⟨h1, h2⟩ := List.pairwise_cons.1 h
    unfold addS
    by_cases e : y.1 = s
    · rw [if_pos e]
      exact List.pairwise_cons.2 ⟨fun z hz => h1 z hz, h2⟩
    · rw [if_neg e]
      refine List.pairwise_cons.2 ⟨fun z hz => ?_, one_addS h2⟩
      rcases mem_addS hz with h | h
      · rw [h]; exact e
      · exact h1 z h
theorem SetOk.add {n : Nat} {S : List (List Nat × Rat)} (h : SetOk n S) {s : List Nat} {c : Rat} (h1 : ∀ j ∈ s, j < n) (h2 : s.Pairwise (· < ·)) (h3 : 0 < c) : SetOk n (addS S s c) :=
  ⟨fun x hx => by rcases mem_addS hx with e | e; (rw [e]; exact h1); exact h.low x e, fun x hx => by rcases mem_addS hx with e | e; (rw [e]; exact h2); exact h.inc x e, fun x hx => pos_addS h3 h.pos hx, one_addS h.one⟩
theorem SetOk.nil (n : Nat) : SetOk n [] := ⟨by simp, by simp, by simp, by simp⟩
theorem SetOk.unit (n : Nat) : SetOk n [([], 1)] := ⟨by simp, by simp, fun x hx => by simp at hx; rw [hx]; decide, by simp⟩
theorem foldl_ok {α : Type} {P : List (List Nat × Rat) → Prop} {f : List (List Nat × Rat) → α → List (List Nat × Rat)} : ∀ (l : List α) (S : List (List Nat × Rat)), P S → (∀ S, ∀ x ∈ l, P S → P (f S x)) → P (l.foldl f S)
  | [], _, h, _ => h
  | a :: l, S, h, hf => by
    rw [List.foldl_cons]
    exact foldl_ok l _ (hf S a (by simp) h) fun S x hx => hf S x (by simp [hx])
def joinS (k : Nat) (x y : List Nat) : List Nat := x ++ k :: y.map fun j => k + 2 + j
def setS : Nat → Nat → List (List Nat × Rat)
  | 0, _ => [([], 1)]
  | d + 1, n => if n = 0 then [([], 1)] else (List.range n).foldl (fun S k => (setS d (k - 1)).foldl (fun S x => (setS d (n - k - 2)).foldl (fun S y => addS S (joinS k x.1 y.1) (x.2 * y.2 * (1 / ((n : Nat) : Rat)))) S) S) []
theorem inv_pos {n : Nat} (h : 0 < n) : (0 : Rat) < 1 / ((n : Nat) : Rat) := by
  have h1 : (0 : Rat) < ((n : Nat) : Rat) := by exact_mod_cast h
  rw [Rat.div_def, Rat.one_mul]
  exact Rat.inv_pos.2 h1
theorem setS_ok : ∀ (d n : Nat), SetOk n (setS d n)
  | 0, n => SetOk.unit n
  | d + 1, n => by
    unfold setS
    by_cases hn : n = 0
    · rw [if_pos hn]; exact SetOk.unit n
    · rw [if_neg hn]
      refine foldl_ok _ _ (SetOk.nil n) fun S k hk hS => foldl_ok _ _ hS fun S x hx hS => foldl_ok _ _ hS fun S y hy hS => ?_
      have hkn := List.mem_range.1 hk
      have ox := setS_ok d (k - 1)
      have oy := setS_ok d (n - k - 2)
      refine hS.add (fun j hj => ?_) ?_ ?_
      · unfold joinS at hj
        rcases List.mem_append.1 hj with h | h
        · have := ox.low x hx j h; omega
        · rcases List.mem_cons.1 h with rfl | h
          · exact hkn
          · obtain ⟨i, hi, rfl⟩ := List.mem_map.1 h
            have := oy.low y hy i hi; omega
      · unfold joinS
        rw [List.pairwise_append, List.pairwise_cons, List.pairwise_map]
        refine ⟨ox.inc x hx, ⟨fun j hj => ?_, ?_⟩, fun a ha b hb => ?_⟩
        · obtain ⟨i, hi, rfl⟩ := List.mem_map.1 hj
          omega
        · exact (oy.inc y hy).imp fun h => by omega
        · have := ox.low x hx a ha
          rcases List.mem_cons.1 hb with rfl | h
          · omega
          · obtain ⟨i, hi, rfl⟩ := List.mem_map.1 h
            omega
      · have h1 := ox.pos x hx
        have h2 := oy.pos y hy
        have h3 := inv_pos (n := n) (by omega)
        exact Rat.mul_pos (Rat.mul_pos h1 h2) h3
theorem join_msT {n k : Nat} {T : Nat → Bool} {x y : List Nat} (hk : k < n) (hx : ∀ j ∈ x, j < k - 1) (hy : ∀ j ∈ y, j < n - k - 2) :
    msT n T (joinS k x y) = (okF adjP T (List.range n) k && (msT (k - 1) T x && msT (n - k - 2) (fun j => T (k + 2 + j)) y)) := by
  have hmem : ∀ j, j ∈ joinS k x y ↔ j ∈ x ∨ j = k ∨ ∃ i, i ∈ y ∧ k + 2 + i = j := by
    intro j
    unfold joinS
    rw [List.mem_append, List.mem_cons, List.mem_map]
  rw [Bool.eq_iff_iff, Bool.and_eq_true, Bool.and_eq_true, msT_iff, msT_iff, msT_iff]
  unfold okF
  rw [Bool.and_eq_true, List.all_eq_true]
  constructor
  · intro h
    refine ⟨⟨(h k hk).1 ((hmem k).2 (.inr (.inl rfl))), fun q hq => ?_⟩, fun j hj => ?_, fun j hj => ?_⟩
    · have hq := List.mem_range.1 hq
      unfold adjP
      rw [Bool.not_eq_true', Bool.and_eq_false_iff]
      by_cases ha : (k + 1 == q || q + 1 == k) = true
      · right
        rw [Bool.or_eq_true, beq_iff_eq, beq_iff_eq] at ha
        rw [← Bool.not_eq_true]
        intro hT
        rcases (hmem q).1 ((h q hq).2 hT) with h1 | h1 | ⟨i, hi, h1⟩
        · have := hx q h1; omega
        · omega
        · omega
      · left; simpa using ha
    · constructor
      · intro hj2
        exact (h j (by omega)).1 ((hmem j).2 (.inl hj2))
      · intro hT
        rcases (hmem j).1 ((h j (by omega)).2 hT) with h1 | h1 | ⟨i, hi, h1⟩
        · exact h1
        · omega
        · omega
    · constructor
      · intro hj2
        exact (h (k + 2 + j) (by omega)).1 ((hmem _).2 (.inr (.inr ⟨j, hj2, rfl⟩)))
      · intro hT
        rcases (hmem _).1 ((h (k + 2 + j) (by omega)).2 hT) with h1 | h1 | ⟨i, hi, h1⟩
        · have := hx _ h1; omega
        · omega
        · obtain rfl : i = j := by omega
          exact hi
  · rintro ⟨⟨hT, hn⟩, h1, h2⟩ j hj
    rw [hmem]
    have hno : ∀ q, q < n → (q = k + 1 ∨ q + 1 = k) → T q = false := by
      intro q hq hqk
      have := hn q (List.mem_range.2 hq)
      unfold adjP at this
      rw [Bool.not_eq_true', Bool.and_eq_false_iff] at this
      rcases this with h | h
      · rw [Bool.or_eq_false_iff, beq_eq_false_iff_ne, beq_eq_false_iff_ne] at h
        omega
      · exact h
    by_cases c1 : j < k - 1
    · rw [← h1 j c1]
      constructor
      · rintro (h | h | ⟨i, hi, h⟩)
        · exact h
        · omega
        · omega
      · exact .inl
    · by_cases c2 : j = k
      · subst c2
        exact ⟨fun _ => hT, fun _ => .inr (.inl rfl)⟩
      · by_cases c3 : j = k + 1 ∨ j + 1 = k
        · have := hno j hj c3
          rw [this]
          constructor
          · rintro (h | h | ⟨i, hi, h⟩)
            · exact absurd (hx j h) (by omega)
            · exact absurd h c2
            · omega
          · intro h; cases h
        · obtain ⟨i, rfl⟩ : ∃ i, j = k + 2 + i := ⟨j - (k + 2), by omega⟩
          rw [← h2 i (by omega)]
          constructor
          · rintro (h | h | ⟨i', hi, h⟩)
            · exact absurd (hx _ h) (by omega)
            · omega
            · obtain rfl : i' = i := by omega
              exact hi
          · exact fun h => .inr (.inr ⟨i, h, rfl⟩)
theorem range_rest {n k : Nat} (hk : k < n) : (restF adjP (List.range n) k).Perm (List.range (k - 1) ++ (List.range (n - k - 2)).map fun j => k + 2 + j) := by
  rw [List.perm_ext_iff_of_nodup]
  · intro a
    unfold restF adjP
    rw [List.mem_filter, List.mem_range, List.mem_append, List.mem_range, List.mem_map]
    constructor
    · rintro ⟨h1, h2⟩
      rw [Bool.not_eq_true', Bool.or_eq_false_iff, Bool.or_eq_false_iff, beq_eq_false_iff_ne, beq_eq_false_iff_ne, beq_eq_false_iff_ne] at h2
      by_cases c : a < k - 1
      · exact .inl c
      · exact .inr ⟨a - (k + 2), List.mem_range.2 (by omega), by omega⟩
    · intro h
      have h3 : a < n ∧ a ≠ k ∧ k + 1 ≠ a ∧ a + 1 ≠ k := by
        rcases h with h | ⟨i, hi, rfl⟩
        · omega
        · have := List.mem_range.1 hi
          omega
      refine ⟨h3.1, ?_⟩
      rw [Bool.not_eq_true', Bool.or_eq_false_iff, Bool.or_eq_false_iff, beq_eq_false_iff_ne, beq_eq_false_iff_ne, beq_eq_false_iff_ne]
      exact h3.2
  · exact List.nodup_range.filter _
  · rw [List.nodup_append]
    refine ⟨List.nodup_range, ?_, ?_⟩
    · rw [List.nodup_iff_pairwise_ne, List.pairwise_map]
      exact (List.nodup_iff_pairwise_ne.1 List.nodup_range).imp fun h => by omega
    · intro a ha b hb
      have := List.mem_range.1 ha
      obtain ⟨i, hi, rfl⟩ := List.mem_map.1 hb
      omega
theorem Vq_path {T : Nat → Bool} {n k : Nat} (hk : k < n) : Vq adjP T (restF adjP (List.range n) k) = Vq adjP T (List.range (k - 1)) * Vq adjP (fun j => T (k + 2 + j)) (List.range (n - k - 2)) := by
  rw [Vq_perm (range_rest hk), Vq_append _ _ _ (Nat.le_refl _)]
  · congr 1
    rw [Vq_map (adj := adjP) (F := T) (fun j => k + 2 + j)]
    intro i _ j _
    refine ⟨?_, fun h => by omega⟩
    unfold adjP
    rw [Bool.eq_iff_iff]
    simp only [Bool.or_eq_true, beq_iff_eq]
    omega
  · intro p hp q hq
    have := List.mem_range.1 hp
    obtain ⟨i, hi, rfl⟩ := List.mem_map.1 hq
    unfold adjP
    rw [Bool.or_eq_false_iff, Bool.or_eq_false_iff, beq_eq_false_iff_ne, beq_eq_false_iff_ne]
    omega
/-- The list of sets says what Vq says. -/
theorem EM_setS : ∀ (d n : Nat) (T : Nat → Bool), n ≤ d → EM (msT n T) (setS d n) = Vq adjP T (List.range n)
  | 0, n, T, h => by
    obtain rfl : n = 0 := by omega
    simp only [setS, EM, qsum, msT, List.range_zero, List.all_nil, if_true, Vq_nil]
    grind
  | d + 1, n, T, h => by
    unfold setS
    by_cases hn : n = 0
    · subst hn
      simp only [if_true, EM, qsum, msT, List.range_zero, List.all_nil, Vq_nil]
      grind
    · rw [if_neg hn]
      have hne := natCast_nez (m := n) (by omega)
      have hlist : List.range n ≠ [] := by
        intro e
        have := congrArg List.length e
        simp at this
        exact hn this
      have hs := Vq_step (adj := adjP) (F := T) hlist
      rw [List.length_range] at hs
      have step : EM (msT n T) ((List.range n).foldl (fun S k => (setS d (k - 1)).foldl (fun S x => (setS d (n - k - 2)).foldl (fun S y => addS S (joinS k x.1 y.1) (x.2 * y.2 * (1 / ((n : Nat) : Rat)))) S) S) []) =
          EM (msT n T) [] + qsum (fun k => (1 / ((n : Nat) : Rat)) * (if okF adjP T (List.range n) k = true then Vq adjP T (restF adjP (List.range n) k) else 0)) (List.range n) := by
        refine EM_foldl _ _ _ fun S k hk => ?_
        have hkn := List.mem_range.1 hk
        rw [Vq_path hkn, ← EM_setS d (k - 1) T (by omega), ← EM_setS d (n - k - 2) (fun j => T (k + 2 + j)) (by omega)]
        have ox := setS_ok d (k - 1)
        have oy := setS_ok d (n - k - 2)
        have e0 : EM (msT n T) ((setS d (k - 1)).foldl (fun S x => (setS d (n - k - 2)).foldl (fun S y => addS S (joinS k x.1 y.1) (x.2 * y.2 * (1 / ((n : Nat) : Rat)))) S) S) = EM (msT n T) S + qsum (fun (x : List Nat × Rat) => qsum (fun (y : List Nat × Rat) => if msT n T (joinS k x.1 y.1) = true then x.2 * y.2 * (1 / ((n : Nat) : Rat)) else 0) (setS d (n - k - 2))) (setS d (k - 1)) :=
          EM_foldl _ _ _ fun S x _ => EM_foldl _ _ _ fun S y _ => EM_add _ _ _ _
        rw [e0]
        congr 1
        by_cases hok : okF adjP T (List.range n) k = true
        · rw [if_pos hok]
          have e1 : ∀ x ∈ setS d (k - 1), qsum (fun y => if msT n T (joinS k x.1 y.1) = true then x.2 * y.2 * (1 / ((n : Nat) : Rat)) else 0) (setS d (n - k - 2)) = ((1 / ((n : Nat) : Rat)) * EM (msT (n - k - 2) fun j => T (k + 2 + j)) (setS d (n - k - 2))) * (if msT (k - 1) T x.1 = true then x.2 else 0) := by
            intro x hx
            unfold EM
            rw [← qsum_mul, Rat.mul_comm, ← qsum_mul]
            refine qsum_congr fun y hy => ?_
            rw [join_msT hkn (ox.low x hx) (oy.low y hy), hok, Bool.true_and]
            cases msT (k - 1) T x.1 <;> cases msT (n - k - 2) (fun j => T (k + 2 + j)) y.1 <;> simp <;> grind
          rw [qsum_congr e1, qsum_mul]
          unfold EM
          grind
        · rw [if_neg hok]
          have e1 : ∀ x ∈ setS d (k - 1), qsum (fun y => if msT n T (joinS k x.1 y.1) = true then x.2 * y.2 * (1 / ((n : Nat) : Rat)) else 0) (setS d (n - k - 2)) = 0 := by
            intro x hx
            refine qsum_zero fun y hy => ?_
            rw [join_msT hkn (ox.low x hx) (oy.low y hy), Bool.not_eq_true _ |>.mp hok, Bool.false_and]
            simp
          rw [qsum_zero e1]
          grind
      rw [step, qsum_mul, ← hs]
      simp only [EM, qsum]
      grind
/-! .. and the ring. -/
theorem mod_wrap {n x : Nat} (h : x < 2 * n) : x % n = if x < n then x else x - n := by
  by_cases c : x < n
  · rw [if_pos c, Nat.mod_eq_of_lt c]
  · rw [if_neg c, Nat.mod_eq_sub_mod (by omega), Nat.mod_eq_of_lt (by omega)]
def adjR (n i j : Nat) : Bool := (i + 1) % n == j || (j + 1) % n == i
def rset (n k : Nat) (s : List Nat) : List Nat := (List.range n).filter fun i => i == k || s.any fun j => (k + 2 + j) % n == i
def ringS (d n : Nat) : List (List Nat × Rat) := (List.range n).foldl (fun S k => (setS d (n - 3)).foldl (fun S x => addS S (rset n k x.1) (x.2 * (1 / ((n : Nat) : Rat)))) S) []
theorem mem_rset {n k i : Nat} {s : List Nat} : i ∈ rset n k s ↔ i < n ∧ (i = k ∨ ∃ j, j ∈ s ∧ (k + 2 + j) % n = i) := by
  unfold rset
  rw [List.mem_filter, List.mem_range, Bool.or_eq_true, beq_iff_eq, List.any_eq_true]
  simp only [beq_iff_eq]
theorem ringS_ok (d n : Nat) (h3 : 3 ≤ n) : SetOk n (ringS d n) := by
  unfold ringS
  refine foldl_ok _ _ (SetOk.nil n) fun S k hk hS => foldl_ok _ _ hS fun S x hx hS => ?_
  have ox := setS_ok d (n - 3)
  refine hS.add (fun j hj => (mem_rset.1 hj).1) ?_ (Rat.mul_pos (ox.pos x hx) (inv_pos (by omega)))
  exact List.pairwise_lt_range.filter _
theorem rset_ms {n k : Nat} {T : Nat → Bool} {s : List Nat} (h3 : 3 ≤ n) (hk : k < n) (hs : ∀ j ∈ s, j < n - 3) :
    msT n T (rset n k s) = (okF (adjR n) T (List.range n) k && msT (n - 3) (fun j => T ((k + 2 + j) % n)) s) := by
  rw [Bool.eq_iff_iff, Bool.and_eq_true, msT_iff, msT_iff]
  unfold okF
  rw [Bool.and_eq_true, List.all_eq_true]
  have hadj : ∀ q, q < n → (adjR n k q = true ↔ q = (k + 1) % n ∨ q = (k + (n - 1)) % n) := by
    intro q hq
    unfold adjR
    rw [Bool.or_eq_true, beq_iff_eq, beq_iff_eq, mod_wrap (x := k + 1) (by omega), mod_wrap (x := q + 1) (by omega), mod_wrap (x := k + (n - 1)) (by omega)]
    split <;> split <;> split <;> omega
  have hφ : ∀ j, j < n - 3 → (k + 2 + j) % n < n ∧ (k + 2 + j) % n ≠ k ∧ (k + 2 + j) % n ≠ (k + 1) % n ∧ (k + 2 + j) % n ≠ (k + (n - 1)) % n := by
    intro j hj
    rw [mod_wrap (x := k + 2 + j) (by omega), mod_wrap (x := k + 1) (by omega), mod_wrap (x := k + (n - 1)) (by omega)]
    split <;> split <;> split <;> omega
  have hinj : ∀ i j, i < n - 3 → j < n - 3 → (k + 2 + i) % n = (k + 2 + j) % n → i = j := by
    intro i j hi hj
    rw [mod_wrap (x := k + 2 + i) (by omega), mod_wrap (x := k + 2 + j) (by omega)]
    split <;> split <;> omega
  have hsur : ∀ i, i < n → i ≠ k → i ≠ (k + 1) % n → i ≠ (k + (n - 1)) % n → ∃ j, j < n - 3 ∧ (k + 2 + j) % n = i := by
    intro i hi
    rw [mod_wrap (x := k + 1) (by omega), mod_wrap (x := k + (n - 1)) (by omega)]
    intro h1 h2 h4
    by_cases c : k + 2 ≤ i
    · refine ⟨i - (k + 2), ?_, ?_⟩
      · revert h2 h4; split <;> split <;> omega
      · rw [mod_wrap (by omega)]; split <;> omega
    · refine ⟨i + n - (k + 2), ?_, ?_⟩
      · revert h2 h4; split <;> split <;> omega
      · rw [mod_wrap (by revert h2 h4; split <;> split <;> omega)]; revert h2 h4; split <;> split <;> split <;> omega
  constructor
  · intro h
    refine ⟨⟨(h k hk).1 (mem_rset.2 ⟨hk, .inl rfl⟩), fun q hq => ?_⟩, fun j hj => ?_⟩
    · have hq := List.mem_range.1 hq
      rw [Bool.not_eq_true', Bool.and_eq_false_iff]
      by_cases ha : adjR n k q = true
      · right
        rw [← Bool.not_eq_true]
        intro hT
        obtain ⟨-, h1 | ⟨j, hj, h1⟩⟩ := mem_rset.1 ((h q hq).2 hT)
        · subst h1
          rw [hadj q hq, mod_wrap (x := q + 1) (by omega), mod_wrap (x := q + (n - 1)) (by omega)] at ha
          revert ha; split <;> split <;> omega
        · have := hφ j (hs j hj)
          rw [hadj q hq] at ha
          rw [h1] at this
          rcases ha with e | e
          · exact this.2.2.1 e
          · exact this.2.2.2 e
      · left; simpa using ha
    · have hb := hφ j hj
      constructor
      · intro hj2
        exact (h _ hb.1).1 (mem_rset.2 ⟨hb.1, .inr ⟨j, hj2, rfl⟩⟩)
      · intro hT
        obtain ⟨-, h1 | ⟨i, hi, h1⟩⟩ := mem_rset.1 ((h _ hb.1).2 hT)
        · exact absurd h1 hb.2.1
        · rw [← hinj i j (hs i hi) hj h1]
          exact hi
  · rintro ⟨⟨hT, hn⟩, h2⟩ i hi
    rw [mem_rset]
    by_cases c1 : i = k
    · subst c1
      exact ⟨fun _ => hT, fun _ => ⟨hi, .inl rfl⟩⟩
    · by_cases c2 : i = (k + 1) % n ∨ i = (k + (n - 1)) % n
      · have h4 := hn i (List.mem_range.2 hi)
        rw [Bool.not_eq_true', (hadj i hi).2 c2, Bool.true_and] at h4
        rw [h4]
        constructor
        · rintro ⟨-, h | ⟨j, hj, h⟩⟩
          · exact absurd h c1
          · have := hφ j (hs j hj)
            rw [h] at this
            rcases c2 with e | e
            · exact absurd e this.2.2.1
            · exact absurd e this.2.2.2
        · intro h; cases h
      · obtain ⟨j, hj, rfl⟩ := hsur i hi c1 (fun e => c2 (.inl e)) (fun e => c2 (.inr e))
        rw [← h2 j hj]
        constructor
        · rintro ⟨-, h | ⟨j', hj', h⟩⟩
          · exact absurd h c1
          · rw [← hinj j' j (hs j' hj') hj h]
            exact hj'
        · exact fun h => ⟨hi, .inr ⟨j, h, rfl⟩⟩
theorem Vq_ringrest {T : Nat → Bool} {n k : Nat} (h3 : 3 ≤ n) (hk : k < n) : Vq (adjR n) T (restF (adjR n) (List.range n) k) = Vq adjP (fun j => T ((k + 2 + j) % n)) (List.range (n - 3)) := by
  have hp : (restF (adjR n) (List.range n) k).Perm ((List.range (n - 3)).map fun j => (k + 2 + j) % n) := by
    rw [List.perm_ext_iff_of_nodup]
    · intro a
      unfold restF adjR
      rw [List.mem_filter, List.mem_range, List.mem_map, Bool.not_eq_true', Bool.or_eq_false_iff, Bool.or_eq_false_iff, beq_eq_false_iff_ne, beq_eq_false_iff_ne, beq_eq_false_iff_ne]
      constructor
      · rintro ⟨h1, h2, h4, h5⟩
        rw [mod_wrap (x := k + 1) (by omega)] at h4
        rw [mod_wrap (x := a + 1) (by omega)] at h5
        by_cases c : k + 2 ≤ a
        · refine ⟨a - (k + 2), List.mem_range.2 ?_, ?_⟩
          · revert h4 h5; split <;> split <;> omega
          · rw [mod_wrap (by omega)]; split <;> omega
        · refine ⟨a + n - (k + 2), List.mem_range.2 ?_, ?_⟩
          · revert h4 h5; split <;> split <;> omega
          · rw [mod_wrap (by revert h4 h5; split <;> split <;> omega)]; revert h4 h5; split <;> split <;> split <;> omega
      · rintro ⟨j, hj, rfl⟩
        have hj := List.mem_range.1 hj
        have hw := mod_wrap (n := n) (x := k + 2 + j) (by omega)
        have hlt : (k + 2 + j) % n < n := Nat.mod_lt _ (by omega)
        refine ⟨hlt, ?_⟩
        rw [mod_wrap (x := (k + 2 + j) % n + 1) (by omega), mod_wrap (x := k + 1) (by omega)]
        rw [hw]
        split <;> split <;> split <;> omega
    · exact List.nodup_range.filter _
    · rw [List.nodup_iff_pairwise_ne, List.pairwise_map]
      refine List.Pairwise.imp_of_mem ?_ (List.nodup_iff_pairwise_ne.1 List.nodup_range)
      intro i j hi hj hij
      have hi := List.mem_range.1 hi
      have hj := List.mem_range.1 hj
      rw [mod_wrap (x := k + 2 + i) (by omega), mod_wrap (x := k + 2 + j) (by omega)]
      split <;> split <;> omega
  rw [Vq_perm hp, Vq_map (adj := adjP) (F := T) (fun j => (k + 2 + j) % n)]
  intro i hi j hj
  have hi := List.mem_range.1 hi
  have hj := List.mem_range.1 hj
  have w1 := mod_wrap (n := n) (x := k + 2 + i) (by omega)
  have w2 := mod_wrap (n := n) (x := k + 2 + j) (by omega)
  have l1 : (k + 2 + i) % n < n := Nat.mod_lt _ (by omega)
  have l2 : (k + 2 + j) % n < n := Nat.mod_lt _ (by omega)
  constructor
  · unfold adjR adjP
    rw [Bool.eq_iff_iff]
    simp only [Bool.or_eq_true, beq_iff_eq]
    rw [mod_wrap (x := (k + 2 + i) % n + 1) (by omega), mod_wrap (x := (k + 2 + j) % n + 1) (by omega), w1, w2]
    split <;> split <;> split <;> split <;> omega
  · rw [w1, w2]
    split <;> split <;> omega
theorem EM_ringS (d n : Nat) (T : Nat → Bool) (h3 : 3 ≤ n) (hd : n ≤ d) : EM (msT n T) (ringS d n) = Vq (adjR n) T (List.range n) := by
  have hne := natCast_nez (m := n) (by omega)
  have hlist : List.range n ≠ [] := by
    intro e
    have := congrArg List.length e
    simp at this
    omega
  have hs := Vq_step (adj := adjR n) (F := T) hlist
  rw [List.length_range] at hs
  have step : EM (msT n T) (ringS d n) = EM (msT n T) [] + qsum (fun k => (1 / ((n : Nat) : Rat)) * (if okF (adjR n) T (List.range n) k = true then Vq (adjR n) T (restF (adjR n) (List.range n) k) else 0)) (List.range n) := by
    unfold ringS
    refine EM_foldl _ _ _ fun S k hk => ?_
    have hkn := List.mem_range.1 hk
    have ox := setS_ok d (n - 3)
    rw [Vq_ringrest h3 hkn, ← EM_setS d (n - 3) (fun j => T ((k + 2 + j) % n)) (by omega)]
    have e0 : EM (msT n T) ((setS d (n - 3)).foldl (fun S x => addS S (rset n k x.1) (x.2 * (1 / ((n : Nat) : Rat)))) S) = EM (msT n T) S + qsum (fun (x : List Nat × Rat) => if msT n T (rset n k x.1) = true then x.2 * (1 / ((n : Nat) : Rat)) else 0) (setS d (n - 3)) :=
      EM_foldl _ _ _ fun S x _ => EM_add _ _ _ _
    rw [e0]
    congr 1
    by_cases hok : okF (adjR n) T (List.range n) k = true
    · rw [if_pos hok]
      unfold EM
      rw [← qsum_mul]
      refine qsum_congr fun x hx => ?_
      rw [rset_ms h3 hkn (ox.low x hx), hok, Bool.true_and]
      cases msT (n - 3) (fun j => T ((k + 2 + j) % n)) x.1 <;> simp <;> grind
    · rw [if_neg hok]
      rw [qsum_zero fun x hx => by rw [rset_ms h3 hkn (ox.low x hx), Bool.not_eq_true _ |>.mp hok, Bool.false_and]; simp]
      grind
  rw [step, qsum_mul, ← hs]
  simp only [EM, qsum]
  grind
/-! The blocks of a row. -/
def lst (P : Nat → Bool) : Nat → Nat → Nat
  | 0, t => t
  | e + 1, t => if P t = true then t else lst P e (t + 1)
theorem lst_spec (P : Nat → Bool) : ∀ (e t u : Nat), t ≤ u → u < t + e → P u = true → P (lst P e t) = true ∧ (∀ v, t ≤ v → v < lst P e t → P v = false) ∧ lst P e t ≤ u
  | 0, t, u, h1, h2, _ => by omega
  | e + 1, t, u, h1, h2, h3 => by
    unfold lst
    by_cases c : P t = true
    · rw [if_pos c]
      exact ⟨c, fun v hv hv2 => by omega, h1⟩
    · rw [if_neg c]
      have hu : t + 1 ≤ u := by
        rcases Nat.lt_or_ge t u with h | h
        · exact h
        · obtain rfl : u = t := by omega
          exact absurd h3 c
      obtain ⟨a, b, d⟩ := lst_spec P e (t + 1) u hu (by omega) h3
      refine ⟨a, fun v hv hv2 => ?_, d⟩
      by_cases e : v = t
      · subst e; simpa using c
      · exact b v (by omega) hv2
def adjS (n : Nat) (ring : Bool) (i j : Nat) : Bool := if ring = true then adjR n i j else adjP i j
def stopA (n : Nat) (ring : Bool) (fr : Nat → Bool) (i d : Nat) : Bool := !fr ((i + d) % n) || (!ring && decide (n ≤ i + d))
def startA (n : Nat) (ring : Bool) (fr : Nat → Bool) (i : Nat) : Bool := fr i && (if ring = true then !fr ((i + n - 1) % n) else (decide (i = 0) || !fr (i - 1)))
def tlen (n : Nat) (ring : Bool) (fr : Nat → Bool) (i : Nat) : Nat := lst (stopA n ring fr i) (n + 1) 0
def seatsA (n : Nat) (ring : Bool) (fr : Nat → Bool) (i : Nat) : List Nat := (List.range (tlen n ring fr i)).map fun d => (i + d) % n
def startsA (n : Nat) (ring : Bool) (fr : Nat → Bool) : List Nat := (List.range n).filter (startA n ring fr)
section
variable {n : Nat} {ring : Bool} {fr : Nat → Bool}
/-- Not: a ring all of whose seats are free. -/
def Open (n : Nat) (ring : Bool) (fr : Nat → Bool) : Prop := ring = true → ∃ x, x < n ∧ fr x = false
theorem tlen_spec (hO : Open n ring fr) {i : Nat} (hi : i < n) : stopA n ring fr i (tlen n ring fr i) = true ∧ (∀ d, d < tlen n ring fr i → fr ((i + d) % n) = true ∧ (ring = false → i + d < n)) ∧ tlen n ring fr i ≤ n ∧ (ring = true → tlen n ring fr i < n) ∧ (ring = false → i + tlen n ring fr i ≤ n) := by
  have hex : ∃ u, u ≤ n ∧ stopA n ring fr i u = true ∧ (ring = true → u < n) ∧ (ring = false → i + u ≤ n) := by
    cases ring with
    | false => exact ⟨n - i, by omega, by unfold stopA; rw [Bool.or_eq_true]; right; simp; omega, by simp, fun _ => by omega⟩
    | true =>
      obtain ⟨x, hx, hf⟩ := hO rfl
      have hw : ∀ u, u < n → (i + u) % n = x → stopA n true fr i u = true := fun u _ h => by unfold stopA; rw [h, hf]; rfl
      by_cases c : i ≤ x
      · exact ⟨x - i, by omega, hw _ (by omega) (by rw [mod_wrap (by omega)]; split <;> omega), fun _ => by omega, by simp⟩
      · exact ⟨x + n - i, by omega, hw _ (by omega) (by rw [mod_wrap (by omega)]; split <;> omega), fun _ => by omega, by simp⟩
  obtain ⟨u, h1, h2, h3, h4⟩ := hex
  obtain ⟨a, b, d⟩ := lst_spec (stopA n ring fr i) (n + 1) 0 u (by omega) (by omega) h2
  refine ⟨a, fun v hv => ?_, by unfold tlen; omega, fun h => by have := h3 h; unfold tlen; omega, fun h => by have := h4 h; unfold tlen; omega⟩
  have := b v (by omega) hv
  unfold stopA at this
  rw [Bool.or_eq_false_iff, Bool.not_eq_false'] at this
  refine ⟨this.1, fun h => ?_⟩
  have h5 := this.2
  rw [h] at h5
  simpa using h5
/-- Two places in blocks that are one seat are one place. -/
theorem arc_uniq_le (hO : Open n ring fr) {i i' d d' : Nat} (hi : i < n) (hi' : i' < n) (hs : startA n ring fr i = true) (hd : d < tlen n ring fr i) (hd' : d' < tlen n ring fr i') (hle : d ≤ d') (he : (i + d) % n = (i' + d') % n) : i = i' ∧ d = d' := by
  obtain ⟨-, a2, a3, a4, a5⟩ := tlen_spec hO hi
  obtain ⟨-, b2, b3, b4, b5⟩ := tlen_spec hO hi'
  cases ring with
  | false =>
    have h1 := (a2 d hd).2 rfl
    have h2 := (b2 d' hd').2 rfl
    rw [Nat.mod_eq_of_lt h1, Nat.mod_eq_of_lt h2] at he
    rcases Nat.eq_zero_or_pos (d' - d) with h0 | h0
    · omega
    · exfalso
      have h3 := (b2 (d' - d - 1) (by omega)).1
      have h4 : (i' + (d' - d - 1)) % n = i - 1 := by rw [Nat.mod_eq_of_lt (by omega)]; omega
      rw [h4] at h3
      unfold startA at hs
      rw [Bool.and_eq_true] at hs
      have h5 := hs.2
      rw [if_neg (by simp), h3] at h5
      simp at h5
      omega
  | true =>
    have h1 := a4 rfl
    have h2 := b4 rfl
    have h6 : i = (i' + (d' - d)) % n := by
      rw [mod_wrap (x := i + d) (by omega), mod_wrap (x := i' + d') (by omega)] at he
      rw [mod_wrap (x := i' + (d' - d)) (by omega)]
      revert he
      split <;> split <;> split <;> omega
    rcases Nat.eq_zero_or_pos (d' - d) with h0 | h0
    · rw [h0, Nat.add_zero, Nat.mod_eq_of_lt hi'] at h6
      omega
    · exfalso
      have h3 := (b2 (d' - d - 1) (by omega)).1
      have h4 : (i' + (d' - d - 1)) % n = (i + n - 1) % n := by
        rw [h6, mod_wrap (x := i' + (d' - d)) (by omega), mod_wrap (x := i' + (d' - d - 1)) (by omega)]
        by_cases c : i' + (d' - d) < n
        · rw [if_pos c, if_pos (by omega), show i' + (d' - d) + n - 1 = (i' + (d' - d) - 1) + n by omega, Nat.add_mod_right, Nat.mod_eq_of_lt (by omega)]
          omega
        · rw [if_neg c]
          by_cases c2 : i' + (d' - d - 1) < n
          · rw [if_pos c2, show i' + (d' - d) - n + n - 1 = i' + (d' - d - 1) by omega, Nat.mod_eq_of_lt c2]
          · rw [if_neg c2, show i' + (d' - d) - n + n - 1 = (i' + (d' - d - 1) - n) + n by omega, Nat.add_mod_right, Nat.mod_eq_of_lt (by omega)]
      rw [h4] at h3
      unfold startA at hs
      rw [Bool.and_eq_true] at hs
      have h5 := hs.2
      rw [if_pos rfl, h3] at h5
      simp at h5
theorem arc_uniq (hO : Open n ring fr) {i i' d d' : Nat} (hi : i < n) (hi' : i' < n) (hs : startA n ring fr i = true) (hs' : startA n ring fr i' = true) (hd : d < tlen n ring fr i) (hd' : d' < tlen n ring fr i') (he : (i + d) % n = (i' + d') % n) : i = i' ∧ d = d' := by
  rcases Nat.le_total d d' with h | h
  · exact arc_uniq_le hO hi hi' hs hd hd' h he
  · have := arc_uniq_le hO hi' hi hs' hd' hd h he.symm
    exact ⟨this.1.symm, this.2.symm⟩
theorem mem_seatsA {i x : Nat} : x ∈ seatsA n ring fr i ↔ ∃ d, d < tlen n ring fr i ∧ (i + d) % n = x := by
  unfold seatsA
  rw [List.mem_map]
  exact ⟨fun ⟨d, h, e⟩ => ⟨d, List.mem_range.1 h, e⟩, fun ⟨d, h, e⟩ => ⟨d, List.mem_range.2 h, e⟩⟩
theorem mem_startsA {i : Nat} : i ∈ startsA n ring fr ↔ i < n ∧ startA n ring fr i = true := by
  unfold startsA
  rw [List.mem_filter, List.mem_range]
/-- Every free seat is in a block. -/
theorem arc_has (hO : Open n ring fr) {x : Nat} (hx : x < n) (hf : fr x = true) : ∃ i, i < n ∧ startA n ring fr i = true ∧ x ∈ seatsA n ring fr i := by
  cases ring with
  | false =>
    obtain ⟨a, b, c⟩ := lst_spec (fun e => decide (e = x) || !fr (x - e - 1)) (x + 1) 0 x (by omega) (by omega) (by simp)
    obtain ⟨e, he⟩ : ∃ e, lst (fun e => decide (e = x) || !fr (x - e - 1)) (x + 1) 0 = e := ⟨_, rfl⟩
    rw [he] at a b c
    have hfree : ∀ q, q ≤ e → fr (x - q) = true := by
      intro q hq
      rcases Nat.eq_zero_or_pos q with h0 | h0
      · subst h0; exact hf
      · have := b (q - 1) (by omega) (by omega)
        rw [Bool.or_eq_false_iff, Bool.not_eq_false'] at this
        rw [show x - q = x - (q - 1) - 1 by omega]
        exact this.2
    have hs : startA n false fr (x - e) = true := by
      unfold startA
      rw [Bool.and_eq_true, if_neg (by simp)]
      refine ⟨hfree e (Nat.le_refl _), ?_⟩
      rw [Bool.or_eq_true] at a ⊢
      rcases a with a | a
      · left; simp at a; simp; omega
      · right; exact a
    refine ⟨x - e, by omega, hs, mem_seatsA.2 ⟨e, ?_, by rw [Nat.mod_eq_of_lt (by omega)]; omega⟩⟩
    rcases Nat.lt_or_ge e (tlen n false fr (x - e)) with h | h
    · exact h
    · exfalso
      have h1 := (tlen_spec hO (show x - e < n by omega)).1
      obtain ⟨t, ht⟩ : ∃ t, tlen n false fr (x - e) = t := ⟨_, rfl⟩
      rw [ht] at h1 h
      unfold stopA at h1
      rw [Nat.mod_eq_of_lt (by omega), show x - e + t = x - (e - t) by omega, hfree (e - t) (by omega)] at h1
      simp at h1
      omega
  | true =>
    obtain ⟨z, hz, hzf⟩ := hO rfl
    have hex : ∃ u, u < n ∧ (fun e => !fr ((x + n - (e + 1)) % n)) u = true := by
      by_cases c : z < x
      · refine ⟨x - z - 1, by omega, ?_⟩
        show (!fr ((x + n - (x - z - 1 + 1)) % n)) = true
        rw [show x + n - (x - z - 1 + 1) = z + n by omega, Nat.add_mod_right, Nat.mod_eq_of_lt hz, hzf]
        rfl
      · have hne : z ≠ x := fun e => by rw [e, hf] at hzf; cases hzf
        refine ⟨x + n - z - 1, by omega, ?_⟩
        show (!fr ((x + n - (x + n - z - 1 + 1)) % n)) = true
        rw [show x + n - (x + n - z - 1 + 1) = z by omega, Nat.mod_eq_of_lt hz, hzf]
        rfl
    obtain ⟨u, hu, hPu⟩ := hex
    obtain ⟨a, b, c⟩ := lst_spec (fun e => !fr ((x + n - (e + 1)) % n)) n 0 u (by omega) (by omega) hPu
    obtain ⟨e, he⟩ : ∃ e, lst (fun e => !fr ((x + n - (e + 1)) % n)) n 0 = e := ⟨_, rfl⟩
    rw [he] at a b c
    have hfree : ∀ q, q ≤ e → fr ((x + n - q) % n) = true := by
      intro q hq
      rcases Nat.eq_zero_or_pos q with h0 | h0
      · subst h0; rw [Nat.sub_zero, Nat.add_mod_right, Nat.mod_eq_of_lt hx]; exact hf
      · have := b (q - 1) (by omega) (by omega)
        rw [Bool.not_eq_false', show q - 1 + 1 = q by omega] at this
        exact this
    have hin : (x + n - e) % n < n := Nat.mod_lt _ (by omega)
    have hwi := mod_wrap (n := n) (x := x + n - e) (by omega)
    have hs : startA n true fr ((x + n - e) % n) = true := by
      unfold startA
      rw [Bool.and_eq_true, if_pos rfl]
      refine ⟨hfree e (Nat.le_refl _), ?_⟩
      have e1 : ((x + n - e) % n + n - 1) % n = (x + n - (e + 1)) % n := by
        rw [hwi]
        by_cases c2 : x + n - e < n
        · rw [if_pos c2, show x + n - e + n - 1 = (x + n - (e + 1)) + n by omega, Nat.add_mod_right]
        · rw [if_neg c2, show x + n - e - n + n - 1 = x + n - (e + 1) by omega]
      rw [e1]
      exact a
    have hat : ∀ d, d ≤ e → ((x + n - e) % n + d) % n = (x + n - (e - d)) % n := by
      intro d hd
      rw [hwi]
      by_cases c2 : x + n - e < n
      · rw [if_pos c2, show x + n - e + d = x + n - (e - d) by omega]
      · rw [if_neg c2, show x + n - (e - d) = (x + n - e - n + d) + n by omega, Nat.add_mod_right]
    refine ⟨(x + n - e) % n, hin, hs, mem_seatsA.2 ⟨e, ?_, by rw [hat e (Nat.le_refl _), Nat.sub_self, Nat.sub_zero, Nat.add_mod_right, Nat.mod_eq_of_lt hx]⟩⟩
    rcases Nat.lt_or_ge e (tlen n true fr ((x + n - e) % n)) with h | h
    · exact h
    · exfalso
      have h1 := (tlen_spec hO hin).1
      obtain ⟨t, ht⟩ : ∃ t, tlen n true fr ((x + n - e) % n) = t := ⟨_, rfl⟩
      rw [ht] at h1 h
      unfold stopA at h1
      rw [hat t h, hfree (e - t) (by omega)] at h1
      simp at h1
end
theorem qsum_flatMap {α β : Type} (f : β → Rat) (g : α → List β) : ∀ l : List α, qsum f (l.flatMap g) = qsum (fun a => qsum f (g a)) l
  | [] => rfl
  | a :: l => by rw [List.flatMap_cons, qsum_append, qsum_flatMap f g l]; rfl
theorem adjS_symm {n : Nat} {ring : Bool} (i j : Nat) : adjS n ring i j = adjS n ring j i := by
  unfold adjS adjR adjP
  split <;> exact Bool.or_comm _ _
section
variable {n : Nat} {ring : Bool} {fr : Nat → Bool}
/-- Blocks that are not the same lie apart. -/
theorem arc_apart (hO : Open n ring fr) {i i' x y : Nat} (hi : i < n) (hi' : i' < n) (hs : startA n ring fr i = true) (hs' : startA n ring fr i' = true) (hx : x ∈ seatsA n ring fr i) (hy : y ∈ seatsA n ring fr i') (hne : i ≠ i') : adjS n ring x y = false := by
  have key : ∀ i i' x y, i < n → i' < n → startA n ring fr i = true → startA n ring fr i' = true → x ∈ seatsA n ring fr i → y ∈ seatsA n ring fr i' → i ≠ i' → ¬ (if ring = true then (x + 1) % n = y else x + 1 = y) := by
    clear hi hi' hs hs' hx hy hne
    intro i i' x y hi hi' hs hs' hx hy hne he
    obtain ⟨d, hd, rfl⟩ := mem_seatsA.1 hx
    obtain ⟨d', hd', rfl⟩ := mem_seatsA.1 hy
    obtain ⟨a1, a2, a3, a4, a5⟩ := tlen_spec hO hi
    obtain ⟨b1, b2, b3, b4, b5⟩ := tlen_spec hO hi'
    have hee : (i + (d + 1)) % n = (i' + d') % n ∧ (ring = false → i + (d + 1) < n) := by
      cases hr : ring with
      | false =>
        rw [hr, if_neg (by simp)] at he
        have := (a2 d hd).2 hr
        have := (b2 d' hd').2 hr
        rw [Nat.mod_eq_of_lt (by omega), Nat.mod_eq_of_lt (by omega)] at he
        refine ⟨?_, fun _ => by omega⟩
        rw [Nat.mod_eq_of_lt (by omega), Nat.mod_eq_of_lt (by omega)]; omega
      | true =>
        rw [hr, if_pos rfl] at he
        refine ⟨?_, by simp⟩
        rw [← he, Nat.mod_add_mod]; rfl
    rcases Nat.lt_or_ge (d + 1) (tlen n ring fr i) with h | h
    · exact hne (arc_uniq hO hi hi' hs hs' h hd' hee.1).1
    · have : tlen n ring fr i = d + 1 := by omega
      rw [this] at a1
      unfold stopA at a1
      rw [hee.1, (b2 d' hd').1] at a1
      simp at a1
      have := hee.2 a1.1
      omega
  unfold adjS
  have h1 := key i i' x y hi hi' hs hs' hx hy hne
  have h2 := key i' i y x hi' hi hs' hs hy hx (Ne.symm hne)
  cases ring with
  | false =>
    rw [if_neg (by simp)] at h1 h2 ⊢
    unfold adjP
    rw [beq_eq_false_iff_ne.mpr h1, beq_eq_false_iff_ne.mpr h2]; rfl
  | true =>
    rw [if_pos rfl] at h1 h2 ⊢
    unfold adjR
    rw [beq_eq_false_iff_ne.mpr h1, beq_eq_false_iff_ne.mpr h2]; rfl
theorem arcs_perm (hO : Open n ring fr) (hn : 0 < n) : ((List.range n).filter fr).Perm ((startsA n ring fr).flatMap (seatsA n ring fr)) := by
  refine (List.perm_ext_iff_of_nodup (List.nodup_range.filter _) ?_).2 fun x => ?_
  · unfold List.Nodup
    rw [List.pairwise_flatMap]
    constructor
    · intro i hi
      obtain ⟨hi, hs⟩ := mem_startsA.1 hi
      unfold seatsA
      rw [List.pairwise_map]
      refine List.Pairwise.imp_of_mem ?_ List.nodup_range
      intro a b ha hb hne he
      exact hne (arc_uniq hO hi hi hs hs (List.mem_range.1 ha) (List.mem_range.1 hb) he).2
    · refine List.Pairwise.imp_of_mem ?_ (List.nodup_range.filter _)
      intro a b ha hb hne x hx y hy he
      obtain ⟨ha, hsa⟩ := mem_startsA.1 ha
      obtain ⟨hb, hsb⟩ := mem_startsA.1 hb
      obtain ⟨d, hd, rfl⟩ := mem_seatsA.1 hx
      obtain ⟨d', hd', rfl⟩ := mem_seatsA.1 hy
      exact hne (arc_uniq hO ha hb hsa hsb hd hd' he).1
  · rw [List.mem_filter, List.mem_range, List.mem_flatMap]
    constructor
    · rintro ⟨h1, h2⟩
      obtain ⟨i, hi, hs, hx⟩ := arc_has hO h1 h2
      exact ⟨i, mem_startsA.2 ⟨hi, hs⟩, hx⟩
    · rintro ⟨i, hi, hx⟩
      obtain ⟨hi, hs⟩ := mem_startsA.1 hi
      obtain ⟨d, hd, rfl⟩ := mem_seatsA.1 hx
      exact ⟨Nat.mod_lt _ hn, ((tlen_spec hO hi).2.1 d hd).1⟩
/-- A block comes to what a bench of as many seats comes to. -/
theorem Vq_arc (hO : Open n ring fr) {i : Nat} (hi : i < n) (F : Nat → Bool) : Vq (adjS n ring) F (seatsA n ring fr i) = Vq adjP (fun d => F ((i + d) % n)) (List.range (tlen n ring fr i)) := by
  obtain ⟨a1, a2, a3, a4, a5⟩ := tlen_spec hO hi
  unfold seatsA
  refine Vq_map (fun d => (i + d) % n) _ fun a ha b hb => ?_
  have ha := List.mem_range.1 ha
  have hb := List.mem_range.1 hb
  cases ring with
  | false =>
    have := a5 rfl
    unfold adjS
    rw [if_neg (by simp)]
    rw [Nat.mod_eq_of_lt (by omega), Nat.mod_eq_of_lt (by omega)]
    refine ⟨?_, fun h => by omega⟩
    unfold adjP
    rw [Bool.eq_iff_iff, Bool.or_eq_true, Bool.or_eq_true, beq_iff_eq, beq_iff_eq, beq_iff_eq, beq_iff_eq]
    omega
  | true =>
    have := a4 rfl
    unfold adjS
    rw [if_pos rfl]
    have ea := mod_wrap (n := n) (x := i + a) (by omega)
    have eb := mod_wrap (n := n) (x := i + b) (by omega)
    have ea1 := mod_wrap (n := n) (x := (i + a) % n + 1) (by have := Nat.mod_lt (i + a) (show 0 < n by omega); omega)
    have eb1 := mod_wrap (n := n) (x := (i + b) % n + 1) (by have := Nat.mod_lt (i + b) (show 0 < n by omega); omega)
    refine ⟨?_, fun h => ?_⟩
    · unfold adjR adjP
      rw [Bool.eq_iff_iff, Bool.or_eq_true, Bool.or_eq_true, beq_iff_eq, beq_iff_eq, beq_iff_eq, beq_iff_eq, ea1, eb1, ea, eb]
      split <;> split <;> split <;> split <;> omega
    · rw [ea, eb] at h
      split at h <;> split at h <;> omega
theorem Vq_arcs (hO : Open n ring fr) (F : Nat → Bool) : ∀ l : List Nat, (∀ i ∈ l, i < n ∧ startA n ring fr i = true) → l.Nodup → (∀ i ∈ l, ∀ j ∈ l, i ≠ j → ∀ x ∈ seatsA n ring fr i, ∀ y ∈ seatsA n ring fr j, x ≠ y) →
    Vq (adjS n ring) F (l.flatMap (seatsA n ring fr)) = (l.map fun i => Vq adjP (fun d => F ((i + d) % n)) (List.range (tlen n ring fr i))).foldr (· * ·) 1
  | [], _, _, _ => Vq_nil
  | a :: l, h, hn, hd => by
    obtain ⟨h1, h2⟩ := List.nodup_cons.1 hn
    rw [List.flatMap_cons, List.map_cons, List.foldr_cons, ← Vq_arcs hO F l (fun i hi => h i (by simp [hi])) h2 (fun i hi j hj => hd i (by simp [hi]) j (by simp [hj])), ← Vq_arc hO (h a (by simp)).1 F]
    refine Vq_append _ _ _ (Nat.le_refl _) fun p hp q hq => ?_
    obtain ⟨j, hj, hq⟩ := List.mem_flatMap.1 hq
    have hne : a ≠ j := fun e => h1 (e ▸ hj)
    have hja := h j (by simp [hj])
    have haa := h a (by simp)
    exact ⟨arc_apart hO haa.1 hja.1 haa.2 hja.2 hp hq hne, arc_apart hO hja.1 haa.1 hja.2 haa.2 hq hp (Ne.symm hne), hd a (by simp) j (by simp [hj]) hne p hp q hq⟩
theorem Vq_free (hO : Open n ring fr) (hn : 0 < n) (F : Nat → Bool) : Vq (adjS n ring) F ((List.range n).filter fr) = ((startsA n ring fr).map fun i => Vq adjP (fun d => F ((i + d) % n)) (List.range (tlen n ring fr i))).foldr (· * ·) 1 := by
  rw [Vq_perm (arcs_perm hO hn)]
  refine Vq_arcs hO F _ (fun i hi => mem_startsA.1 hi) (List.nodup_range.filter _) fun i hi j hj hne x hx y hy he => ?_
  obtain ⟨ha, hsa⟩ := mem_startsA.1 hi
  obtain ⟨hb, hsb⟩ := mem_startsA.1 hj
  obtain ⟨d, hd, rfl⟩ := mem_seatsA.1 hx
  obtain ⟨d', hd', rfl⟩ := mem_seatsA.1 hy
  exact hne (arc_uniq hO ha hb hsa hsb hd hd' he).1
end
/-! The final rows' list. -/
def uset (n p0 : Nat) (x y : List Nat) : List Nat := (List.range n).filter fun i => decide (i ∈ x) || y.any fun z => (p0 + z) % n == i
def RSq (n : Nat) (ring : Bool) (L : Nat) : List (List Nat × Rat) := if (ring && decide (L = n)) = true then ringS n n else setS L L
def blkS (n : Nat) (ring : Bool) (b : Nat × Nat) (S : List (List Nat × Rat)) : List (List Nat × Rat) := S.flatMap fun x => (RSq n ring b.2).map fun y => (uset n b.1 x.1 y.1, x.2 * y.2)
def inB (n : Nat) (b : Nat × Nat) (i : Nat) : Bool := (List.range b.2).any fun z => (b.1 + z) % n == i
theorem mem_uset {n p0 i : Nat} {x y : List Nat} : i ∈ uset n p0 x y ↔ i < n ∧ (i ∈ x ∨ ∃ z, z ∈ y ∧ (p0 + z) % n = i) := by
  unfold uset
  rw [List.mem_filter, List.mem_range, Bool.or_eq_true, decide_eq_true_eq, List.any_eq_true]
  simp only [beq_iff_eq]
theorem inB_iff {n : Nat} {b : Nat × Nat} {i : Nat} : inB n b i = true ↔ ∃ z, z < b.2 ∧ (b.1 + z) % n = i := by
  unfold inB
  rw [List.any_eq_true]
  simp only [beq_iff_eq, List.mem_range]
theorem RS_ok (n : Nat) (ring : Bool) (L : Nat) (hn : ring = true → 3 ≤ n) : SetOk L (RSq n ring L) := by
  unfold RSq
  by_cases c : (ring && decide (L = n)) = true
  · rw [if_pos c]
    rw [Bool.and_eq_true, decide_eq_true_eq] at c
    obtain ⟨c1, rfl⟩ := c
    exact ringS_ok _ _ (hn c1)
  · rw [if_neg c]; exact setS_ok L L
theorem qsum_pairs {α β : Type} (f : α → Rat) (g : β → Rat) (R : List β) : ∀ S : List α, qsum (fun a => qsum (fun b => f a * g b) R) S = qsum f S * qsum g R
  | [] => by simp [qsum]
  | a :: S => by
    simp only [qsum]
    rw [qsum_pairs f g R S, qsum_mul]
    grind
/-- The seats of the blocks, and those before: all apart. -/
structure Apart (n : Nat) (U : Nat → Bool) (S : List (List Nat × Rat)) (b : Nat × Nat) : Prop where
  mem : ∀ x ∈ S, ∀ j ∈ x.1, j < n ∧ U j = true
  inj : ∀ z, z < b.2 → ∀ z', z' < b.2 → (b.1 + z) % n = (b.1 + z') % n → z = z'
  off : ∀ z, z < b.2 → U ((b.1 + z) % n) = false
theorem blk_msT {n : Nat} {U : Nat → Bool} {S : List (List Nat × Rat)} {b : Nat × Nat} (hn : 0 < n) (h : Apart n U S b) (F : Nat → Bool) {x : List Nat × Rat} (hx : x ∈ S) {y : List Nat} (hy : ∀ z ∈ y, z < b.2) :
    msT n (fun i => F i && (U i || inB n b i)) (uset n b.1 x.1 y) = (msT n (fun i => F i && U i) x.1 && msT b.2 (fun z => F ((b.1 + z) % n)) y) := by
  rw [Bool.eq_iff_iff, Bool.and_eq_true, msT_iff, msT_iff, msT_iff]
  constructor
  · intro hh
    refine ⟨fun j hj => ?_, fun z hz => ?_⟩
    · have h1 := hh j hj
      rw [mem_uset] at h1
      constructor
      · intro hjx
        have := h1.1 ⟨hj, .inl hjx⟩
        rw [Bool.and_eq_true] at this ⊢
        exact ⟨this.1, (h.mem x hx j hjx).2⟩
      · intro hF
        rw [Bool.and_eq_true] at hF
        rcases (h1.2 (by rw [Bool.and_eq_true, Bool.or_eq_true]; exact ⟨hF.1, .inl hF.2⟩)).2 with h2 | ⟨z, hz, rfl⟩
        · exact h2
        · have := h.off z (hy z hz)
          rw [this] at hF; exact absurd hF.2 (by simp)
    · have h1 := hh ((b.1 + z) % n) (Nat.mod_lt _ hn)
      rw [mem_uset] at h1
      constructor
      · intro hzy
        have := h1.1 ⟨Nat.mod_lt _ hn, .inr ⟨z, hzy, rfl⟩⟩
        rw [Bool.and_eq_true] at this
        exact this.1
      · intro hF
        rcases (h1.2 (by rw [Bool.and_eq_true, Bool.or_eq_true]; exact ⟨hF, .inr (inB_iff.2 ⟨z, hz, rfl⟩)⟩)).2 with h2 | ⟨z', hz', he⟩
        · have := (h.mem x hx _ h2).2
          rw [h.off z hz] at this; cases this
        · rw [h.inj z hz z' (hy z' hz') he.symm]; exact hz'
  · rintro ⟨h1, h2⟩ j hj
    rw [mem_uset, Bool.and_eq_true, Bool.or_eq_true]
    constructor
    · rintro ⟨-, hjx | ⟨z, hz, rfl⟩⟩
      · have := (h1 j hj).1 hjx
        rw [Bool.and_eq_true] at this
        exact ⟨this.1, .inl this.2⟩
      · exact ⟨(h2 z (hy z hz)).1 hz, .inr (inB_iff.2 ⟨z, hy z hz, rfl⟩)⟩
    · rintro ⟨hF, hU | hB⟩
      · exact ⟨hj, .inl ((h1 j hj).2 (by rw [Bool.and_eq_true]; exact ⟨hF, hU⟩))⟩
      · obtain ⟨z, hz, rfl⟩ := inB_iff.1 hB
        exact ⟨hj, .inr ⟨z, (h2 z hz).2 hF, rfl⟩⟩
theorem EM_blk {n : Nat} {ring : Bool} {U : Nat → Bool} {S : List (List Nat × Rat)} {b : Nat × Nat} (hn : 0 < n) (h3 : ring = true → 3 ≤ n) (h : Apart n U S b) (F : Nat → Bool) :
    EM (msT n fun i => F i && (U i || inB n b i)) (blkS n ring b S) = EM (msT n fun i => F i && U i) S * EM (msT b.2 fun z => F ((b.1 + z) % n)) (RSq n ring b.2) := by
  unfold EM blkS
  rw [qsum_flatMap, ← qsum_pairs]
  refine qsum_congr fun x hx => ?_
  rw [qsum_map]
  refine qsum_congr fun y hy => ?_
  dsimp only
  rw [blk_msT hn h F hx fun z hz => (RS_ok n ring b.2 h3).low y hy z hz]
  cases msT n (fun i => F i && U i) x.1 <;> cases msT b.2 (fun z => F ((b.1 + z) % n)) y.1 <;> simp
theorem blk_ok {n : Nat} {ring : Bool} {U : Nat → Bool} {S : List (List Nat × Rat)} {b : Nat × Nat} (hn : 0 < n) (h3 : ring = true → 3 ≤ n) (h : Apart n U S b) (hS : SetOk n S) : SetOk n (blkS n ring b S) ∧ ∀ x ∈ blkS n ring b S, ∀ j ∈ x.1, j < n ∧ (U j || inB n b j) = true := by
  have hR := RS_ok n ring b.2 h3
  have hmem : ∀ w, w ∈ blkS n ring b S → ∃ x, x ∈ S ∧ ∃ y, y ∈ RSq n ring b.2 ∧ w = (uset n b.1 x.1 y.1, x.2 * y.2) := by
    intro w hw
    unfold blkS at hw
    rw [List.mem_flatMap] at hw
    obtain ⟨x, hx, hw⟩ := hw
    obtain ⟨y, hy, rfl⟩ := List.mem_map.1 hw
    exact ⟨x, hx, y, hy, rfl⟩
  refine ⟨⟨fun w hw j hj => ?_, fun w hw => ?_, fun w hw => ?_, ?_⟩, fun w hw j hj => ?_⟩
  · obtain ⟨x, hx, y, hy, rfl⟩ := hmem w hw
    exact (mem_uset.1 hj).1
  · obtain ⟨x, hx, y, hy, rfl⟩ := hmem w hw
    exact List.pairwise_lt_range.filter _
  · obtain ⟨x, hx, y, hy, rfl⟩ := hmem w hw
    exact Rat.mul_pos (hS.pos x hx) (hR.pos y hy)
  · have inc_eq : ∀ {a c : List Nat}, a.Pairwise (· < ·) → c.Pairwise (· < ·) → (∀ i, i ∈ a ↔ i ∈ c) → a = c := by
      intro a c ha hc hm
      refine List.Perm.eq_of_pairwise (le := (· < ·)) (fun a b _ _ h1 h2 => by omega) ha hc ((List.perm_ext_iff_of_nodup (ha.imp fun h => by omega) (hc.imp fun h => by omega)).2 hm)
    have k1 : ∀ x, x ∈ S → ∀ x', x' ∈ S → ∀ y, y ∈ RSq n ring b.2 → ∀ y', y' ∈ RSq n ring b.2 → uset n b.1 x.1 y.1 = uset n b.1 x'.1 y'.1 → x.1 = x'.1 ∧ y.1 = y'.1 := by
      have half : ∀ x, x ∈ S → ∀ x', x' ∈ S → ∀ y, y ∈ RSq n ring b.2 → ∀ y', y' ∈ RSq n ring b.2 → uset n b.1 x.1 y.1 = uset n b.1 x'.1 y'.1 → (∀ j, j ∈ x.1 → j ∈ x'.1) ∧ ∀ z, z ∈ y.1 → z ∈ y'.1 := by
        intro x hx x' hx' y hy y' hy' he
        refine ⟨fun j hj => ?_, fun z hz => ?_⟩
        · have hm := h.mem x hx j hj
          have : j ∈ uset n b.1 x.1 y.1 := mem_uset.2 ⟨hm.1, .inl hj⟩
          rw [he, mem_uset] at this
          rcases this.2 with h2 | ⟨z, hz, rfl⟩
          · exact h2
          · have := h.off z (hR.low y' hy' z hz)
            rw [this] at hm; cases hm.2
        · have hzb := hR.low y hy z hz
          have : (b.1 + z) % n ∈ uset n b.1 x.1 y.1 := mem_uset.2 ⟨Nat.mod_lt _ hn, .inr ⟨z, hz, rfl⟩⟩
          rw [he, mem_uset] at this
          rcases this.2 with h2 | ⟨z', hz', he'⟩
          · have := (h.mem x' hx' _ h2).2
            rw [h.off z hzb] at this; cases this
          · rw [h.inj z hzb z' (hR.low y' hy' z' hz') he'.symm]; exact hz'
      intro x hx x' hx' y hy y' hy' he
      have a := half x hx x' hx' y hy y' hy' he
      have c := half x' hx' x hx y' hy' y hy he.symm
      exact ⟨inc_eq (hS.inc x hx) (hS.inc x' hx') fun i => ⟨a.1 i, c.1 i⟩, inc_eq (hR.inc y hy) (hR.inc y' hy') fun i => ⟨a.2 i, c.2 i⟩⟩
    unfold blkS
    rw [List.pairwise_flatMap]
    refine ⟨fun x hx => ?_, ?_⟩
    · rw [List.pairwise_map]
      refine List.Pairwise.imp_of_mem ?_ hR.one
      intro y y' hy hy' hne he
      exact hne (k1 x hx x hx y hy y' hy' he).2
    · refine List.Pairwise.imp_of_mem ?_ hS.one
      intro x x' hx hx' hne w hw w' hw' he
      obtain ⟨y, hy, rfl⟩ := List.mem_map.1 hw
      obtain ⟨y', hy', rfl⟩ := List.mem_map.1 hw'
      exact hne (k1 x hx x' hx' y hy y' hy' he).1
  · obtain ⟨x, hx, y, hy, rfl⟩ := hmem w hw
    rw [Bool.or_eq_true]
    obtain ⟨h1, h2 | ⟨z, hz, rfl⟩⟩ := mem_uset.1 hj
    · exact ⟨h1, .inl (h.mem x hx j h2).2⟩
    · exact ⟨h1, .inr (inB_iff.2 ⟨z, hR.low y hy z hz, rfl⟩)⟩
def finS (n : Nat) (ring : Bool) : List (Nat × Nat) → List (List Nat × Rat) → List (List Nat × Rat)
  | [], S => S
  | b :: bl, S => finS n ring bl (blkS n ring b S)
/-- Blocks apart from one another and from U. -/
structure Blks (n : Nat) (U : Nat → Bool) (bl : List (Nat × Nat)) : Prop where
  inj : ∀ b ∈ bl, ∀ z, z < b.2 → ∀ z', z' < b.2 → (b.1 + z) % n = (b.1 + z') % n → z = z'
  off : ∀ b ∈ bl, ∀ z, z < b.2 → U ((b.1 + z) % n) = false
  par : bl.Pairwise fun a b => ∀ z, z < a.2 → ∀ z', z' < b.2 → (a.1 + z) % n ≠ (b.1 + z') % n
theorem Blks.next {n : Nat} {U : Nat → Bool} {b : Nat × Nat} {bl : List (Nat × Nat)} (h : Blks n U (b :: bl)) : Blks n (fun i => U i || inB n b i) bl :=
  ⟨fun c hc => h.inj c (by simp [hc]), fun c hc z hz => by
    rw [Bool.or_eq_false_iff]
    refine ⟨h.off c (by simp [hc]) z hz, ?_⟩
    rw [← Bool.not_eq_true, inB_iff]
    rintro ⟨z', hz', he⟩
    exact (List.pairwise_cons.1 h.par).1 c hc z' hz' z hz he, (List.pairwise_cons.1 h.par).2⟩
theorem fin_all {n : Nat} {ring : Bool} (hn : 0 < n) (h3 : ring = true → 3 ≤ n) (F : Nat → Bool) : ∀ (bl : List (Nat × Nat)) (U : Nat → Bool) (S : List (List Nat × Rat)), Blks n U bl → SetOk n S → (∀ x ∈ S, ∀ j ∈ x.1, j < n ∧ U j = true) →
    SetOk n (finS n ring bl S) ∧ (∀ x ∈ finS n ring bl S, ∀ j ∈ x.1, j < n ∧ (U j || bl.any fun b => inB n b j) = true) ∧
    EM (msT n fun i => F i && (U i || bl.any fun b => inB n b i)) (finS n ring bl S) = EM (msT n fun i => F i && U i) S * (bl.map fun b => EM (msT b.2 fun z => F ((b.1 + z) % n)) (RSq n ring b.2)).foldr (· * ·) 1
  | [], U, S, h, hS, hm => by
    simp only [finS, List.any_nil, Bool.or_false, List.map_nil, List.foldr_nil, Rat.mul_one]
    exact ⟨hS, hm, trivial⟩
  | b :: bl, U, S, h, hS, hm => by
    have hA : Apart n U S b := ⟨hm, h.inj b (by simp), h.off b (by simp)⟩
    have hb := blk_ok hn h3 hA hS
    obtain ⟨i1, i2, i3⟩ := fin_all hn h3 F bl (fun i => U i || inB n b i) (blkS n ring b S) h.next hb.1 hb.2
    simp only [finS, List.any_cons, List.map_cons, List.foldr_cons]
    refine ⟨i1, fun x hx j hj => ?_, ?_⟩
    · have := i2 x hx j hj
      rw [Bool.or_assoc] at this
      exact this
    · simp only [Bool.or_assoc] at i3
      rw [i3]
      have := EM_blk hn h3 hA F
      rw [this, Rat.mul_assoc]
theorem msT_congr {n : Nat} {T T' : Nat → Bool} (h : ∀ i, i < n → T i = T' i) : msT n T = msT n T' := by
  funext s
  rw [Bool.eq_iff_iff, msT_iff, msT_iff]
  exact ⟨fun a j hj => by rw [← h j hj]; exact a j hj, fun a j hj => by rw [h j hj]; exact a j hj⟩
def lonB (n : Nat) (ring : Bool) (t : Nat → Bool) (i : Nat) : Bool := !t i && (List.range n).all fun j => !(adjS n ring i j && t j)
def blA (n : Nat) (ring : Bool) (fr : Nat → Bool) : List (Nat × Nat) := if (ring && (List.range n).all fr) = true then [(0, n)] else (startsA n ring fr).map fun i => (i, tlen n ring fr i)
def tset (n : Nat) (t : Nat → Bool) (x : List Nat) : List Nat := (List.range n).filter fun i => decide (i ∈ x) || t i
def finA (n : Nat) (ring : Bool) (t : Nat → Bool) : List (List Nat × Rat) := (finS n ring (blA n ring (lonB n ring t)) [([], 1)]).map fun x => (tset n t x.1, x.2)
def Wt (n : Nat) (ring : Bool) (t F : Nat → Bool) : Rat := if ((List.range n).all fun i => lonB n ring t i || F i == t i) = true then Vq (adjS n ring) F ((List.range n).filter (lonB n ring t)) else 0
theorem mem_tset {n i : Nat} {t : Nat → Bool} {x : List Nat} : i ∈ tset n t x ↔ i < n ∧ (i ∈ x ∨ t i = true) := by
  unfold tset
  rw [List.mem_filter, List.mem_range, Bool.or_eq_true, decide_eq_true_eq]
theorem open_of {n : Nat} {ring : Bool} {fr : Nat → Bool} (h : ¬ (ring && (List.range n).all fr) = true) : Open n ring fr := by
  intro hr
  rw [hr, Bool.true_and, List.all_eq_true] at h
  simp only [List.mem_range] at h
  exact Classical.byContradiction fun hc => h fun x hx => by
    cases e : fr x with
    | true => rfl
    | false => exact absurd ⟨x, hx, e⟩ hc
/-- The blocks: apart, and they hold what is free. -/
theorem blA_ok {n : Nat} {ring : Bool} {fr : Nat → Bool} (_hn : 0 < n) : Blks n (fun _ => false) (blA n ring fr) ∧ ∀ i, i < n → ((blA n ring fr).any fun b => inB n b i) = fr i := by
  unfold blA
  by_cases c : (ring && (List.range n).all fr) = true
  · rw [if_pos c]
    rw [Bool.and_eq_true, List.all_eq_true] at c
    refine ⟨⟨fun b hb z hz z' hz' he => ?_, fun _ _ _ _ => rfl, List.pairwise_singleton _ _⟩, fun i hi => ?_⟩
    · rw [List.mem_singleton] at hb
      subst hb
      dsimp only at hz hz' he
      rwa [Nat.zero_add, Nat.zero_add, Nat.mod_eq_of_lt hz, Nat.mod_eq_of_lt hz'] at he
    · rw [c.2 i (List.mem_range.2 hi), List.any_cons, List.any_nil, Bool.or_false, inB_iff]
      exact ⟨i, hi, by rw [Nat.zero_add, Nat.mod_eq_of_lt hi]⟩
  · rw [if_neg c]
    have hO := open_of c
    refine ⟨⟨fun b hb z hz z' hz' he => ?_, fun _ _ _ _ => rfl, ?_⟩, fun i hi => ?_⟩
    · obtain ⟨i, hi, rfl⟩ := List.mem_map.1 hb
      obtain ⟨hi, hs⟩ := mem_startsA.1 hi
      exact (arc_uniq hO hi hi hs hs hz hz' he).2
    · rw [List.pairwise_map]
      refine List.Pairwise.imp_of_mem ?_ (List.nodup_range.filter _)
      intro a b ha hb hne z hz z' hz' he
      obtain ⟨ha, hsa⟩ := mem_startsA.1 ha
      obtain ⟨hb, hsb⟩ := mem_startsA.1 hb
      exact hne (arc_uniq hO ha hb hsa hsb hz hz' he).1
    · rw [Bool.eq_iff_iff, List.any_eq_true]
      constructor
      · rintro ⟨b, hb, hi'⟩
        obtain ⟨j, hj, rfl⟩ := List.mem_map.1 hb
        obtain ⟨hj, hs⟩ := mem_startsA.1 hj
        obtain ⟨z, hz, rfl⟩ := inB_iff.1 hi'
        exact ((tlen_spec hO hj).2.1 z hz).1
      · intro hf
        obtain ⟨j, hj, hs, hx⟩ := arc_has hO hi hf
        obtain ⟨d, hd, rfl⟩ := mem_seatsA.1 hx
        exact ⟨(j, tlen n ring fr j), List.mem_map.2 ⟨j, mem_startsA.2 ⟨hj, hs⟩, rfl⟩, inB_iff.2 ⟨d, hd, rfl⟩⟩
theorem bl_V {n : Nat} {ring : Bool} {fr : Nat → Bool} (hn : 0 < n) (h3 : ring = true → 3 ≤ n) (F : Nat → Bool) : ((blA n ring fr).map fun b => EM (msT b.2 fun z => F ((b.1 + z) % n)) (RSq n ring b.2)).foldr (· * ·) 1 = Vq (adjS n ring) F ((List.range n).filter fr) := by
  unfold blA
  by_cases c : (ring && (List.range n).all fr) = true
  · rw [if_pos c]
    rw [Bool.and_eq_true, List.all_eq_true] at c
    simp only [List.map_cons, List.map_nil, List.foldr_cons, List.foldr_nil, Rat.mul_one]
    unfold RSq
    rw [if_pos (by rw [c.1]; simp)]
    rw [EM_ringS n n _ (h3 c.1) (Nat.le_refl _), show (List.range n).filter fr = List.range n from List.filter_eq_self.2 c.2]
    have : adjS n ring = adjR n := by funext i j; unfold adjS; rw [if_pos c.1]
    rw [this]
    refine Vq_congr fun i hi => ?_
    rw [Nat.zero_add, Nat.mod_eq_of_lt (List.mem_range.1 hi)]
  · rw [if_neg c]
    have hO := open_of c
    rw [Vq_free hO hn F, List.map_map]
    congr 1
    refine List.map_congr_left fun i hi => ?_
    obtain ⟨hi, hs⟩ := mem_startsA.1 hi
    dsimp only [Function.comp]
    have ht := tlen_spec hO hi
    unfold RSq
    rw [if_neg (by
      rw [Bool.and_eq_true, decide_eq_true_eq]
      rintro ⟨h1, h2⟩
      have := ht.2.2.2.1 h1
      omega)]
    exact EM_setS _ _ _ (Nat.le_refl _)
theorem finA_ok {n : Nat} {ring : Bool} (hn : 0 < n) (h3 : ring = true → 3 ≤ n) (t : Nat → Bool) : SetOk n (finA n ring t) ∧ ∀ F, EM (msT n F) (finA n ring t) = Wt n ring t F := by
  obtain ⟨hB, hE⟩ := blA_ok (ring := ring) (fr := lonB n ring t) hn
  have hall := fun F => fin_all (ring := ring) hn h3 F (blA n ring (lonB n ring t)) (fun _ => false) [([], 1)] hB (SetOk.unit n) (by simp)
  obtain ⟨i1, i2, -⟩ := hall fun _ => false
  have hin : ∀ x ∈ finS n ring (blA n ring (lonB n ring t)) [([], 1)], ∀ j ∈ x.1, j < n ∧ lonB n ring t j = true := fun x hx j hj => by
    have := i2 x hx j hj
    rw [Bool.false_or] at this
    refine ⟨this.1, ?_⟩
    rw [hE j this.1] at this
    exact this.2
  have hoff : ∀ i, lonB n ring t i = true → t i = false := fun i h => by
    unfold lonB at h
    rw [Bool.and_eq_true, Bool.not_eq_true'] at h
    exact h.1
  constructor
  · refine ⟨fun w hw j hj => ?_, fun w hw => ?_, fun w hw => ?_, ?_⟩
    · obtain ⟨x, hx, rfl⟩ := List.mem_map.1 hw
      exact (mem_tset.1 hj).1
    · obtain ⟨x, hx, rfl⟩ := List.mem_map.1 hw
      exact List.pairwise_lt_range.filter _
    · obtain ⟨x, hx, rfl⟩ := List.mem_map.1 hw
      exact i1.pos x hx
    · unfold finA
      rw [List.pairwise_map]
      refine List.Pairwise.imp_of_mem ?_ i1.one
      intro x y hx hy hne he
      dsimp only at he
      refine hne (List.Perm.eq_of_pairwise (le := (· < ·)) (fun a b _ _ h1 h2 => by omega) (i1.inc x hx) (i1.inc y hy) ((List.perm_ext_iff_of_nodup ((i1.inc x hx).imp fun h => by omega) ((i1.inc y hy).imp fun h => by omega)).2 fun i => ?_))
      have : ∀ {x y}, x ∈ finS n ring (blA n ring (lonB n ring t)) [([], 1)] → tset n t x.1 = tset n t y → i ∈ x.1 → i ∈ y := by
        intro x y hx he hi
        have hl := hin x hx i hi
        have : i ∈ tset n t x.1 := mem_tset.2 ⟨hl.1, .inl hi⟩
        rw [he, mem_tset] at this
        rcases this.2 with h | h
        · exact h
        · rw [hoff i hl.2] at h; cases h
      exact ⟨this hx he, this hy he.symm⟩
  · intro F
    obtain ⟨-, -, i3⟩ := hall F
    have e1 : EM (msT n fun i => F i && false) [([], 1)] = 1 := by
      have : msT n (fun i => F i && false) [] = true := msT_iff.2 fun j hj => by simp
      simp only [EM, qsum, this, if_true]
      grind
    rw [e1, Rat.one_mul, bl_V hn h3 F, msT_congr (T' := fun i => F i && lonB n ring t i) fun i hi => by rw [Bool.false_or, hE i hi]] at i3
    unfold Wt finA
    rw [← i3]
    unfold EM
    rw [qsum_map]
    dsimp only
    by_cases c : ((List.range n).all fun i => lonB n ring t i || F i == t i) = true
    · rw [if_pos c]
      rw [List.all_eq_true] at c
      refine qsum_congr fun x hx => ?_
      have : msT n F (tset n t x.1) = msT n (fun i => F i && lonB n ring t i) x.1 := by
        rw [Bool.eq_iff_iff, msT_iff, msT_iff]
        constructor
        · intro h j hj
          have h1 := h j hj
          rw [mem_tset] at h1
          constructor
          · intro hjx
            rw [Bool.and_eq_true]
            exact ⟨h1.1 ⟨hj, .inl hjx⟩, (hin x hx j hjx).2⟩
          · intro hF
            rw [Bool.and_eq_true] at hF
            rcases (h1.2 hF.1).2 with h2 | h2
            · exact h2
            · rw [hoff j hF.2] at h2; cases h2
        · intro h j hj
          have h1 := h j hj
          rw [Bool.and_eq_true] at h1
          rw [mem_tset]
          have hc := c j (List.mem_range.2 hj)
          rw [Bool.or_eq_true, beq_iff_eq] at hc
          constructor
          · rintro ⟨-, h2 | h2⟩
            · exact (h1.1 h2).1
            · rcases hc with hc | hc
              · rw [hoff j hc] at h2; cases h2
              · rw [hc]; exact h2
          · intro hF
            refine ⟨hj, ?_⟩
            rcases hc with hc | hc
            · exact .inl (h1.2 ⟨hF, hc⟩)
            · exact .inr (hc ▸ hF)
      rw [this]
    · rw [if_neg c]
      refine qsum_zero fun x hx => if_neg fun h => c ?_
      rw [msT_iff] at h
      rw [List.all_eq_true]
      intro j hj
      have hj := List.mem_range.1 hj
      rw [Bool.or_eq_true, beq_iff_eq]
      cases hl : lonB n ring t j with
      | true => exact .inl rfl
      | false =>
        refine .inr ?_
        have h1 := h j hj
        rw [mem_tset] at h1
        rw [Bool.eq_iff_iff, ← h1]
        constructor
        · rintro ⟨-, h2 | h2⟩
          · rw [(hin x hx j h2).2] at hl; cases hl
          · exact h2
        · exact fun h2 => ⟨hj, .inr h2⟩
/-- What a row comes to is the mean of what the rows with one more come to. -/
theorem Wt_step {n : Nat} {ring : Bool} (t F : Nat → Bool) (hirr : ∀ i, i < n → adjS n ring i i = false) (h : (List.range n).filter (lonB n ring t) ≠ []) :
    ((((List.range n).filter (lonB n ring t)).length : Nat) : Rat) * Wt n ring t F = qsum (fun p => Wt n ring (fun i => t i || decide (i = p)) F) ((List.range n).filter (lonB n ring t)) := by
  have hlon : ∀ p, p < n → lonB n ring t p = true → ∀ i, i < n → lonB n ring (fun i => t i || decide (i = p)) i = (lonB n ring t i && !(i == p || adjS n ring p i)) := by
    intro p hp hlp i hi
    unfold lonB
    rw [Bool.eq_iff_iff]
    simp only [Bool.and_eq_true, Bool.not_eq_true', Bool.or_eq_false_iff, decide_eq_false_iff_not, List.all_eq_true, List.mem_range, Bool.and_eq_false_iff, beq_eq_false_iff_ne, ne_eq]
    constructor
    · rintro ⟨⟨h1, h2⟩, h3⟩
      refine ⟨⟨h1, fun j hj => ?_⟩, h2, ?_⟩
      · rcases h3 j hj with h4 | h4
        · exact .inl h4
        · exact .inr h4.1
      · rcases h3 p hp with h4 | h4
        · rw [adjS_symm]; exact h4
        · exact absurd rfl h4.2
    · rintro ⟨⟨h1, h2⟩, h3, h4⟩
      refine ⟨⟨h1, h3⟩, fun j hj => ?_⟩
      by_cases e : j = p
      · subst e; exact .inl (by rw [adjS_symm]; exact h4)
      · rcases h2 j hj with h5 | h5
        · exact .inl h5
        · exact .inr ⟨h5, e⟩
  have hA : ∀ p, p ∈ (List.range n).filter (lonB n ring t) → (List.range n).filter (lonB n ring fun i => t i || decide (i = p)) = restF (adjS n ring) ((List.range n).filter (lonB n ring t)) p := by
    intro p hp
    rw [List.mem_filter, List.mem_range] at hp
    unfold restF
    rw [List.filter_filter]
    refine List.filter_congr fun i hi => ?_
    rw [hlon p hp.1 hp.2 i (List.mem_range.1 hi), Bool.and_comm]
  by_cases c : ((List.range n).all fun i => lonB n ring t i || F i == t i) = true
  · unfold Wt
    rw [if_pos c, Vq_step h]
    rw [List.all_eq_true] at c
    refine qsum_congr fun p hp => ?_
    rw [hA p hp]
    have hp' := List.mem_filter.1 hp
    have hpn := List.mem_range.1 hp'.1
    have : okF (adjS n ring) F ((List.range n).filter (lonB n ring t)) p = (List.range n).all fun i => (lonB n ring fun i => t i || decide (i = p)) i || F i == (t i || decide (i = p)) := by
      rw [Bool.eq_iff_iff, List.all_eq_true]
      unfold okF
      rw [Bool.and_eq_true, List.all_eq_true]
      constructor
      · rintro ⟨h1, h2⟩ i hi
        have hi' := List.mem_range.1 hi
        rw [hlon p hpn hp'.2 i hi']
        have hc := c i hi
        rw [Bool.or_eq_true, beq_iff_eq] at hc ⊢
        by_cases e : i = p
        · subst e; right; rw [h1]; simp
        · rw [decide_eq_false e, Bool.or_false]
          rcases hc with hc | hc
          · have h3 := h2 i (List.mem_filter.2 ⟨hi, hc⟩)
            rw [hc, beq_eq_false_iff_ne.mpr e, Bool.true_and, Bool.false_or]
            cases ha : adjS n ring p i with
            | false => left; rfl
            | true =>
              right
              rw [ha, Bool.true_and, Bool.not_eq_true'] at h3
              rw [h3]
              unfold lonB at hc
              rw [Bool.and_eq_true, Bool.not_eq_true'] at hc
              exact hc.1.symm
          · exact .inr hc
      · intro hh
        have h0 : F p = true := by
          have := hh p hp'.1
          rw [hlon p hpn hp'.2 p hpn, Bool.or_eq_true, beq_iff_eq] at this
          rcases this with h1 | h1
          · simp at h1
          · rw [h1]; simp
        refine ⟨h0, fun q hq => ?_⟩
        rw [Bool.not_eq_true', Bool.and_eq_false_iff]
        cases ha : adjS n ring p q with
        | false => left; rfl
        | true =>
          right
          rw [List.mem_filter] at hq
          have hqn := List.mem_range.1 hq.1
          have hqp : q ≠ p := fun e => by subst e; rw [hirr q hqn] at ha; cases ha
          have h1 := hh q hq.1
          rw [hlon p hpn hp'.2 q hqn, ha, Bool.or_true, Bool.not_true, Bool.and_false, Bool.false_or, beq_iff_eq, decide_eq_false hqp, Bool.or_false] at h1
          rw [h1]
          have := hq.2
          unfold lonB at this
          rw [Bool.and_eq_true, Bool.not_eq_true'] at this
          exact this.1
    rw [this]
  · unfold Wt
    rw [if_neg c, Rat.mul_zero]
    refine (qsum_zero fun p hp => if_neg fun hh => c ?_).symm
    have hp' := List.mem_filter.1 hp
    have hpn := List.mem_range.1 hp'.1
    rw [List.all_eq_true] at hh ⊢
    intro i hi
    have h1 := hh i hi
    have hi' := List.mem_range.1 hi
    rw [hlon p hpn hp'.2 i hi', Bool.or_eq_true, beq_iff_eq] at h1
    rw [Bool.or_eq_true, beq_iff_eq]
    rcases h1 with h1 | h1
    · rw [Bool.and_eq_true] at h1; exact .inl h1.1
    · by_cases e : i = p
      · subst e; exact .inl hp'.2
      · simp only [decide_eq_false e, Bool.or_false] at h1
        exact .inr h1
theorem Wt_end {n : Nat} {ring : Bool} (t F : Nat → Bool) (h : (List.range n).filter (lonB n ring t) = []) : Wt n ring t F = if ((List.range n).all fun i => F i == t i) = true then 1 else 0 := by
  unfold Wt
  rw [h, Vq_nil]
  have : ((List.range n).all fun i => lonB n ring t i || F i == t i) = (List.range n).all fun i => F i == t i := by
    rw [Bool.eq_iff_iff, List.all_eq_true, List.all_eq_true]
    refine ⟨fun a i hi => ?_, fun a i hi => by rw [a i hi, Bool.or_true]⟩
    have := a i hi
    rw [List.filter_eq_nil_iff] at h
    have h2 := h i hi
    rw [Bool.not_eq_true] at h2
    rwa [h2, Bool.false_or] at this
  rw [this]
/-- A fraction in lowest terms, as two numbers. -/
def fr (q : Rat) : Int × Int := (q.num, (q.den : Int))
theorem fr_cut (a : Int) (b : Nat) (hb : 0 < b) : (a / ((Nat.gcd a.natAbs b : Nat) : Int), (b : Int) / ((Nat.gcd a.natAbs b : Nat) : Int)) = fr ((a : Rat) / (b : Rat)) := by
  rw [← Rat.mkRat_eq_div]
  unfold fr
  rw [Rat.num_mkRat, Rat.den_mkRat, if_neg (by omega), if_neg (by omega), Nat.gcd_comm b a.natAbs]
  simp
theorem num_eq (q : Rat) : (q.num : Rat) = q * (q.den : Rat) := by
  have h1 : q = mkRat q.num q.den := (Rat.mkRat_self q).symm
  rw [Rat.mkRat_eq_div] at h1
  have h2 : ((q.den : Nat) : Rat) ≠ 0 := by
    intro e
    have : ((q.den : Nat) : Rat) = ((0 : Nat) : Rat) := e
    rw [Rat.natCast_inj] at this
    exact q.den_nz this
  have h3 : (q.num : Rat) / (q.den : Rat) * (q.den : Rat) = q.num := by grind
  rw [← h1] at h3; exact h3.symm
theorem natCast_ne {m : Nat} (h : 0 < m) : (m : Rat) ≠ 0 := by
  intro e
  have : ((m : Nat) : Rat) = ((0 : Nat) : Rat) := e
  rw [Rat.natCast_inj] at this
  omega
theorem plus_val (p q : Rat) (c : Nat) (hc : c = Nat.gcd p.den q.den) : ((p.num * ((q.den / c : Nat) : Int) + q.num * ((p.den / c : Nat) : Int) : Int) : Rat) / ((p.den / c * q.den : Nat) : Rat) = p + q := by
  have hp := num_eq p
  have hq := num_eq q
  obtain ⟨u, hu⟩ : c ∣ p.den := hc ▸ Nat.gcd_dvd_left _ _
  obtain ⟨v, hv⟩ : c ∣ q.den := hc ▸ Nat.gcd_dvd_right _ _
  have hp0 := p.den_nz
  have hq0 := q.den_nz
  have c0 : 0 < c := by
    rcases Nat.eq_zero_or_pos c with h | h
    · rw [h, Nat.zero_mul] at hu; exact absurd hu hp0
    · exact h
  have u0 : 0 < u := by
    rcases Nat.eq_zero_or_pos u with h | h
    · rw [h, Nat.mul_zero] at hu; exact absurd hu hp0
    · exact h
  have v0 : 0 < v := by
    rcases Nat.eq_zero_or_pos v with h | h
    · rw [h, Nat.mul_zero] at hv; exact absurd hv hq0
    · exact h
  have e1 : p.den / c = u := by rw [hu, Nat.mul_div_cancel_left _ c0]
  have e2 : q.den / c = v := by rw [hv, Nat.mul_div_cancel_left _ c0]
  rw [e1, e2, Rat.intCast_add, Rat.intCast_mul, Rat.intCast_mul, hp, hq, Rat.natCast_mul, Rat.intCast_natCast, Rat.intCast_natCast]
  rw [hv, hu, Rat.natCast_mul, Rat.natCast_mul]
  have hc' := natCast_ne c0
  have hu' := natCast_ne u0
  have hv' := natCast_ne v0
  generalize (c : Rat) = C at *
  generalize (u : Rat) = U at *
  generalize (v : Rat) = V at *
  grind
/-- What is m parts of D has lowest terms within D. -/
theorem den_dvd {q : Rat} {m D : Nat} (hD : 0 < D) (h : q * (D : Rat) = (m : Rat)) : q.den ∣ D ∧ 0 ≤ q.num ∧ q.num ≤ m := by
  have hD' := natCast_ne hD
  have e : q = mkRat (m : Int) D := by
    rw [Rat.mkRat_eq_div, Rat.intCast_natCast]; grind
  have h1 : q.den = D / D.gcd m := by rw [e, Rat.den_mkRat, if_neg (by omega)]; simp
  have h2 : q.num = (m : Int) / ((D.gcd m : Nat) : Int) := by rw [e, Rat.num_mkRat, if_neg (by omega)]; simp
  refine ⟨h1 ▸ Nat.div_dvd_of_dvd (Nat.gcd_dvd_left _ _), ?_, ?_⟩
  · rw [h2]; exact Int.ediv_nonneg (by omega) (by omega)
  · rw [h2]; exact Int.ediv_le_self _ (by omega)
/-- Is no one of l beside x? -/
def loneB (m : Nat) (ring : Bool) (l : List Int) (x : Int) : Bool := (Base.sel m fun i => decide (gapF m ring x (i : Int) = 1)).all fun y => !decide (y ∈ l)
theorem sz_big {l : List Int} (h : 1048576 < l.length) (hm : l.length ≤ maxLen) : laws_szIntS.f l 1048576 = some (-1) := by
  unfold maxLen at hm
  unfold laws_szIntS.f
  rw [w64 (by omega) (by omega), if_pos (by omega)]
theorem sz_ok {l : List Int} {m : Int} (h : (l.length : Int) ≤ m) (hm : m ≤ 1048576) : laws_szIntS.f l m = some (m - l.length) := by
  unfold laws_szIntS.f
  rw [w64 (by omega) (by omega), if_neg (by omega)]
theorem szRow_big {a : Int} {b : Bool} {l : List Int} (h : 1048576 < l.length) (hm : l.length ≤ maxLen) : laws_szRow.f a b l 1048576 = some (-1) := by
  unfold laws_szRow.f
  rw [sz_big h hm]
  rfl
theorem szRow_ok {a : Int} {b : Bool} {l : List Int} {m : Int} (h : (l.length : Int) ≤ m) (hm : m ≤ 1048576) : laws_szRow.f a b l m = some (m - l.length) := by
  unfold laws_szRow.f
  rw [sz_ok h hm]
  simp only [Option.bind_some]
  rw [if_neg (by omega)]
theorem in_spec (a lo hi : Int) : spec_l1In.f a lo hi = some (decide (lo ≤ a ∧ a ≤ hi)) := by
  unfold spec_l1In.f
  split
  · congr 1; simp; omega
  · congr 1; simp; omega
theorem rising_loop (l : List Int) (m : Int) (hl : l.length ≤ 1048576) : ∀ d j, j + d = l.length → Ev (fun k => spec_l1Rising.l0 k l 0 m (j : Int)) (okFrom m l d j)
  | 0, j, h => by
    apply evshift
    simp only [spec_l1Rising.l0]
    exact evn (by omega) (evs _)
  | d + 1, j, h => by
    have ih := rising_loop l m hl d (j + 1) (by omega)
    apply evshift
    simp only [spec_l1Rising.l0, in_spec, Option.bind_some]
    refine evp (by omega) (evp (by omega) ?_)
    simp only [okFrom, okAt]
    by_cases h1 : 0 ≤ rd l (j : Int) ∧ rd l (j : Int) ≤ m
    · refine evp (by simpa using h1) ?_
      rw [decide_eq_true h1, Bool.true_and]
      by_cases h2 : j = 0
      · refine evn (by omega) ?_
        rw [wnext j (by omega), decide_eq_true h2, Bool.true_or, Bool.true_and]
        exact ih
      · refine evp (by omega) ?_
        rw [w64 (by omega) (by omega)]
        refine evp (by omega) (evp (by omega) ?_)
        by_cases h3 : rd l ((j : Int) - 1) < rd l (j : Int)
        · refine evn (by omega) ?_
          rw [wnext j (by omega)]
          simpa [h3] using ih
        · refine evp (by omega) ?_
          simpa [h2, h3] using evs false
    · refine evn (by simpa using h1) ?_
      simpa [h1] using evs false
theorem ev_rising (l : List Int) (m : Int) (hl : l.length ≤ 1048576) : Ev (fun k => spec_l1Rising.f k l 0 m) (okFrom m l l.length 0) := by
  unfold spec_l1Rising.f
  exact rising_loop l m hl l.length 0 (by omega)
theorem ev_l2Row (n : Int) (ring : Bool) (l : List Int) (hl : l.length ≤ 1048576) : Ev (fun k => spec_l2Row.f k n ring l) (rowB n ring l) := by
  unfold spec_l2Row.f
  simp only [in_spec, Option.bind_some, rowB]
  by_cases h1 : 2 ≤ n ∧ n ≤ 24
  · refine evp (by simpa using h1) ?_
    rw [w64 (by omega) (by omega)]
    cases ring with
    | true =>
      refine evp rfl ?_
      by_cases h2 : n > 2
      · refine evp h2 (evb (ev_rising l _ hl) ?_)
        have h3 : 3 ≤ n := by omega
        simpa [h1, h3] using evs _
      · refine evn h2 ?_
        have h3 : ¬ 3 ≤ n := by omega
        simpa [h3] using evs false
    | false =>
      refine evn (by simp) (evb (ev_rising l _ hl) ?_)
      simpa [h1] using evs _
  · refine evn (by simpa using h1) ?_
    simpa [h1] using evs false
theorem l1Has_loop (l : List Int) (x : Int) (hl : l.length ≤ 1048576) : ∀ d j, j + d = l.length → Ev (fun k => spec_l1Has.l0 k l x (j : Int)) (decide (x ∈ l.drop j))
  | 0, j, h => by
    apply evshift
    simp only [spec_l1Has.l0]
    refine evn (by omega) ?_
    rw [List.drop_eq_nil_of_le (by omega)]
    simpa using evs false
  | d + 1, j, h => by
    have ih := l1Has_loop l x hl d (j + 1) (by omega)
    apply evshift
    simp only [spec_l1Has.l0]
    refine evp (by omega) (evp (by omega) ?_)
    rw [drop_cons (by omega : j < l.length)]
    by_cases h1 : rd l (j : Int) = x
    · refine evp h1 ?_
      simpa [h1] using evs true
    · refine evn h1 ?_
      have h2 : ¬ x = rd l (j : Int) := fun h => h1 h.symm
      rw [wnext j (by omega)]
      simpa [h2] using ih
theorem ev_l1Has (l : List Int) (x : Int) (hl : l.length ≤ 1048576) : Ev (fun k => spec_l1Has.f k l x) (decide (x ∈ l)) := by
  unfold spec_l1Has.f
  have h := l1Has_loop l x hl l.length 0 (by omega)
  simpa using h
theorem ev_l2Is (n : Int) (ring : Bool) (l : List Int) (x : Int) (hl : l.length ≤ 1048576) : Ev (fun k => spec_l2Is.f k n ring l x) (decide (x ∈ l)) := by
  unfold spec_l2Is.f
  exact evb (ev_l1Has l x hl) (evs _)
theorem l2Free_loop (n : Nat) (ring : Bool) (l : List Int) (hl : l.length ≤ 1048576) (hn : n ≤ 1048576) : ∀ d j, j + d = n → Ev (fun k => spec_l2Free.l0 k (sel j fun i => !decide ((i : Int) ∈ l)) (j : Int) (n : Int) ring l) (sel n fun i => !decide ((i : Int) ∈ l))
  | 0, j, h => by
    obtain rfl : j = n := by omega
    apply evshift
    simp only [spec_l2Free.l0]
    exact evn (by omega) (evs _)
  | d + 1, j, h => by
    have ih := l2Free_loop n ring l hl hn d (j + 1) (by omega)
    have hs := sel_len_le j fun i => !decide ((i : Int) ∈ l)
    rw [sel_succ] at ih
    apply evshift
    simp only [spec_l2Free.l0]
    refine evp (by omega) (evb (ev_l2Is (n : Int) ring l (j : Int) hl) ?_)
    by_cases h1 : (j : Int) ∈ l
    · refine evp (by simpa using h1) ?_
      rw [wnext j (by omega)]
      simpa [h1] using ih
    · refine evn (by simpa using h1) (evp (by omega) ?_)
      rw [wnext j (by omega)]
      simpa [h1] using ih
theorem ev_l2Free (n : Nat) (ring : Bool) (l : List Int) (hl : l.length ≤ 1048576) (hn : n ≤ 1048576) : Ev (fun k => spec_l2Free.f k (n : Int) ring l) (sel n fun i => !decide ((i : Int) ∈ l)) := by
  unfold spec_l2Free.f
  have h := l2Free_loop n ring l hl hn n 0 (by omega)
  simpa [sel] using h
theorem l1Most (a b : Int) : spec_l1Most.f a b = some (mx a b) := mx_spec a b
theorem l1Least (a b : Int) : spec_l1Least.f a b = some (mn a b) := mn_spec a b
theorem l2Gap {n a b : Int} {ring : Bool} {l : List Int} (h1 : 0 ≤ a) (h2 : a ≤ 1048576) (h3 : 0 ≤ b) (h4 : b ≤ 1048576) (h5 : 0 ≤ n) (h6 : n ≤ 1048576) : spec_l2Gap.f n ring l a b = some (gapF n ring a b) := by
  have hb := mx_bd (a := a - b) (b := b - a) (B := 1048576) (by omega) (by omega) (by omega) (by omega)
  unfold spec_l2Gap.f gapF
  rw [w64 (by omega) (by omega), w64 (by omega) (by omega)]
  simp only [l1Most, l1Least, Option.bind_some]
  rw [w64 (by omega) (by omega)]
  split <;> rfl
theorem l2Near_loop (n : Nat) (ring : Bool) (l : List Int) (p : Int) (h1 : 0 ≤ p) (h2 : p ≤ 1048576) (hn : n ≤ 1048576) : ∀ d j, j + d = n → Ev (fun k => spec_l2Near.l0 k p (sel j fun i => decide (gapF n ring p (i : Int) = 1)) (j : Int) (n : Int) ring l) (sel n fun i => decide (gapF n ring p (i : Int) = 1))
  | 0, j, h => by
    obtain rfl : j = n := by omega
    apply evshift
    simp only [spec_l2Near.l0]
    exact evn (by omega) (evs _)
  | d + 1, j, h => by
    have ih := l2Near_loop n ring l p h1 h2 hn d (j + 1) (by omega)
    have hs := sel_len_le j fun i => decide (gapF n ring p (i : Int) = 1)
    rw [sel_succ] at ih
    apply evshift
    simp only [spec_l2Near.l0]
    refine evp (by omega) (evc (l2Gap h1 h2 (by omega) (by omega) (by omega) (by omega)) ?_)
    rw [wnext j (by omega)]
    by_cases c : gapF n ring p (j : Int) = 1
    · refine evp c (evp (by omega) ?_)
      simpa [c] using ih
    · refine evn c ?_
      simpa [c] using ih
theorem ev_l2Near (n : Nat) (ring : Bool) (l : List Int) (p : Int) (h1 : 0 ≤ p) (h2 : p ≤ 1048576) (hn : n ≤ 1048576) : Ev (fun k => spec_l2Near.f k (n : Int) ring l p) (sel n fun i => decide (gapF n ring p (i : Int) = 1)) := by
  unfold spec_l2Near.f
  have h := l2Near_loop n ring l p h1 h2 hn n 0 (by omega)
  simpa [sel] using h
theorem l2Lonely_inner (n : Nat) (ring : Bool) (l acc F near : List Int) (i : Nat) (r : List Int) (hl : l.length ≤ 1048576) (hn : near.length ≤ 1048576) (hi : i < F.length) (hF : F.length ≤ 1048576) (ha : acc.length ≤ 1048576) : ∀ d j (flag : Bool), j + d = near.length →
    Ev (fun k => spec_l2Lonely.l0 k (if (flag && (near.drop j).all fun y => !decide (y ∈ l)) = true then acc ++ [rd F (i : Int)] else acc) F ((i + 1 : Nat) : Int) (n : Int) ring l) r →
    Ev (fun k => spec_l2Lonely.l1 k acc F (i : Int) near flag (j : Int) (n : Int) ring l) r
  | 0, j, flag, h, H => by
    obtain rfl : j = near.length := by omega
    rw [List.drop_length, List.all_nil, Bool.and_true] at H
    apply evshift
    simp only [spec_l2Lonely.l1]
    refine evn (by omega) ?_
    rw [wnext i (by omega)]
    cases flag with
    | false => rw [if_neg (by simp)] at H; exact evn (by simp) H
    | true => rw [if_pos rfl] at H; exact evp rfl (evp (by omega) (evp (by omega) (evp (by omega) H)))
  | d + 1, j, flag, h, H => by
    rw [drop_cons (by omega : j < near.length), List.all_cons] at H
    apply evshift
    simp only [spec_l2Lonely.l1]
    refine evp (by omega) ?_
    rw [wnext j (by omega)]
    cases flag with
    | false =>
      exact evn (by simp) (l2Lonely_inner n ring l acc F near i r hl hn hi hF ha d (j + 1) false (by omega) (by simpa using H))
    | true =>
      refine evp rfl (evp (by omega) (evb (ev_l2Is n ring l _ hl) ?_))
      exact l2Lonely_inner n ring l acc F near i r hl hn hi hF ha d (j + 1) _ (by omega) (by simpa using H)
theorem l2Lonely_outer (n : Nat) (ring : Bool) (l F : List Int) (hl : l.length ≤ 1048576) (hF : F.length ≤ 1048576) (hm : ∀ x ∈ F, 0 ≤ x ∧ x < (n : Int)) (hn : n ≤ 1048576) : ∀ d i (acc : List Int), i + d = F.length → acc.length ≤ i →
    Ev (fun k => spec_l2Lonely.l0 k acc F (i : Int) (n : Int) ring l) (acc ++ (F.drop i).filter (loneB n ring l))
  | 0, i, acc, h, _ => by
    apply evshift
    simp only [spec_l2Lonely.l0]
    refine evn (by omega) ?_
    rw [List.drop_eq_nil_of_le (by omega), List.filter_nil, List.append_nil]
    exact evs _
  | d + 1, i, acc, h, ha => by
    have r := rd_bd hm (by omega : i < F.length)
    apply evshift
    simp only [spec_l2Lonely.l0]
    refine evp (by omega) (evp (by omega) (evb (ev_l2Near n ring l _ (by omega) (by omega) hn) ?_))
    have hs := sel_len_le n fun j => decide (gapF n ring (rd F (i : Int)) (j : Int) = 1)
    refine l2Lonely_inner n ring l acc F _ i _ hl (by omega) (by omega) hF (by omega) _ 0 true (by rw [Nat.zero_add]) ?_
    rw [List.drop_zero, Bool.true_and, drop_cons (by omega : i < F.length), List.filter_cons]
    show Ev (fun k => spec_l2Lonely.l0 k (if loneB n ring l (rd F (i : Int)) = true then _ else acc) F ((i + 1 : Nat) : Int) (n : Int) ring l) _
    by_cases c : loneB n ring l (rd F (i : Int)) = true
    · rw [if_pos c, if_pos c]
      have ih := l2Lonely_outer n ring l F hl hF hm hn d (i + 1) (acc ++ [rd F (i : Int)]) (by omega) (by simp; omega)
      simpa using ih
    · rw [if_neg c, if_neg c]
      exact l2Lonely_outer n ring l F hl hF hm hn d (i + 1) acc (by omega) (by omega)
theorem ev_l2Lonely (n : Nat) (ring : Bool) (l : List Int) (hl : l.length ≤ 1048576) (hn : n ≤ 1048576) : Ev (fun k => spec_l2Lonely.f k (n : Int) ring l) ((sel n fun i => !decide ((i : Int) ∈ l)).filter (loneB n ring l)) := by
  unfold spec_l2Lonely.f
  refine evb (ev_l2Free n ring l hl hn) ?_
  have hs := sel_len_le n fun i => !decide ((i : Int) ∈ l)
  have h := l2Lonely_outer n ring l (sel n fun i => !decide ((i : Int) ∈ l)) hl (by omega) (fun x hx => by
    obtain ⟨i, h1, _, rfl⟩ := mem_sel.1 hx
    omega) hn _ 0 [] (by rw [Nat.zero_add]) (by simp)
  simpa using h
theorem l1Put_loop (l : List Int) (x : Int) (hl : l.length ≤ 1048576) (hp : l.Pairwise (· < ·)) : ∀ d j, j + d = l.length → (∀ y ∈ l.take j, y < x) →
    ∃ R : List Int, Ev (fun k => spec_l1Put.l0 k l x (j : Int)) R ∧ R.Pairwise (· < ·) ∧ (∀ y, y ∈ R ↔ y = x ∨ y ∈ l) ∧ R.length ≤ l.length + 1
  | 0, j, h, hb => by
    obtain rfl : j = l.length := by omega
    rw [List.take_length] at hb
    refine ⟨l ++ [x], ?_, ?_, fun y => by simp [or_comm], by simp⟩
    · apply evshift
      simp only [spec_l1Put.l0, Option.bind_some, Int.toNat_natCast, List.take_length, List.drop_length, List.nil_append, List.length_nil, List.length_append, List.length_singleton, List.append_nil]
      refine evn (by omega) ?_
      repeat (first | exact evs _ | (refine evp ?hc ?_; (case hc => omega)) | (refine evn ?hc ?_; (case hc => omega)))
    · refine List.pairwise_append.2 ⟨hp, List.pairwise_singleton _ _, fun a ha b hb' => ?_⟩
      rw [List.mem_singleton.1 hb']; exact hb a ha
  | d + 1, j, h, hb => by
    have hj : j < l.length := by omega
    by_cases c1 : rd l (j : Int) < x
    · obtain ⟨R, h1, h2⟩ := l1Put_loop l x hl hp d (j + 1) (by omega) (fun y hy => by
        rw [List.take_succ_eq_append_getElem hj, List.mem_append, List.mem_singleton] at hy
        rcases hy with hy | rfl
        · exact hb y hy
        · rw [rd_lt hj] at c1; exact c1)
      refine ⟨R, ?_, h2⟩
      apply evshift
      simp only [spec_l1Put.l0]
      refine evp (by omega) (evp (by omega) (evp c1 ?_))
      rw [wnext j (by omega)]
      exact h1
    · by_cases c2 : rd l (j : Int) = x
      · refine ⟨l, ?_, hp, fun y => ⟨.inr, fun hy => ?_⟩, by omega⟩
        · apply evshift
          simp only [spec_l1Put.l0]
          exact evp (by omega) (evp (by omega) (evn c1 (evp c2 (evs _))))
        · rcases hy with rfl | hy
          · rw [← c2]; exact rd_mem hj
          · exact hy
      · have hd : ∀ y ∈ l.drop j, x < y := fun y hy => by
          rw [drop_cons hj, List.mem_cons] at hy
          rcases hy with rfl | hy
          · omega
          · have := hp.sublist (List.drop_sublist j l)
            rw [drop_cons hj, List.pairwise_cons] at this
            have := this.1 y hy
            omega
        refine ⟨l.take j ++ [x] ++ l.drop j, ?_, ?_, fun y => ?_, by simp; omega⟩
        · apply evshift
          simp only [spec_l1Put.l0, Option.bind_some, Int.toNat_natCast, List.nil_append, List.length_nil, List.length_append, List.length_singleton, List.length_take, List.length_drop]
          refine evp (by omega) (evp (by omega) (evn c1 (evn c2 ?_)))
          repeat (first | exact evs _ | (refine evp ?hc ?_; (case hc => omega)) | (refine evn ?hc ?_; (case hc => omega)))
        · rw [List.append_assoc]
          refine List.pairwise_append.2 ⟨hp.sublist (List.take_sublist j l), ?_, fun a ha b hb' => ?_⟩
          · rw [List.singleton_append, List.pairwise_cons]
            exact ⟨hd, hp.sublist (List.drop_sublist j l)⟩
          · rw [List.singleton_append, List.mem_cons] at hb'
            have := hb a ha
            rcases hb' with rfl | hb'
            · exact this
            · have := hd b hb'; omega
        · have e : y ∈ l ↔ y ∈ l.take j ∨ y ∈ l.drop j := by rw [← List.mem_append, List.take_append_drop]
          rw [e, List.mem_append, List.mem_append, List.mem_singleton]
          constructor
          · rintro ((h | h) | h)
            · exact .inr (.inl h)
            · exact .inl h
            · exact .inr (.inr h)
          · rintro (h | h | h)
            · exact .inl (.inr h)
            · exact .inl (.inl h)
            · exact .inr h
theorem ev_l1Put (l : List Int) (x : Int) (hl : l.length ≤ 1048576) (hp : l.Pairwise (· < ·)) : ∃ R : List Int, Ev (fun k => spec_l1Put.f k l x) R ∧ R.Pairwise (· < ·) ∧ (∀ y, y ∈ R ↔ y = x ∨ y ∈ l) ∧ R.length ≤ l.length + 1 := by
  unfold spec_l1Put.f
  exact l1Put_loop l x hl hp l.length 0 (by omega) (by simp)
theorem l1Same_loop (a b : List Int) (h : a.length = b.length) (hl : a.length ≤ 1048576) : ∀ d j, j + d = a.length → Ev (fun k => spec_l1Same.l0 k a b (j : Int)) (decide (a.drop j = b.drop j))
  | 0, j, hj => by
    apply evshift
    simp only [spec_l1Same.l0]
    refine evn (by omega) ?_
    rw [List.drop_eq_nil_of_le (by omega), List.drop_eq_nil_of_le (by omega)]
    exact evs _
  | d + 1, j, hj => by
    have ih := l1Same_loop a b h hl d (j + 1) (by omega)
    have h1 : j < a.length := by omega
    have h2 : j < b.length := by omega
    rw [drop_cons h1, drop_cons h2]
    apply evshift
    simp only [spec_l1Same.l0]
    refine evp (by omega) (evp (by omega) (evp (by omega) ?_))
    rw [wnext j (by omega)]
    by_cases c : rd a (j : Int) = rd b (j : Int)
    · refine evp c (eve ih ?_)
      rw [c, Bool.eq_iff_iff, decide_eq_true_eq, decide_eq_true_eq, List.cons.injEq]
      exact ⟨fun x => ⟨rfl, x⟩, fun x => x.2⟩
    · refine evn c (eve (evs _) ?_)
      symm
      rw [decide_eq_false_iff_not, List.cons.injEq]
      exact fun x => c x.1
theorem ev_l1Same (a b : List Int) (hl : a.length ≤ 1048576) : Ev (fun k => spec_l1Same.f k a b) (decide (a = b)) := by
  unfold spec_l1Same.f
  by_cases c : a.length = b.length
  · refine evp (by omega) ?_
    have := l1Same_loop a b c hl a.length 0 (by omega)
    rwa [List.drop_zero, List.drop_zero] at this
  · refine evn (by omega) (eve (evs _) ?_)
    symm
    rw [decide_eq_false_iff_not]
    exact fun e => c (by rw [e])
theorem l2Gcd_loop : ∀ b a : Nat, Ev (fun k => spec_l2Gcd.l0 k (a : Int) (b : Int)) ((Nat.gcd a b : Nat) : Int) := by
  intro b
  induction b using Nat.strongRecOn with
  | ind b ih =>
    intro a
    apply evshift
    simp only [spec_l2Gcd.l0]
    by_cases c : b = 0
    · subst c
      rw [Nat.gcd_zero_right]
      exact evn (by omega) (evs _)
    · refine evp (by omega) (evn (by omega) ?_)
      rw [show Int.tmod (a : Int) (b : Int) = ((a % b : Nat) : Int) from (Int.ofNat_tmod a b).symm]
      have h := ih (a % b) (Nat.mod_lt _ (by omega)) b
      rwa [show Nat.gcd b (a % b) = Nat.gcd a b by rw [Nat.gcd_comm b, ← Nat.gcd_rec, Nat.gcd_comm]] at h
theorem ev_l2Gcd (a b : Nat) : Ev (fun k => spec_l2Gcd.f k (a : Int) (b : Int)) ((Nat.gcd a b : Nat) : Int) := by
  unfold spec_l2Gcd.f
  exact l2Gcd_loop b a
theorem ev_l2Cut (a b : Nat) (hb : 0 < b) (ha : a < 4611686018427387904) (hb2 : b < 4611686018427387904) : Ev (fun k => spec_l2Cut.f k (a : Int) (b : Int)) (fr ((a : Rat) / (b : Rat))) := by
  unfold spec_l2Cut.f
  rw [w64 (x := -(a : Int)) (by omega) (by omega)]
  have hm : spec_l1Most.f (a : Int) (-(a : Int)) = some (a : Int) := by
    unfold spec_l1Most.f
    split
    · rfl
    · congr 1; omega
  have hg : 0 < Nat.gcd a b := Nat.gcd_pos_of_pos_right _ hb
  refine evc hm (evb (ev_l2Gcd a b) (evn (by omega) ?_))
  have e := fr_cut (a : Int) b hb
  rw [Int.natAbs_natCast, Rat.intCast_natCast] at e
  rw [show Int.tdiv (a : Int) ((Nat.gcd a b : Nat) : Int) = ((a / Nat.gcd a b : Nat) : Int) from (Int.ofNat_tdiv _ _).symm, show Int.tdiv (b : Int) ((Nat.gcd a b : Nat) : Int) = ((b / Nat.gcd a b : Nat) : Int) from (Int.ofNat_tdiv _ _).symm]
  have h1 : a / Nat.gcd a b ≤ a := Nat.div_le_self _ _
  have h2 : b / Nat.gcd a b ≤ b := Nat.div_le_self _ _
  rw [← Int.natCast_ediv, ← Int.natCast_ediv] at e
  rw [← e]
  clear e
  generalize a / Nat.gcd a b = x at *
  generalize b / Nat.gcd a b = y at *
  rw [w64 (by omega) (by omega), w64 (by omega) (by omega)]
  exact evs _
theorem ev_l2Plus (p q : Rat) (u v D m : Nat) (hD : 0 < D) (hD2 : D ≤ 479001600) (hu : p * (D : Rat) = (u : Rat)) (hv : q * (D : Rat) = (v : Rat)) (hu2 : u ≤ m) (hv2 : v ≤ m) (hm : m ≤ 4294967296) :
    Ev (fun k => spec_l2Plus.f k (fr p).1 (fr p).2 (fr q).1 (fr q).2) (fr (p + q)) := by
  obtain ⟨dp, np0, np⟩ := den_dvd hD hu
  obtain ⟨dq, nq0, nq⟩ := den_dvd hD hv
  have lp := Nat.le_of_dvd hD dp
  have lq := Nat.le_of_dvd hD dq
  have pp := p.den_nz
  have pq := q.den_nz
  have hc : 0 < Nat.gcd p.den q.den := Nat.gcd_pos_of_pos_left _ (by omega)
  obtain ⟨a, ha⟩ : ∃ a : Nat, p.num = a := ⟨p.num.toNat, by omega⟩
  obtain ⟨b, hb⟩ : ∃ b : Nat, q.num = b := ⟨q.num.toNat, by omega⟩
  have e := plus_val p q _ rfl
  unfold fr
  rw [ha, hb] at e
  simp only [ha, hb]
  rw [ha] at np
  rw [hb] at nq
  clear hu hv np0 nq0
  generalize p.den = d1 at *
  generalize q.den = d2 at *
  unfold spec_l2Plus.f
  have q1 : d1 / Nat.gcd d1 d2 ≤ d1 := Nat.div_le_self _ _
  have q2 : d2 / Nat.gcd d1 d2 ≤ d2 := Nat.div_le_self _ _
  have p1 : 0 < d1 / Nat.gcd d1 d2 := Nat.div_pos (Nat.le_of_dvd (by omega) (Nat.gcd_dvd_left _ _)) hc
  refine evb (ev_l2Gcd d1 d2) (evn (by omega) ?_)
  rw [show Int.tdiv (d2 : Int) ((Nat.gcd d1 d2 : Nat) : Int) = ((d2 / Nat.gcd d1 d2 : Nat) : Int) from (Int.ofNat_tdiv _ _).symm, show Int.tdiv (d1 : Int) ((Nat.gcd d1 d2 : Nat) : Int) = ((d1 / Nat.gcd d1 d2 : Nat) : Int) from (Int.ofNat_tdiv _ _).symm]
  generalize hx : d1 / Nat.gcd d1 d2 = x at *
  generalize hy : d2 / Nat.gcd d1 d2 = y at *
  have b1 : a * y ≤ 4294967296 * 479001600 := Nat.mul_le_mul (by omega) (by omega)
  have b2 : b * x ≤ 4294967296 * 479001600 := Nat.mul_le_mul (by omega) (by omega)
  have b3 : x * d2 ≤ 479001600 * 479001600 := Nat.mul_le_mul (by omega) (by omega)
  have i1 : (a : Int) * (y : Int) = ((a * y : Nat) : Int) := (Int.natCast_mul _ _).symm
  have i2 : (b : Int) * (x : Int) = ((b * x : Nat) : Int) := (Int.natCast_mul _ _).symm
  have i3 : (x : Int) * (d2 : Int) = ((x * d2 : Nat) : Int) := (Int.natCast_mul _ _).symm
  rw [w64 (x := (y : Int)) (by omega) (by omega), w64 (x := (x : Int)) (by omega) (by omega), i1, i2, i3, w64 (x := ((a * y : Nat) : Int)) (by omega) (by omega), w64 (x := ((b * x : Nat) : Int)) (by omega) (by omega),
    w64 (x := ((x * d2 : Nat) : Int)) (by omega) (by omega), ← Int.natCast_add, w64 (x := ((a * y + b * x : Nat) : Int)) (by omega) (by omega)]
  have h := ev_l2Cut (a * y + b * x) (x * d2) (Nat.mul_pos p1 (by omega)) (by omega) (by omega)
  rw [i1, i2, ← Int.natCast_add, Rat.intCast_natCast] at e
  rw [e] at h
  exact evb h (evs _)
theorem rm_num (p q : Rat) : (p * q).num = p.num / ((Nat.gcd p.num.natAbs q.den : Nat) : Int) * (q.num / ((Nat.gcd q.num.natAbs p.den : Nat) : Int)) := by
  show (Rat.mul p q).num = _
  unfold Rat.mul
  simp only [Int.divExact_eq_ediv]
theorem rm_den (p q : Rat) : (p * q).den = (p.den / (Nat.gcd q.num.natAbs p.den)) * (q.den / (Nat.gcd p.num.natAbs q.den)) := by
  show (Rat.mul p q).den = _
  unfold Rat.mul
  rfl
/-- A chance: so many D-ths, and no more than one. -/
def Nt (D : Nat) (q : Rat) : Prop := ∃ u : Nat, q * (D : Rat) = (u : Rat) ∧ u ≤ D
theorem Nt.den {D : Nat} {q : Rat} (h : Nt D q) (hD : 0 < D) : q.den ≤ D ∧ 0 ≤ q.num ∧ q.num ≤ D := by
  obtain ⟨u, h1, h2⟩ := h
  obtain ⟨a, b, c⟩ := den_dvd hD h1
  exact ⟨Nat.le_of_dvd hD a, b, by omega⟩
theorem Nt.mul {D E : Nat} {p q : Rat} (h : Nt D p) (g : Nt E q) : Nt (D * E) (p * q) := by
  obtain ⟨u, h1, h2⟩ := h
  obtain ⟨v, g1, g2⟩ := g
  refine ⟨u * v, ?_, Nat.mul_le_mul h2 g2⟩
  rw [Rat.natCast_mul, Rat.natCast_mul, ← h1, ← g1]
  grind
theorem Nt.one : Nt 1 1 := ⟨1, by grind, by omega⟩
theorem Nt.inv {n : Nat} (h : 0 < n) : Nt n (1 / ((n : Nat) : Rat)) := by
  have := natCast_nez h
  exact ⟨1, by grind, by omega⟩
theorem Nt.dvd {D E : Nat} {q : Rat} (h : Nt D q) (hd : D ∣ E) : Nt E q := by
  obtain ⟨u, h1, h2⟩ := h
  obtain ⟨c, rfl⟩ := hd
  refine ⟨u * c, ?_, Nat.mul_le_mul h2 (Nat.le_refl _)⟩
  rw [Rat.natCast_mul, Rat.natCast_mul, ← h1]
  grind
theorem Nt.add {D : Nat} {p q : Rat} (h : Nt D p) (g : Nt D q) (hl : p + q ≤ 1) : Nt D (p + q) := by
  obtain ⟨u, h1, h2⟩ := h
  obtain ⟨v, g1, g2⟩ := g
  have e : (p + q) * (D : Rat) = ((u + v : Nat) : Rat) := by
    rw [Rat.natCast_add, ← h1, ← g1]
    grind
  refine ⟨u + v, e, ?_⟩
  have hD : (0 : Rat) ≤ (D : Rat) := by exact_mod_cast Nat.zero_le D
  have := Rat.mul_le_mul_of_nonneg_right hl hD
  rw [Rat.one_mul, e] at this
  exact_mod_cast this
theorem cut_at (a b : Nat) (hb : 0 < b) (ha : a < 4611686018427387904) (hb2 : b < 4611686018427387904) : Ev (fun k => spec_l2Cut.f k (a : Int) (b : Int)) (((a / Nat.gcd a b : Nat) : Int), ((b / Nat.gcd a b : Nat) : Int)) := by
  refine eve (ev_l2Cut a b hb ha hb2) ?_
  have e := fr_cut (a : Int) b hb
  rw [Int.natAbs_natCast, Rat.intCast_natCast] at e
  rw [← e, Int.natCast_ediv, Int.natCast_ediv]
theorem ev_l2Times (p q : Rat) (h1 : 0 ≤ p.num) (h2 : p.num ≤ 479001600) (h3 : p.den ≤ 479001600) (g1 : 0 ≤ q.num) (g2 : q.num ≤ 479001600) (g3 : q.den ≤ 479001600) :
    Ev (fun k => spec_l2Times.f k (fr p).1 (fr p).2 (fr q).1 (fr q).2) (fr (p * q)) := by
  have p0 := p.den_nz
  have q0 := q.den_nz
  have en := rm_num p q
  have ed := rm_den p q
  unfold fr
  obtain ⟨a, ha⟩ : ∃ a : Nat, p.num = a := ⟨p.num.toNat, by omega⟩
  obtain ⟨b, hb⟩ : ∃ b : Nat, q.num = b := ⟨q.num.toNat, by omega⟩
  rw [ha, hb, Int.natAbs_natCast, Int.natAbs_natCast] at en
  rw [ha, hb, Int.natAbs_natCast, Int.natAbs_natCast] at ed
  rw [en, ed]
  dsimp only
  rw [ha, hb]
  rw [ha] at h2
  rw [hb] at g2
  clear en ed
  generalize p.den = c at *
  generalize q.den = d at *
  unfold spec_l2Times.f
  refine evb (cut_at a d (by omega) (by omega) (by omega)) (evb (cut_at b c (by omega) (by omega) (by omega)) ?_)
  dsimp only
  have i1 : a / Nat.gcd a d ≤ a := Nat.div_le_self _ _
  have i2 : b / Nat.gcd b c ≤ b := Nat.div_le_self _ _
  have i3 : d / Nat.gcd a d ≤ d := Nat.div_le_self _ _
  have i4 : c / Nat.gcd b c ≤ c := Nat.div_le_self _ _
  rw [← Int.natCast_ediv, ← Int.natCast_ediv]
  generalize a / Nat.gcd a d = x at *
  generalize b / Nat.gcd b c = y at *
  generalize d / Nat.gcd a d = z at *
  generalize c / Nat.gcd b c = w at *
  have b1 : x * y ≤ 479001600 * 479001600 := Nat.mul_le_mul (by omega) (by omega)
  have b2 : z * w ≤ 479001600 * 479001600 := Nat.mul_le_mul (by omega) (by omega)
  rw [← Int.natCast_mul, ← Int.natCast_mul, w64 (x := ((x * y : Nat) : Int)) (by omega) (by omega), w64 (x := ((z * w : Nat) : Int)) (by omega) (by omega), Nat.mul_comm w z]
  exact evs _
theorem times_nt {D E : Nat} {p q : Rat} (h : Nt D p) (g : Nt E q) (hD : 0 < D) (hE : 0 < E) (hD2 : D ≤ 479001600) (hE2 : E ≤ 479001600) : Ev (fun k => spec_l2Times.f k (fr p).1 (fr p).2 (fr q).1 (fr q).2) (fr (p * q)) := by
  obtain ⟨a, b, c⟩ := h.den hD
  obtain ⟨a', b', c'⟩ := g.den hE
  exact ev_l2Times p q b (by omega) (by omega) b' (by omega) (by omega)
theorem toIntS_loop (l : List Int) (hl : l.length ≤ 1048576) : ∀ d j, j + d = l.length → Ev (fun k => laws_toIntS.l0 k l (l.take j ++ List.replicate (l.length - j) 0) (j : Int)) l
  | 0, j, h => by
    apply evshift
    simp only [laws_toIntS.l0]
    refine evn (by omega) ?_
    have e : l.take j ++ List.replicate (l.length - j) 0 = l := by rw [show j = l.length by omega]; simp
    rw [e]
    exact evs _
  | d + 1, j, h => by
    have ih := toIntS_loop l hl d (j + 1) (by omega)
    apply evshift
    simp only [laws_toIntS.l0]
    refine evp (by omega) (evp (by omega) (evp (by simp; omega) ?_))
    rw [Int.toNat_natCast, set_copy l j (by omega), wnext j (by omega)]
    exact ih
theorem ev_toIntS (l : List Int) (hl : l.length ≤ 1048576) : Ev (fun k => laws_toIntS.f k l) l := by
  unfold laws_toIntS.f
  refine evp (by omega) (evp (by omega) ?_)
  have h := toIntS_loop l hl l.length 0 (by omega)
  simpa using h
theorem ev_toRow (a : Int) (b : Bool) (l : List Int) (hl : l.length ≤ 1048576) : Ev (fun k => laws_toRow.f k a b l) (a, b, l) := by
  unfold laws_toRow.f
  exact evb (ev_toIntS l hl) (evs _)
theorem in_impl (a lo hi : Int) : impl_within.f a lo hi = some (decide (lo ≤ a ∧ a ≤ hi)) := by
  unfold impl_within.f
  split
  · congr 1; simp; omega
  · congr 1; simp; omega
theorem allWithin_loop (l : List Int) (lo hi : Int) (hl : l.length ≤ 1048576) : ∀ d j, j + d = l.length → Ev (fun k => impl_allWithin.l0 k lo hi l (l.length : Int) (j : Int)) ((l.drop j).all fun x => decide (lo ≤ x ∧ x ≤ hi))
  | 0, j, h => by
    apply evshift
    simp only [impl_allWithin.l0]
    refine evn (by omega) ?_
    rw [List.drop_eq_nil_of_le (by omega)]
    exact evs _
  | d + 1, j, h => by
    have ih := allWithin_loop l lo hi hl d (j + 1) (by omega)
    apply evshift
    simp only [impl_allWithin.l0, in_impl, Option.bind_some]
    refine evp (by omega) (evp (by omega) (evp (by omega) ?_))
    rw [drop_cons (by omega : j < l.length), List.all_cons]
    by_cases h1 : lo ≤ rd l (j : Int) ∧ rd l (j : Int) ≤ hi
    · refine evp (by simpa using h1) ?_
      rw [wnext j (by omega)]
      simpa [h1] using ih
    · refine evn (by simpa using h1) ?_
      simpa [h1] using evs false
theorem ev_allWithin (l : List Int) (lo hi : Int) (hl : l.length ≤ 1048576) : Ev (fun k => impl_allWithin.f k l lo hi) (l.all fun x => decide (lo ≤ x ∧ x ≤ hi)) := by
  unfold impl_allWithin.f
  have h := allWithin_loop l lo hi hl l.length 0 (by omega)
  simpa using h
theorem ev_benchHas (n : Int) (ring : Bool) (l : List Int) (hl : l.length ≤ 1048576) : Ev (fun k => impl_bench_has.f k n ring l) (l.all fun x => decide (0 ≤ x ∧ x ≤ wrap64 (n - 1))) := by
  unfold impl_bench_has.f
  exact evb (ev_allWithin l 0 _ hl) (evs _)
theorem benchValid (n : Int) (ring : Bool) : impl_bench_valid.f n ring = some (decide (2 ≤ n ∧ n ≤ 24) && (!ring || decide (3 ≤ n))) := by
  unfold impl_bench_valid.f
  simp only [in_impl, Option.bind_some]
  by_cases h1 : 2 ≤ n ∧ n ≤ 24
  · rw [if_pos (by simpa using h1)]
    cases ring <;> simp [h1]
  · rw [if_neg (by simpa using h1)]
    simp [h1]
theorem isRow_loop (n : Int) (ring : Bool) (l : List Int) (hl : l.length ≤ 1048576) : ∀ d j, j + d = l.length →
    Ev (fun k => impl_IsRow.l0 k l (l.length : Int) (j : Int) n ring l) (okFrom (wrap64 (n - 1)) l d j && (decide (2 ≤ n ∧ n ≤ 24) && (!ring || decide (3 ≤ n))))
  | 0, j, h => by
    apply evshift
    simp only [impl_IsRow.l0, impl_Row_bench.f, Option.bind_some, benchValid]
    refine evn (by omega) ?_
    simpa [okFrom] using evs _
  | d + 1, j, h => by
    have ih := isRow_loop n ring l hl d (j + 1) (by omega)
    apply evshift
    simp only [impl_IsRow.l0, impl_Row_bench.f, Option.bind_some]
    refine evp (by omega) (evp (by omega) (evp (by omega) ?_))
    refine evb (ev_benchHas n ring [rd l (j : Int)] (by simp)) ?_
    simp only [okFrom, okAt, List.all_cons, List.all_nil, Bool.and_true]
    by_cases h1 : 0 ≤ rd l (j : Int) ∧ rd l (j : Int) ≤ wrap64 (n - 1)
    · refine evp (by simpa using h1) ?_
      rw [decide_eq_true h1, Bool.true_and]
      by_cases h2 : j = 0
      · refine evn (by omega) ?_
        rw [wnext j (by omega), decide_eq_true h2, Bool.true_or, Bool.true_and]
        exact ih
      · refine evp (by omega) ?_
        rw [w64 (by omega) (by omega)]
        refine evp (by omega) (evp (by omega) ?_)
        by_cases h3 : rd l ((j : Int) - 1) < rd l (j : Int)
        · refine evn (by omega) ?_
          rw [wnext j (by omega)]
          simpa [h3] using ih
        · refine evp (by omega) ?_
          simpa [h2, h3] using evs false
    · refine evn (by simpa using h1) ?_
      simpa [h1] using evs false
theorem ev_isRow (n : Int) (ring : Bool) (l : List Int) (hl : l.length ≤ 1048576) : Ev (fun k => impl_IsRow.f k n ring l) (rowB n ring l) := by
  unfold impl_IsRow.f
  refine eve (isRow_loop n ring l hl l.length 0 (by omega)) ?_
  unfold rowB
  by_cases h1 : 2 ≤ n ∧ n ≤ 24
  · rw [w64 (by omega) (by omega)]
    cases okFrom (n - 1) l l.length 0 <;> simp [h1]
  · simp [h1]
theorem setOf_loop (l : List Int) (hm : ∀ x ∈ l, 0 ≤ x ∧ x < 32) (hl : l.length ≤ 1048576) : ∀ d j (P : Nat → Bool), j + d = l.length →
    Ev (fun k => impl_setOf.l0 k (M P : Int) l (l.length : Int) (j : Int)) (M (fun i => P i || decide ((i : Int) ∈ l.drop j)) : Int)
  | 0, j, P, h => by
    apply evshift
    simp only [impl_setOf.l0]
    refine evn (by omega) ?_
    rw [List.drop_eq_nil_of_le (by omega)]
    simpa using evs _
  | d + 1, j, P, h => by
    apply evshift
    simp only [impl_setOf.l0]
    have hr := hm _ (rd_mem (by omega : j < l.length))
    refine evp (by omega) (evp (by omega) (evp (by omega) (evp (by omega) ?_)))
    obtain ⟨p, hp⟩ : ∃ p : Nat, rd l (j : Int) = (p : Int) := ⟨(rd l (j : Int)).toNat, by omega⟩
    rw [hp] at hr
    rw [hp, M_one (by omega), M_or, wnext j (by omega)]
    refine eve (setOf_loop l hm hl d (j + 1) _ (by omega)) ?_
    rw [drop_cons (by omega : j < l.length), hp]
    refine congrArg _ (M_congr fun i _ => ?_)
    by_cases e : i = p
    · subst e; simp
    · have : ¬ (i : Int) = (p : Int) := by omega
      simp [e, this]
theorem ev_setOf (l : List Int) (hm : ∀ x ∈ l, 0 ≤ x ∧ x < 32) (hl : l.length ≤ 1048576) : Ev (fun k => impl_setOf.f k l) (M (fun i => decide ((i : Int) ∈ l)) : Int) := by
  unfold impl_setOf.f
  have h := setOf_loop l hm hl l.length 0 (fun _ => false) (by omega)
  rw [← M_zero] at h
  simpa using h
theorem ev_taken (n : Int) (ring : Bool) (l : List Int) (hm : ∀ x ∈ l, 0 ≤ x ∧ x < 32) (hl : l.length ≤ 1048576) : Ev (fun k => impl_Row_taken.f k n ring l) (M (fun i => decide ((i : Int) ∈ l)) : Int) := by
  unfold impl_Row_taken.f
  exact evb (ev_setOf l hm hl) (evs _)
theorem tz_table : ∀ t : Nat, t < 32 → (0 ≤ ((((2 ^ t : Nat) : Int) * 125613361) % 4294967296) / 134217728) ∧ ((((2 ^ t : Nat) : Int) * 125613361) % 4294967296) / 134217728 < 32 ∧ wrap64 (rd xtab0 (((((2 ^ t : Nat) : Int) * 125613361) % 4294967296) / 134217728)) = (t : Int) := by decide +kernel
theorem tz_at {P : Nat → Bool} {t : Nat} (h32 : t < 32) (ht : P t = true) (hl : ∀ i, i < t → P i = false) : bits_TrailingZeros32.f (M P : Int) = some (t : Int) := by
  have h0 : ¬ ((M P : Nat) : Int) = 0 := fun h => by have := M_eq_zero.1 h t h32; rw [this] at ht; cases ht
  obtain ⟨h1, h2, h3⟩ := tz_table t h32
  unfold bits_TrailingZeros32.f
  rw [if_neg h0, (M_low h32 ht hl).1, if_pos h1, if_pos h2, h3]
theorem list_loop : ∀ (d : Nat) (P : Nat → Bool) (acc : List Int), (sel 32 P).length = d → acc.length + d ≤ 1048576 → Ev (fun k => impl_set_list.l0 k (M P : Int) acc) (acc ++ sel 32 P)
  | 0, P, acc, h, _ => by
    have hn : sel 32 P = [] := List.eq_nil_of_length_eq_zero h
    have hz : ∀ i, i < 32 → P i = false := fun i hi => by
      cases hp : P i with
      | false => rfl
      | true =>
        have : (i : Int) ∈ sel 32 P := mem_sel.2 ⟨i, hi, hp, rfl⟩
        rw [hn] at this; cases this
    apply evshift
    simp only [impl_set_list.l0]
    refine evp (M_eq_zero.2 hz) ?_
    rw [hn, List.append_nil]
    exact evs _
  | d + 1, P, acc, h, hb => by
    have hex : ∃ i, i < 32 ∧ P i = true := by
      rcases Classical.em (∃ i, i < 32 ∧ P i = true) with h1 | h1
      · exact h1
      · have : sel 32 P = [] := sel_none fun i hi => by
          cases hp : P i with
          | false => rfl
          | true => exact absurd ⟨i, hi, hp⟩ h1
        rw [this] at h; cases h
    obtain ⟨t, h1, h2, h3⟩ := least_of hex
    have hs := sel_low h1 h2 h3
    have h0 : ¬ ((M P : Nat) : Int) = 0 := fun h => by have := M_eq_zero.1 h t h1; rw [this] at h2; cases h2
    apply evshift
    simp only [impl_set_list.l0, tz_at h1 h2 h3, Option.bind_some, (M_low h1 h2 h3).2]
    refine evn h0 (evp (by omega) ?_)
    rw [hs, List.length_cons] at h
    refine eve (list_loop d _ (acc ++ [(t : Int)]) (by omega) (by rw [List.length_append, List.length_singleton]; omega)) ?_
    rw [hs, List.append_assoc]; rfl
theorem ev_list (P : Nat → Bool) : Ev (fun k => impl_set_list.f k (M P : Int)) (sel 32 P) := by
  unfold impl_set_list.f
  have h := list_loop _ P [] rfl (by have := sel_len_le 32 P; simp; omega)
  simpa using h
theorem setHas {P : Nat → Bool} {p : Nat} (h : p < 32) : impl_set_has.f (M P : Int) (p : Int) = some (P p) := by
  unfold impl_set_has.f
  rw [if_pos (by omega), M_has h]
  cases P p <;> rfl
theorem benchGap {n a b : Int} {ring : Bool} (h1 : 0 ≤ a) (h2 : a ≤ 1048576) (h3 : 0 ≤ b) (h4 : b ≤ 1048576) (h5 : 0 ≤ n) (h6 : n ≤ 1048576) : impl_bench_gap.f n ring a b = some (gapF n ring a b) := by
  have hb := mx_bd (a := a - b) (b := b - a) (B := 1048576) (by omega) (by omega) (by omega) (by omega)
  unfold impl_bench_gap.f gapF
  rw [w64 (by omega) (by omega), w64 (by omega) (by omega), w64 (by omega) (by omega)]
  split <;> rfl
theorem near_loop (n : Nat) (ring : Bool) (p : Int) (h1 : 0 ≤ p) (h2 : p ≤ 1048576) (hn : n ≤ 32) : ∀ d j, j + d = n → Ev (fun k => impl_bench_near.l0 k p (M (fun i => decide (i < j) && decide (gapF n ring p (i : Int) = 1)) : Int) (n : Int) (j : Int) (n : Int) ring) (M (fun i => decide (i < n) && decide (gapF n ring p (i : Int) = 1)) : Int)
  | 0, j, h => by
    obtain rfl : j = n := by omega
    apply evshift
    simp only [impl_bench_near.l0]
    exact evn (by omega) (evs _)
  | d + 1, j, h => by
    have ih := near_loop n ring p h1 h2 hn d (j + 1) (by omega)
    apply evshift
    simp only [impl_bench_near.l0]
    refine evp (by omega) (evc (benchGap h1 h2 (by omega) (by omega) (by omega) (by omega)) ?_)
    rw [wnext j (by omega)]
    by_cases c : gapF n ring p (j : Int) = 1
    · refine evp c (evp (by omega) ?_)
      rw [M_one (by omega : j < 32), M_or]
      rw [M_congr (Q := fun i => (decide (i < j) && decide (gapF n ring p (i : Int) = 1)) || decide (i = j)) fun i _ => ?_] at ih
      · exact ih
      · by_cases e : i = j
        · subst e; simp [c]
        · simp only [e, decide_false, Bool.or_false]
          congr 1
          simp; omega
    · refine evn c ?_
      rw [M_congr (Q := fun i => decide (i < j) && decide (gapF n ring p (i : Int) = 1)) fun i _ => ?_] at ih
      · exact ih
      · by_cases e : i = j
        · subst e; simp [c]
        · congr 1
          simp; omega
theorem ev_near (n : Nat) (ring : Bool) (p : Int) (h1 : 0 ≤ p) (h2 : p ≤ 1048576) (hn : n ≤ 32) : Ev (fun k => impl_bench_near.f k (n : Int) ring p) (M (fun i => decide (i < n) && decide (gapF n ring p (i : Int) = 1)) : Int) := by
  unfold impl_bench_near.f
  have h := near_loop n ring p h1 h2 hn n 0 (by omega)
  rw [M_congr (Q := fun _ => false) fun i _ => by simp, ← M_zero] at h
  exact h
theorem lone_and (n : Nat) (ring : Bool) (l : List Int) (x : Int) (hn : n ≤ 32) : (M (fun i => (decide (i < n) && decide (gapF n ring x (i : Int) = 1)) && decide ((i : Int) ∈ l)) : Int) = 0 ↔ loneB n ring l x = true := by
  rw [M_eq_zero, loneB, List.all_eq_true]
  constructor
  · intro h y hy
    obtain ⟨i, h1, h2, rfl⟩ := mem_sel.1 hy
    have := h i (by omega)
    simp only [h1, decide_true, Bool.true_and, h2] at this
    simp [this]
  · intro h i hi
    by_cases h1 : i < n
    · by_cases h2 : gapF n ring x (i : Int) = 1
      · have := h _ (mem_sel.2 ⟨i, h1, by simp [h2], rfl⟩)
        simp at this
        simp [this]
      · simp [h2]
    · simp [h1]
theorem lonely_loop (n : Nat) (ring : Bool) (l : List Int) (hn : n ≤ 32) : ∀ d j, j + d = n → Ev (fun k => impl_bench_lonely.l0 k (M (fun i => decide ((i : Int) ∈ l)) : Int) (M (fun i => decide (i < j) && (!decide ((i : Int) ∈ l) && loneB n ring l (i : Int))) : Int) (n : Int) (j : Int) (n : Int) ring) (M (fun i => decide (i < n) && (!decide ((i : Int) ∈ l) && loneB n ring l (i : Int))) : Int)
  | 0, j, h => by
    obtain rfl : j = n := by omega
    apply evshift
    simp only [impl_bench_lonely.l0]
    exact evn (by omega) (evs _)
  | d + 1, j, h => by
    have ih := lonely_loop n ring l hn d (j + 1) (by omega)
    apply evshift
    simp only [impl_bench_lonely.l0]
    refine evp (by omega) (evc (setHas (by omega)) ?_)
    rw [wnext j (by omega)]
    have hno : (decide ((j : Int) ∈ l) = true ∨ loneB n ring l (j : Int) = false) → M (fun i => decide (i < j + 1) && (!decide ((i : Int) ∈ l) && loneB n ring l (i : Int))) = M (fun i => decide (i < j) && (!decide ((i : Int) ∈ l) && loneB n ring l (i : Int))) := fun hc => M_congr fun i _ => by
      by_cases e : i = j
      · subst e; rcases hc with hc | hc <;> simp [hc]
      · congr 1; simp; omega
    by_cases c : (j : Int) ∈ l
    · refine evp (by simp [c]) ?_
      rw [hno (.inl (by simp [c]))] at ih
      exact ih
    · refine evn (by simp [c]) (evb (ev_near n ring j (by omega) (by omega) hn) ?_)
      rw [M_and]
      by_cases c2 : loneB n ring l (j : Int) = true
      · refine evp ((lone_and n ring l j hn).2 c2) (evp (by omega) ?_)
        rw [M_one (by omega : j < 32), M_or]
        rw [M_congr (P := fun i => decide (i < j + 1) && (!decide ((i : Int) ∈ l) && loneB n ring l (i : Int))) (Q := fun i => (decide (i < j) && (!decide ((i : Int) ∈ l) && loneB n ring l (i : Int))) || decide (i = j)) fun i _ => ?_] at ih
        · exact ih
        · by_cases e : i = j
          · subst e; simp [c, c2]
          · simp only [e, decide_false, Bool.or_false]
            congr 1
            simp; omega
      · refine evn (fun h => c2 ((lone_and n ring l j hn).1 h)) ?_
        rw [hno (.inr (by simpa using c2))] at ih
        exact ih
theorem ev_lonely (n : Nat) (ring : Bool) (l : List Int) (hn : n ≤ 32) : Ev (fun k => impl_bench_lonely.f k (n : Int) ring (M (fun i => decide ((i : Int) ∈ l)) : Int)) (M (fun i => decide (i < n) && (!decide ((i : Int) ∈ l) && loneB n ring l (i : Int))) : Int) := by
  unfold impl_bench_lonely.f
  have h := lonely_loop n ring l hn n 0 (by omega)
  rw [M_congr (P := fun i => decide (i < 0) && (!decide ((i : Int) ∈ l) && loneB n ring l (i : Int))) (Q := fun _ => false) fun i _ => by simp, ← M_zero] at h
  exact h
theorem sel_as (m : Nat) (P : Nat → Bool) : Base.sel m P = ((List.range m).filter P).map fun p => ((p : Nat) : Int) := rfl
theorem singles_loop (Q : List Nat) (hQ : ∀ p ∈ Q, p < 32) (hl : Q.length ≤ 1048576) : ∀ d j (acc : List Int), j + d = Q.length → acc.length ≤ j →
    Ev (fun k => impl_bench_singles.l0 k acc (Q.map fun p => ((p : Nat) : Int)) (Q.length : Int) (j : Int)) (acc ++ (Q.drop j).map fun p => ((2 ^ p : Nat) : Int))
  | 0, j, acc, h, ha => by
    obtain rfl : j = Q.length := by omega
    apply evshift
    simp only [impl_bench_singles.l0]
    rw [List.drop_length, List.map_nil, List.append_nil]
    exact evn (by omega) (evs _)
  | d + 1, j, acc, h, ha => by
    have hj : j < Q.length := by omega
    have hr : rd (Q.map fun p => ((p : Nat) : Int)) (j : Int) = ((Q[j] : Nat) : Int) := by
      rw [rd_lt (by rw [List.length_map]; exact hj), List.getElem_map]
    have ih := singles_loop Q hQ hl d (j + 1) (acc ++ [((2 ^ Q[j] : Nat) : Int)]) (by omega) (by rw [List.length_append, List.length_singleton]; omega)
    rw [List.drop_eq_getElem_cons hj, List.map_cons]
    rw [List.append_assoc, List.singleton_append] at ih
    apply evshift
    simp only [impl_bench_singles.l0]
    refine evp (by omega) (evp (by omega) (evp (by rw [List.length_map]; omega) ?_))
    rw [hr]
    refine evp (by omega) (evp (by omega) ?_)
    rw [shl_one (hQ _ (List.getElem_mem hj)), wnext j (by omega)]
    exact ih
theorem gap_adj (m : Nat) (ring : Bool) (i j : Nat) (_ : 2 ≤ m) (h3 : ring = true → 3 ≤ m) (hi : i < m) (hj : j < m) : decide (gapF (m : Int) ring (i : Int) (j : Int) = 1) = adjS m ring i j := by
  rw [Bool.eq_iff_iff, decide_eq_true_eq]
  unfold gapF adjS
  cases ring with
  | false =>
    rw [if_neg (by simp), if_neg (by simp)]
    unfold adjP mx
    rw [Bool.or_eq_true, beq_iff_eq, beq_iff_eq]
    split <;> omega
  | true =>
    rw [if_pos rfl, if_pos rfl]
    unfold adjR
    rw [Bool.or_eq_true, beq_iff_eq, beq_iff_eq, mod_wrap (by omega), mod_wrap (by omega)]
    have := h3 rfl
    unfold mx mn
    split <;> split <;> split <;> split <;> omega
theorem lone_eq (m : Nat) (ring : Bool) (P : Nat → Bool) (h2 : 2 ≤ m) (h3 : ring = true → 3 ≤ m) (l : List Int) (hl : ∀ i, i < m → decide ((i : Int) ∈ l) = P i) (i : Nat) (hi : i < m) : (!decide ((i : Int) ∈ l) && loneB m ring l (i : Int)) = lonB m ring P i := by
  unfold lonB loneB
  rw [hl i hi]
  congr 1
  rw [Bool.eq_iff_iff, List.all_eq_true, List.all_eq_true]
  constructor
  · intro h j hj
    have hj := List.mem_range.1 hj
    rw [Bool.not_eq_true', Bool.and_eq_false_iff, ← gap_adj m ring i j h2 h3 hi hj]
    by_cases c : gapF (m : Int) ring (i : Int) (j : Int) = 1
    · right
      have := h (j : Int) (mem_sel.2 ⟨j, hj, by simpa using c, rfl⟩)
      rw [Bool.not_eq_true'] at this
      rw [← hl j hj]; exact this
    · left; simpa using c
  · intro h y hy
    obtain ⟨j, hj, hg, rfl⟩ := mem_sel.1 hy
    have := h j (List.mem_range.2 hj)
    rw [gap_adj m ring i j h2 h3 hi hj] at hg
    rw [hg, Bool.true_and] at this
    rw [hl j hj]; exact this
/-- The lonely seats of a set, each as a set by itself. -/
def sgl (m : Nat) (ring : Bool) (P : Nat → Bool) : List Int := ((List.range m).filter (lonB m ring P)).map fun p => ((2 ^ p : Nat) : Int)
theorem ev_singles (m : Nat) (ring : Bool) (P : Nat → Bool) (h2 : 2 ≤ m) (h3 : ring = true → 3 ≤ m) (hm : m ≤ 24) (hP : ∀ i, m ≤ i → i < 32 → P i = false) : Ev (fun k => impl_bench_singles.f k (m : Int) ring (M P : Int)) (sgl m ring P) := by
  have hl : ∀ i, i < m → decide ((i : Int) ∈ Base.sel m P) = P i := fun i hi => by
    rw [Bool.eq_iff_iff, decide_eq_true_eq, mem_sel]
    exact ⟨fun ⟨i', _, h, e⟩ => by obtain rfl : i = i' := by omega
                                   exact h, fun h => ⟨i, hi, h, rfl⟩⟩
  have e1 : M P = M fun i => decide ((i : Int) ∈ Base.sel m P) := M_congr fun i hi => by
    by_cases c : i < m
    · rw [hl i c]
    · rw [hP i (by omega) hi]
      refine (decide_eq_false fun h => ?_).symm
      obtain ⟨i', h1, -, h3⟩ := mem_sel.1 h
      omega
  have hL := ev_lonely m ring (Base.sel m P) (by omega)
  have e2 : M (fun i => decide (i < m) && (!decide ((i : Int) ∈ Base.sel m P) && loneB m ring (Base.sel m P) (i : Int))) = M fun i => decide (i < m) && lonB m ring P i := M_congr fun i _ => by
    by_cases c : i < m
    · rw [lone_eq m ring P h2 h3 _ hl i c]
    · simp [c]
  rw [← e1, e2] at hL
  unfold impl_bench_singles.f
  refine evb hL (evb (ev_list _) ?_)
  rw [sel_32 (by omega), sel_as, List.length_map]
  have hlen := List.length_filter_le (lonB m ring P) (List.range m)
  rw [List.length_range] at hlen
  have := singles_loop ((List.range m).filter (lonB m ring P)) (fun p hp => by have := List.mem_range.1 (List.mem_filter.1 hp).1; omega) (by omega) _ 0 [] (Nat.zero_add _) (by simp)
  rw [List.nil_append, List.drop_zero] at this
  exact this
theorem ev_benchRow (n : Int) (ring : Bool) (P : Nat → Bool) : Ev (fun k => impl_bench_row.f k n ring (M P : Int)) (n, ring, sel 32 P) := by
  unfold impl_bench_row.f
  exact evb (ev_list P) (evs _)
theorem eqIntS_loop (l : List Int) (hl : l.length ≤ 1048576) : ∀ d j, j + d = l.length → Ev (fun k => laws_eqIntS.l0 k l l (j : Int)) true
  | 0, j, h => by
    apply evshift
    simp only [laws_eqIntS.l0]
    exact evn (by omega) (evs _)
  | d + 1, j, h => by
    have ih := eqIntS_loop l hl d (j + 1) (by omega)
    apply evshift
    simp only [laws_eqIntS.l0]
    refine evp (by omega) (evp (by omega) (evp (by omega) (evp (by trivial) ?_)))
    rw [wnext j (by omega)]
    exact ih
theorem ev_eqIntS (l : List Int) (hl : l.length ≤ 1048576) : Ev (fun k => laws_eqIntS.f k l l) true := by
  unfold laws_eqIntS.f
  exact evp (by trivial) (eqIntS_loop l hl l.length 0 (by omega))
theorem ev_eqRow (a : Int) (b : Bool) (l : List Int) (hl : l.length ≤ 1048576) : Ev (fun k => laws_eqRow.f k a b l a b l) true := by
  unfold laws_eqRow.f
  refine evp (by simp) (evn (by simp) ?_)
  exact evb (ev_eqIntS l hl) (evp (by trivial) (evs _))
theorem markIntS_loop (l : List Int) (m : Int) (hl : l.length ≤ 1048576) (h0 : 0 ≤ m) (hm : m ≤ 1099511627776) : ∀ d j, j + d = l.length → Ev (fun k => laws_markIntS.l0 k (marks m j ++ l.drop j) (m + (j : Int)) (j : Int)) (m + (l.length : Int), marks m l.length)
  | 0, j, h => by
    obtain rfl : j = l.length := by omega
    apply evshift
    simp only [laws_markIntS.l0]
    refine evn (by simp [marks_len]) ?_
    simp only [List.drop_length, List.append_nil]
    exact evs _
  | d + 1, j, h => by
    have ih := markIntS_loop l m hl h0 hm d (j + 1) (by omega)
    apply evshift
    simp only [laws_markIntS.l0]
    refine evp (by simp [marks_len]; omega) (evp (by omega) ?_)
    rw [Int.toNat_natCast, set_marks m l j (by omega), wnext j (by omega), w64 (by omega) (by omega), show m + (j : Int) + 1 = m + ((j + 1 : Nat) : Int) by omega]
    exact ih
theorem ev_markIntS (l : List Int) (m : Int) (hl : l.length ≤ 1048576) (h0 : 0 ≤ m) (hm : m ≤ 1099511627776) : Ev (fun k => laws_markIntS.f k l m) (m + (l.length : Int), marks m l.length) := by
  unfold laws_markIntS.f
  have h := markIntS_loop l m hl h0 hm l.length 0 (by omega)
  simpa [marks] using h
theorem ev_markRow (a : Int) (b : Bool) (l : List Int) (m : Int) (hl : l.length ≤ 1048576) (h0 : 0 ≤ m) (hm : m ≤ 1099511627776) : Ev (fun k => laws_markRow.f k a b l m) (m + (l.length : Int), marks m l.length) := by
  unfold laws_markRow.f
  exact evb (ev_markIntS l m hl h0 hm) (evs _)
theorem heldIntS_loop (n : Nat) (m : Int) (hn : n ≤ 1048576) (h0 : 0 ≤ m) (hm : m ≤ 1099511627776) : ∀ d j, j + d = n → Ev (fun k => laws_heldIntS.l0 k (marks m n) (m + (j : Int)) (j : Int)) (m + (n : Int))
  | 0, j, h => by
    obtain rfl : j = n := by omega
    apply evshift
    simp only [laws_heldIntS.l0]
    exact evn (by rw [marks_len]; omega) (evs _)
  | d + 1, j, h => by
    have ih := heldIntS_loop n m hn h0 hm d (j + 1) (by omega)
    apply evshift
    simp only [laws_heldIntS.l0]
    refine evp (by rw [marks_len]; omega) (evp (by omega) (evp (rd_marks (by omega)) ?_))
    rw [wnext j (by omega), w64 (by omega) (by omega), show m + (j : Int) + 1 = m + ((j + 1 : Nat) : Int) by omega]
    exact ih
theorem ev_heldIntS (n : Nat) (m : Int) (hn : n ≤ 1048576) (h0 : 0 ≤ m) (hm : m ≤ 1099511627776) : Ev (fun k => laws_heldIntS.f k (marks m n) m) (m + (n : Int)) := by
  unfold laws_heldIntS.f
  have h := heldIntS_loop n m hn h0 hm n 0 (by omega)
  simpa using h
theorem ev_l4Row (n : Int) (ring : Bool) (l : List Int) (hl : l.length ≤ 1048576) : Ev (fun k => spec_l4Row.f k n ring l) (rowB n ring l && decide (n ≤ 12)) := by
  unfold spec_l4Row.f
  refine evb (ev_l2Row n ring l hl) ?_
  cases hb : rowB n ring l with
  | false => exact evn (by simp) (evs _)
  | true => exact evp rfl (eve (evs _) (by simp))
theorem ev_isFilled (n : Int) (ring : Bool) (l : List Int) (hl : l.length ≤ 1048576) : Ev (fun k => impl_isFilled.f k n ring l) (rowB n ring l && decide (n ≤ 12)) := by
  unfold impl_isFilled.f
  refine evb (ev_isRow n ring l hl) ?_
  cases hb : rowB n ring l with
  | false => exact evn (by simp) (evs _)
  | true => exact evp rfl (eve (evs _) (by simp))
theorem l4Blocks_loop (m : Nat) (ring : Bool) (l F : List Int) (hF : F.length ≤ 1048576) (hm : m ≤ 1048576) (r : List S26) (hr : Ev (fun k => spec_l2Runs.f k (m : Int) ring (sel m fun i => !decide ((i : Int) ∈ F))) r) : ∀ d j, j + d = m → Ev (fun k => spec_l4Blocks.l0 k (sel j fun i => !decide ((i : Int) ∈ F)) F (j : Int) (m : Int) ring l) r
  | 0, j, h => by
    obtain rfl : j = m := by omega
    apply evshift
    simp only [spec_l4Blocks.l0, spec_l2Made.f, Option.bind_some]
    exact evn (by omega) (evb hr (evs _))
  | d + 1, j, h => by
    have ih := l4Blocks_loop m ring l F hF hm r hr d (j + 1) (by omega)
    have hs := sel_len_le j fun i => !decide ((i : Int) ∈ F)
    rw [sel_succ] at ih
    apply evshift
    simp only [spec_l4Blocks.l0]
    refine evp (by omega) (evb (ev_l1Has F _ hF) ?_)
    rw [wnext j (by omega)]
    by_cases c : (j : Int) ∈ F
    · rw [if_neg (by simp [c]), List.append_nil] at ih
      exact evp (by simpa using c) ih
    · rw [if_pos (by simp [c])] at ih
      exact evn (by simpa using c) (evp (by omega) ih)
/-! What the reference reckons for the final rows, out of the plain lists. -/
def toI (s : List Nat) : List Int := s.map fun j => ((j : Nat) : Int)
def cf (q : Rat) : S26 := ⟨(fr q).1, (fr q).2⟩
def enc1 (S : List (List Nat × Rat)) : List (List Int) := S.map fun x => toI x.1
def enc2 (S : List (List Nat × Rat)) : List S26 := S.map fun x => cf x.2
def enc (S : List (List Nat × Rat)) : List (List Int) × List S26 := (enc1 S, enc2 S)
theorem enc1_len (S : List (List Nat × Rat)) : (enc1 S).length = S.length := List.length_map ..
theorem enc2_len (S : List (List Nat × Rat)) : (enc2 S).length = S.length := List.length_map ..
theorem toI_len (s : List Nat) : (toI s).length = s.length := List.length_map ..
theorem toI_inj {a b : List Nat} : toI a = toI b ↔ a = b := by
  constructor
  · intro h
    unfold toI at h
    refine List.map_inj_right (f := fun j : Nat => (j : Int)) ?_ |>.1 h
    intro x y e; omega
  · rintro rfl; rfl
theorem mem_toI {s : List Nat} {x : Int} : x ∈ toI s ↔ ∃ j : Nat, j ∈ s ∧ (j : Int) = x := List.mem_map
theorem toI_inc {s : List Nat} (h : s.Pairwise (· < ·)) : (toI s).Pairwise (· < ·) := by
  unfold toI
  rw [List.pairwise_map]
  exact h.imp fun h => by omega
theorem inc_len {s : List Nat} {n : Nat} (h : s.Pairwise (· < ·)) (hl : ∀ j ∈ s, j < n) : s.length ≤ n := by
  have e : Base.sel n (fun i => decide (i ∈ s)) = toI s := sel_is (toI_inc h) fun x => by
    rw [mem_toI]
    constructor
    · rintro ⟨j, hj, rfl⟩; exact ⟨j, hl j hj, by simpa using hj, rfl⟩
    · rintro ⟨i, _, h2, rfl⟩; exact ⟨i, by simpa using h2, rfl⟩
  have := sel_len_le n fun i => decide (i ∈ s)
  rwa [e, toI_len] at this
theorem ev_addF (D : Nat) (hD : 0 < D) (hD2 : D ≤ 479001600) (s : List Nat) (c : Rat) (hc : Nt D c) : ∀ S : List (List Nat × Rat), (∀ x ∈ S, Nt D x.2 ∧ x.1.length ≤ 1000) →
    Ev (fun k => addF k (toI s) (cf c) (enc1 S) (enc2 S)) (enc (addS S s c))
  | [], _ => evs _
  | x :: S, h => by
    obtain ⟨hn, hlx⟩ := h x (by simp)
    have ih := ev_addF D hD hD2 s c hc S fun y hy => h y (by simp [hy])
    have hs := ev_l1Same (toI x.1) (toI s) (by rw [toI_len]; omega)
    show Ev (fun k => (spec_l1Same.f k (toI x.1) (toI s)).bind fun b => if b = true then (spec_l2Plus.f k (cf x.2).f0 (cf x.2).f1 (cf c).f0 (cf c).f1).bind fun v => some (toI x.1 :: enc1 S, (⟨v.1, v.2⟩ : S26) :: enc2 S) else (addF k (toI s) (cf c) (enc1 S) (enc2 S)).bind fun r => some (toI x.1 :: r.1, cf x.2 :: r.2)) _
    refine evb hs ?_
    unfold addS
    by_cases e : x.1 = s
    · rw [if_pos e]
      refine evp (by rw [decide_eq_true_eq, toI_inj]; exact e) ?_
      obtain ⟨u, hu, hu2⟩ := hn
      obtain ⟨v, hv, hv2⟩ := hc
      exact evb (ev_l2Plus x.2 c u v D D hD hD2 hu hv hu2 hv2 (by omega)) (evs _)
    · rw [if_neg e]
      exact evn (by rw [decide_eq_true_eq, toI_inj]; exact e) (evb ih (evs _))
theorem addS_len (s : List Nat) (c : Rat) : ∀ S : List (List Nat × Rat), (addS S s c).length ≤ S.length + 1
  | [] => by simp [addS]
  | x :: S => by
    unfold addS
    split
    · simp
    · have := addS_len s c S
      simp only [List.length_cons]
      omega
theorem mem_addS2 {s : List Nat} {c : Rat} {w : List Nat × Rat} : ∀ {S : List (List Nat × Rat)}, w ∈ addS S s c → w ∈ S ∨ w = (s, c) ∨ ∃ x, x ∈ S ∧ x.1 = s ∧ w = (x.1, x.2 + c)
  | [], h => by simp [addS] at h; exact .inr (.inl h)
  | y :: r, h => by
    unfold addS at h
    by_cases e : y.1 = s
    · rw [if_pos e] at h
      rcases List.mem_cons.1 h with rfl | h
      · exact .inr (.inr ⟨y, by simp, e, rfl⟩)
      · exact .inl (by simp [h])
    · rw [if_neg e] at h
      rcases List.mem_cons.1 h with rfl | h
      · exact .inl (by simp)
      · rcases mem_addS2 h with h | h | ⟨x, h1, h2⟩
        · exact .inl (by simp [h])
        · exact .inr (.inl h)
        · exact .inr (.inr ⟨x, by simp [h1], h2⟩)
def tot (S : List (List Nat × Rat)) : Rat := qsum (fun x => x.2) S
theorem tot_add (S : List (List Nat × Rat)) (s : List Nat) (c : Rat) : tot (addS S s c) = tot S + c := by
  have := EM_add (fun _ => true) s c S
  simpa [EM, tot] using this
theorem qsum_nonneg {α : Type} {f : α → Rat} : ∀ {l : List α}, (∀ a ∈ l, 0 < f a) → 0 ≤ qsum f l
  | [], _ => by simp [qsum]
  | a :: l, h => by
    have h1 := h a (by simp)
    have h2 := qsum_nonneg (f := f) (l := l) fun b hb => h b (List.mem_cons_of_mem _ hb)
    simp only [qsum]
    grind
theorem le_qsum {α : Type} {f : α → Rat} {a : α} : ∀ {l : List α}, (∀ a ∈ l, 0 < f a) → a ∈ l → f a ≤ qsum f l
  | b :: l, h, ha => by
    have h0 := qsum_nonneg (f := f) (l := l) fun b hb => h b (List.mem_cons_of_mem _ hb)
    simp only [qsum]
    rcases List.mem_cons.1 ha with rfl | ha
    · grind
    · have h1 := le_qsum (fun b hb => h b (List.mem_cons_of_mem _ hb)) ha
      have h2 := h b (by simp)
      grind
/-- What holds of a list under way: each chance so many D-ths, no more than N sets, no more than e in all. -/
structure St (D N : Nat) (e : Rat) (S : List (List Nat × Rat)) : Prop where
  pos : ∀ x ∈ S, 0 < x.2
  nt : ∀ x ∈ S, Nt D x.2 ∧ x.1.length ≤ 1000
  num : S.length ≤ N
  all : tot S ≤ e
theorem St.add {D N : Nat} {e : Rat} {S : List (List Nat × Rat)} (h : St D N e S) {s : List Nat} {c : Rat} (hc : 0 < c) (hn : Nt D c) (he : e + c ≤ 1) (hs : s.length ≤ 1000) : St D (N + 1) (e + c) (addS S s c) where
  pos := fun x hx => pos_addS hc h.pos hx
  nt := fun w hw => by
    rcases mem_addS2 hw with h1 | rfl | ⟨x, h1, h2, rfl⟩
    · exact h.nt w h1
    · exact ⟨hn, hs⟩
    · have := h.nt x h1
      refine ⟨this.1.add hn ?_, this.2⟩
      have h3 := le_qsum (f := fun x : List Nat × Rat => x.2) h.pos h1
      have h4 := h.all
      unfold tot at h4
      grind
  num := by have := addS_len s c S; have := h.num; omega
  all := by rw [tot_add]; have := h.all; grind
theorem St.mono {D N N' : Nat} {e e' : Rat} {S : List (List Nat × Rat)} (h : St D N e S) (hN : N ≤ N') (he : e ≤ e') : St D N' e' S := ⟨h.pos, h.nt, by have := h.num; omega, by have := h.all; grind⟩
theorem fr_inv {n : Nat} (h : 0 < n) : fr (1 / ((n : Nat) : Rat)) = (1, (n : Int)) := by
  have e := fr_cut 1 n h
  rw [show ((1 : Int) : Rat) = 1 from rfl] at e
  rw [← e]
  simp
theorem joinI1 (kk : Nat) (hk : kk ≤ 1000) (z : Nat) (hz2 : z ≤ 1000) : wrap64 (wrap64 ((kk : Int) + 2) + (z : Int)) = ((kk + 2 + z : Nat) : Int) := by
  rw [w64 (x := (kk : Int) + 2) (by omega) (by omega), w64 (by omega) (by omega)]
  omega
theorem joinI2 (kk : Nat) (hk : kk ≤ 1000) : ∀ (y : List Nat) (_ : ∀ z ∈ y, z ≤ 1000), ((toI y).map fun z => wrap64 (wrap64 ((kk : Int) + 2) + z)) = toI (y.map fun j => kk + 2 + j)
  | [], _ => rfl
  | a :: y, hy => by
    have ih := joinI2 kk hk y fun z hz => hy z (List.mem_cons_of_mem _ hz)
    have h1 := joinI1 kk hk a (hy a (by simp))
    unfold toI at ih ⊢
    rw [List.map_cons, List.map_cons, List.map_cons, List.map_cons, ih, h1]
theorem toI_app (a b : List Nat) : toI (a ++ b) = toI a ++ toI b := List.map_append
theorem joinI (kk : Nat) (hk : kk ≤ 1000) (x y : List Nat) (hy : ∀ z ∈ y, z ≤ 1000) : ((toI x ++ [(kk : Int)]) ++ (toI y).map fun z => wrap64 (wrap64 ((kk : Int) + 2) + z)) = toI (joinS kk x y) := by
  rw [joinI2 kk hk y hy]
  unfold joinS
  rw [toI_app, List.append_assoc]
  rfl
/-- One set to the left, one to the right. -/
theorem ev_pairF (D D1 D2 n kk : Nat) (N : Nat) (e : Rat) (S : List (List Nat × Rat)) (x y : List Nat × Rat) (hS : St D N e S) (hD : 0 < D) (hD2 : D ≤ 479001600) (hd : D1 * D2 * n ∣ D) (hk : kk < n) (hn : n ≤ 1000) (hN : N ≤ 1000000)
    (hx : 0 < x.2 ∧ Nt D1 x.2 ∧ x.1.length ≤ 400) (hy : 0 < y.2 ∧ Nt D2 y.2 ∧ y.1.length ≤ 400 ∧ ∀ z ∈ y.1, z ≤ 1000) (he : e + x.2 * y.2 * (1 / ((n : Nat) : Rat)) ≤ 1) :
    Ev (fun k => pairF k (kk : Int) (n : Int) (toI x.1) (cf x.2) (toI y.1) (cf y.2) (enc S)) (enc (addS S (joinS kk x.1 y.1) (x.2 * y.2 * (1 / ((n : Nat) : Rat))))) ∧
    St D (N + 1) (e + x.2 * y.2 * (1 / ((n : Nat) : Rat))) (addS S (joinS kk x.1 y.1) (x.2 * y.2 * (1 / ((n : Nat) : Rat)))) := by
  have hdp : 0 < D1 * D2 * n := Nat.pos_of_dvd_of_pos hd hD
  have h12 : 0 < D1 * D2 := Nat.pos_of_mul_pos_right hdp
  have hD1 : 0 < D1 := Nat.pos_of_mul_pos_right h12
  have hD22 : 0 < D2 := Nat.pos_of_mul_pos_left h12
  have hle : D1 * D2 * n ≤ D := Nat.le_of_dvd hD hd
  have hle2 : D1 * D2 ≤ D := Nat.le_trans (Nat.le_mul_of_pos_right _ (by omega)) hle
  have hle3 : D1 ≤ D := Nat.le_trans (Nat.le_mul_of_pos_right _ hD22) hle2
  have hle4 : D2 ≤ D := Nat.le_trans (Nat.le_mul_of_pos_left _ hD1) hle2
  have hc : Nt D (x.2 * y.2 * (1 / ((n : Nat) : Rat))) := ((hx.2.1.mul hy.2.1).mul (Nt.inv (by omega))).dvd hd
  have hlen : (joinS kk x.1 y.1).length ≤ 1000 := by
    unfold joinS
    simp only [List.length_append, List.length_cons, List.length_map]
    omega
  constructor
  · unfold pairF
    have hnum := hS.num
    refine evp ⟨by rw [toI_len]; omega, by rw [toI_len]; omega, by show (enc1 S).length ≤ _; rw [enc1_len]; omega, by show (enc1 S).length = (enc2 S).length; rw [enc1_len, enc2_len]⟩ ?_
    refine evb (times_nt hx.2.1 hy.2.1 hD1 hD22 (by omega) (by omega)) ?_
    have ht := times_nt (hx.2.1.mul hy.2.1) (Nt.inv (n := n) (by omega)) h12 (by omega) (by omega) (by omega)
    rw [fr_inv (by omega)] at ht
    dsimp only at ht ⊢
    refine evb ht ?_
    rw [joinI kk (by omega) x.1 y.1 hy.2.2.2]
    exact ev_addF D hD hD2 _ _ hc S hS.nt
  · exact hS.add (Rat.mul_pos (Rat.mul_pos hx.1 hy.1) (inv_pos (by omega))) hc he hlen
/-- .. the sets to the right, all of them .. -/
theorem ev_rowF (D D1 D2 n kk M0 : Nat) (x : List Nat × Rat) (hD : 0 < D) (hD2 : D ≤ 479001600) (hd : D1 * D2 * n ∣ D) (hk : kk < n) (hn : n ≤ 1000)
    (hx : 0 < x.2 ∧ Nt D1 x.2 ∧ x.1.length ≤ 400) : ∀ (R : List (List Nat × Rat)) (N : Nat) (e : Rat) (S : List (List Nat × Rat)), St D N e S → N + R.length ≤ M0 → M0 ≤ 1000000 → (∀ y ∈ R, 0 < y.2 ∧ Nt D2 y.2 ∧ y.1.length ≤ 400 ∧ ∀ z ∈ y.1, z ≤ 1000) → e + x.2 * (1 / ((n : Nat) : Rat)) * tot R ≤ 1 →
    Ev (fun k => rowF k (kk : Int) (n : Int) (toI x.1) (cf x.2) (enc1 R) (enc2 R) (enc S)) (enc (R.foldl (fun S y => addS S (joinS kk x.1 y.1) (x.2 * y.2 * (1 / ((n : Nat) : Rat)))) S)) ∧
    St D (N + R.length) (e + x.2 * (1 / ((n : Nat) : Rat)) * tot R) (R.foldl (fun S y => addS S (joinS kk x.1 y.1) (x.2 * y.2 * (1 / ((n : Nat) : Rat)))) S)
  | [], N, e, S, hS, _, _, _, _ => by
    refine ⟨evs _, hS.mono (Nat.le_refl _) ?_⟩
    have : tot [] = 0 := rfl
    rw [this]
    grind
  | y :: R, N, e, S, hS, hN, hM, hR, he => by
    have ht : tot (y :: R) = y.2 + tot R := rfl
    have hxp := Rat.mul_pos hx.1 (inv_pos (n := n) (by omega))
    have hR0 : 0 ≤ tot R := qsum_nonneg fun z hz => (hR z (List.mem_cons_of_mem _ hz)).1
    have hm := Rat.mul_nonneg (Rat.le_of_lt hxp) hR0
    rw [ht] at he ⊢
    rw [List.length_cons] at hN ⊢
    generalize hq : (1 / ((n : Nat) : Rat)) = q at *
    have hy := hR y (by simp)
    have e1 : e + x.2 * y.2 * q + x.2 * q * tot R = e + x.2 * q * (y.2 + tot R) := by grind
    have hp := ev_pairF D D1 D2 n kk N e S x y hS hD hD2 hd hk hn (by omega) hx hy (by rw [hq]; grind)
    rw [hq] at hp
    have ih := ev_rowF D D1 D2 n kk M0 x hD hD2 hd hk hn hx R (N + 1) (e + x.2 * y.2 * q) _ hp.2 (by omega) hM (fun z hz => hR z (List.mem_cons_of_mem _ hz)) (by rw [hq, e1]; exact he)
    rw [hq] at ih
    rw [e1] at ih
    rw [List.foldl_cons]
    refine ⟨?_, ih.2.mono (by omega) (Rat.le_refl)⟩
    show Ev (fun k => (pairF k (kk : Int) (n : Int) (toI x.1) (cf x.2) (toI y.1) (cf y.2) (enc S)).bind fun st' => rowF k (kk : Int) (n : Int) (toI x.1) (cf x.2) (enc1 R) (enc2 R) st') _
    exact evb hp.1 ih.1
/-- .. and those to the left. -/
theorem ev_allF (D D1 D2 n kk M0 : Nat) (R : List (List Nat × Rat)) (hD : 0 < D) (hD2 : D ≤ 479001600) (hd : D1 * D2 * n ∣ D) (hk : kk < n) (hn : n ≤ 1000) (hM : M0 ≤ 1000000)
    (hR : ∀ y ∈ R, 0 < y.2 ∧ Nt D2 y.2 ∧ y.1.length ≤ 400 ∧ ∀ z ∈ y.1, z ≤ 1000) (hR1 : tot R ≤ 1) : ∀ (L : List (List Nat × Rat)) (N : Nat) (e : Rat) (S : List (List Nat × Rat)), St D N e S → N + L.length * R.length ≤ M0 → (∀ x ∈ L, 0 < x.2 ∧ Nt D1 x.2 ∧ x.1.length ≤ 400) → e + (1 / ((n : Nat) : Rat)) * tot L ≤ 1 →
    Ev (fun k => allF k (kk : Int) (n : Int) (enc1 R) (enc2 R) (enc1 L) (enc2 L) (enc S)) (enc (L.foldl (fun S x => R.foldl (fun S y => addS S (joinS kk x.1 y.1) (x.2 * y.2 * (1 / ((n : Nat) : Rat)))) S) S)) ∧
    St D (N + L.length * R.length) (e + (1 / ((n : Nat) : Rat)) * tot L) (L.foldl (fun S x => R.foldl (fun S y => addS S (joinS kk x.1 y.1) (x.2 * y.2 * (1 / ((n : Nat) : Rat)))) S) S)
  | [], N, e, S, hS, _, _, _ => by
    refine ⟨evs _, hS.mono (by omega) ?_⟩
    have : tot [] = 0 := rfl
    rw [this]
    grind
  | x :: L, N, e, S, hS, hN, hL, he => by
    have ht : tot (x :: L) = x.2 + tot L := rfl
    have hx := hL x (by simp)
    have hqp := inv_pos (n := n) (by omega)
    have hxp := Rat.mul_pos hx.1 hqp
    have hL0 : 0 ≤ tot L := qsum_nonneg fun z hz => (hL z (List.mem_cons_of_mem _ hz)).1
    have hm := Rat.mul_nonneg (Rat.le_of_lt hqp) hL0
    have hmR := Rat.mul_le_mul_of_nonneg_left hR1 (Rat.le_of_lt hxp)
    rw [ht] at he ⊢
    rw [List.length_cons, Nat.succ_mul] at hN ⊢
    generalize hq : (1 / ((n : Nat) : Rat)) = q at *
    have e1 : e + x.2 * q + q * tot L = e + q * (x.2 + tot L) := by grind
    have hp := ev_rowF D D1 D2 n kk M0 x hD hD2 hd hk hn hx R N e S hS (by omega) hM hR (by rw [hq]; grind)
    rw [hq] at hp
    have ih := ev_allF D D1 D2 n kk M0 R hD hD2 hd hk hn hM hR hR1 L (N + R.length) (e + x.2 * q) _ (hp.2.mono (Nat.le_refl _) (by grind)) (by omega) (fun z hz => hL z (List.mem_cons_of_mem _ hz)) (by rw [hq, e1]; exact he)
    rw [hq] at ih
    rw [e1] at ih
    rw [List.foldl_cons]
    refine ⟨?_, ih.2.mono (by omega) (Rat.le_refl)⟩
    show Ev (fun k => (rowF k (kk : Int) (n : Int) (toI x.1) (cf x.2) (enc1 R) (enc2 R) (enc S)).bind fun st' => allF k (kk : Int) (n : Int) (enc1 R) (enc2 R) (enc1 L) (enc2 L) st') _
    exact evb hp.1 ih.1
theorem foldl_eq {α β : Type} {f g : β → α → β} : ∀ {l : List α} {b : β}, (∀ b, ∀ a ∈ l, f b a = g b a) → l.foldl f b = l.foldl g b
  | [], _, _ => rfl
  | a :: l, b, h => by
    rw [List.foldl_cons, List.foldl_cons, h b a (by simp)]
    exact foldl_eq fun b c hc => h b c (List.mem_cons_of_mem _ hc)
theorem setS_fuel : ∀ (d e n : Nat), n ≤ d → n ≤ e → setS d n = setS e n
  | 0, 0, n, _, _ => rfl
  | 0, e + 1, n, h, _ => by
    obtain rfl : n = 0 := by omega
    rfl
  | d + 1, 0, n, _, h => by
    obtain rfl : n = 0 := by omega
    rfl
  | d + 1, e + 1, n, h1, h2 => by
    unfold setS
    by_cases c : n = 0
    · rw [if_pos c, if_pos c]
    · rw [if_neg c, if_neg c]
      refine foldl_eq fun S k hk => ?_
      have hk := List.mem_range.1 hk
      rw [setS_fuel d e (k - 1) (by omega) (by omega), setS_fuel d e (n - k - 2) (by omega) (by omega)]
/-- The sets of a block of n seats. -/
def sS (n : Nat) : List (List Nat × Rat) := setS n n
def bodyS (n k : Nat) (S : List (List Nat × Rat)) : List (List Nat × Rat) := (sS (k - 1)).foldl (fun S x => (sS (n - k - 2)).foldl (fun S y => addS S (joinS k x.1 y.1) (x.2 * y.2 * (1 / ((n : Nat) : Rat)))) S) S
theorem sS_step (n : Nat) (h : 0 < n) : sS n = (List.range n).foldl (fun S k => bodyS n k S) [] := by
  obtain ⟨m, rfl⟩ : ∃ m, n = m + 1 := ⟨n - 1, by omega⟩
  unfold sS
  conv => lhs; unfold setS
  rw [if_neg (by omega)]
  refine foldl_eq fun S k hk => ?_
  have hk := List.mem_range.1 hk
  unfold bodyS sS
  rw [setS_fuel m (k - 1) (k - 1) (by omega) (by omega), setS_fuel m (m + 1 - k - 2) (m + 1 - k - 2) (by omega) (by omega)]
def bd (n : Nat) : Nat := ([1, 1, 2, 3, 6, 11, 22, 44, 90, 187, 392, 832, 1778] : List Nat).getD n 0
def fac : Nat → Nat
  | 0 => 1
  | n + 1 => (n + 1) * fac n
theorem bd_sum : ∀ n, n ≤ 12 → 0 < n → (List.range n).foldl (fun a k => a + bd (k - 1) * bd (n - k - 2)) 0 ≤ bd n := by decide +kernel
theorem bd_pow : ∀ n, n ≤ 12 → bd n ≤ 2 ^ n := by decide +kernel
theorem fac_dvd : ∀ n, n ≤ 12 → ∀ k, k < n → fac (k - 1) * fac (n - k - 2) * n ∣ fac n := by decide +kernel
theorem fac_mul : ∀ a, a ≤ 12 → ∀ b, b ≤ 12 - a → fac a * fac b ∣ fac (a + b) := by decide +kernel
theorem fac_le : ∀ n, n ≤ 12 → 0 < fac n ∧ fac n ≤ 479001600 := by decide +kernel
/-- The count of what is added in the seats from k on. -/
def bdn (n : Nat) : List Nat → Nat
  | [] => 0
  | k :: l => bd (k - 1) * bd (n - k - 2) + bdn n l
theorem bdn_fold (n : Nat) : ∀ (l : List Nat) (a : Nat), l.foldl (fun a k => a + bd (k - 1) * bd (n - k - 2)) a = a + bdn n l
  | [], a => rfl
  | k :: l, a => by rw [List.foldl_cons, bdn_fold n l]; simp only [bdn]; omega
/-- What is known of the sets of a block. -/
structure Sets (n : Nat) : Prop where
  st : St (fac n) (bd n) 1 (sS n)
theorem Sets.mem {n : Nat} (h : Sets n) (hn : n ≤ 12) : ∀ y ∈ sS n, 0 < y.2 ∧ Nt (fac n) y.2 ∧ y.1.length ≤ 400 ∧ ∀ z ∈ y.1, z ≤ 1000 := fun y hy => by
  have ok := setS_ok n n
  refine ⟨h.st.pos y hy, (h.st.nt y hy).1, ?_, fun z hz => ?_⟩
  · have := inc_len (ok.inc y hy) (ok.low y hy)
    omega
  · have := ok.low y hy z hz
    omega
theorem ev_loopF (g : Nat → Int → Option (List (List Int) × List S26)) (n : Nat) (h0 : 0 < n) (hn : n ≤ 12) (hg : ∀ z : Int, z < (n : Int) → Ev (fun k => g k z) (enc (sS z.toNat))) (hs : ∀ j, j < n → Sets j) : ∀ m kk N (e : Rat) (S : List (List Nat × Rat)), kk + m = n → St (fac n) N e S → N + bdn n (List.range' kk m) ≤ bd n → e + ((m : Nat) : Rat) * (1 / ((n : Nat) : Rat)) ≤ 1 →
    Ev (fun k => loopF (g k) k (n : Int) m (kk : Int) (enc S)) (enc ((List.range' kk m).foldl (fun S k => bodyS n k S) S)) ∧
    St (fac n) (N + bdn n (List.range' kk m)) (e + ((m : Nat) : Rat) * (1 / ((n : Nat) : Rat))) ((List.range' kk m).foldl (fun S k => bodyS n k S) S)
  | 0, kk, N, e, S, hkk, hS, hN, he => by
    refine ⟨evs _, ?_⟩
    exact hS.mono (by simp [bdn]) (by grind)
  | m + 1, kk, N, e, S, hkk, hS, hN, he => by
    have hq0 := inv_pos (n := n) h0
    have hml : bd n ≤ 1000000 := Nat.le_trans (bd_pow n hn) (Nat.le_trans (Nat.pow_le_pow_right (by omega) hn) (by omega))
    rw [List.range'_succ] at hN ⊢
    simp only [bdn] at hN ⊢
    have hL := hs (kk - 1) (by omega)
    have hR := hs (n - kk - 2) (by omega)
    rw [show (((m + 1 : Nat) : Nat) : Rat) = ((m : Nat) : Rat) + 1 by rw [Rat.natCast_add]; rfl] at he ⊢
    have hm0 : (0 : Rat) ≤ ((m : Nat) : Rat) := by exact_mod_cast Nat.zero_le m
    generalize hq : (1 / ((n : Nat) : Rat)) = q at *
    have hmq := Rat.mul_nonneg hm0 (Rat.le_of_lt hq0)
    have hlt := Rat.mul_le_mul_of_nonneg_left hL.st.all (Rat.le_of_lt hq0)
    have hlen : (sS (kk - 1)).length * (sS (n - kk - 2)).length ≤ bd (kk - 1) * bd (n - kk - 2) := Nat.mul_le_mul hL.st.num hR.st.num
    have hb := bd_pow (kk - 1) (by omega)
    have hb2 := bd_pow (n - kk - 2) (by omega)
    have hp1 : 2 ^ (kk - 1) ≤ 2 ^ 12 := Nat.pow_le_pow_right (by omega) (by omega)
    have hp2 : 2 ^ (n - kk - 2) ≤ 2 ^ 12 := Nat.pow_le_pow_right (by omega) (by omega)
    have hp := ev_allF (fac n) (fac (kk - 1)) (fac (n - kk - 2)) n kk 1000000 (sS (n - kk - 2)) (fac_le n hn).1 (fac_le n hn).2 (fac_dvd n hn kk (by omega)) (by omega) (by omega) (Nat.le_refl _) (hR.mem (by omega)) hR.st.all (sS (kk - 1)) N e S hS (by omega) (fun x hx => by have := hL.mem (by omega) x hx; exact ⟨this.1, this.2.1, this.2.2.1⟩) (by rw [hq]; grind)
    rw [hq] at hp
    have hbody : (sS (kk - 1)).foldl (fun S x => (sS (n - kk - 2)).foldl (fun S y => addS S (joinS kk x.1 y.1) (x.2 * y.2 * q)) S) S = bodyS n kk S := by unfold bodyS; rw [hq]
    rw [hbody] at hp
    have e1 : e + q + ((m : Nat) : Rat) * q = e + (((m : Nat) : Rat) + 1) * q := by grind
    have ih := ev_loopF g n h0 hn hg hs m (kk + 1) (N + bd (kk - 1) * bd (n - kk - 2)) (e + q) (bodyS n kk S) (by omega) (hp.2.mono (by omega) (by grind)) (by omega) (by rw [hq, e1]; exact he)
    rw [hq, e1] at ih
    rw [List.foldl_cons]
    refine ⟨?_, ih.2.mono (by omega) (Rat.le_refl)⟩
    have g1 := hg ((kk : Int) - 1) (by omega)
    have g2 := hg ((n : Int) - (kk : Int) - 2) (by omega)
    rw [show ((kk : Int) - 1).toNat = kk - 1 by omega] at g1
    rw [show ((n : Int) - (kk : Int) - 2).toNat = n - kk - 2 by omega] at g2
    have w1 : wrap64 ((kk : Int) - 1) = (kk : Int) - 1 := w64 (by omega) (by omega)
    have w2 : wrap64 ((n : Int) - (kk : Int)) = (n : Int) - (kk : Int) := w64 (by omega) (by omega)
    have w3 : wrap64 ((n : Int) - (kk : Int) - 2) = (n : Int) - (kk : Int) - 2 := w64 (by omega) (by omega)
    have hl1 := hL.st.num
    have hl2 := hR.st.num
    show Ev (fun k => (g k (wrap64 ((kk : Int) - 1))).bind fun l => (g k (wrap64 (wrap64 ((n : Int) - (kk : Int)) - 2))).bind fun r => if l.1.length ≤ 1000000 ∧ r.1.length ≤ 1000000 then (allF k (kk : Int) (n : Int) r.1 r.2 l.1 l.2 (enc S)).bind fun st' => loopF (g k) k (n : Int) m ((kk : Int) + 1) st' else none) _
    rw [w1, w2, w3]
    refine evb g1 (evb g2 (evp ⟨?_, ?_⟩ (evb hp.1 ?_)))
    · show (enc1 _).length ≤ _
      rw [enc1_len]; omega
    · show (enc1 _).length ≤ _
      rw [enc1_len]; omega
    · rw [show ((kk : Int) + 1) = ((kk + 1 : Nat) : Int) by omega]
      exact ih.1
theorem ev_from {α : Type} {f g : Nat → Option α} {r : α} (h : ∃ K, ∀ k, K ≤ k → f k = g k) (hg : Ev g r) : Ev f r := by
  obtain ⟨K, hK⟩ := h
  obtain ⟨K2, h2⟩ := hg
  exact ⟨K + K2, fun k hk => by rw [hK k (by omega)]; exact h2 k (by omega)⟩
theorem sets0 : Sets 0 := by
  have hm : ∀ x ∈ sS 0, x = ([], 1) := fun x hx => List.mem_singleton.1 hx
  refine ⟨fun x hx => ?_, fun x hx => ?_, Nat.le_refl 1, ?_⟩
  · rw [hm x hx]; show (0 : Rat) < 1; decide
  · rw [hm x hx]; exact ⟨Nt.one, by simp⟩
  · show (1 : Rat) + 0 ≤ 1; grind
theorem ev_setF : ∀ n, n ≤ 12 → Sets n ∧ ∀ z : Int, z.toNat = n → ∀ δ : Nat → Nat, (∃ K, ∀ k, K ≤ k → n < δ k) → Ev (fun k => setF k (δ k) z) (enc (sS n)) := by
  intro n
  induction n using Nat.strongRecOn with
  | ind n ih =>
    intro hn
    by_cases h0 : n = 0
    · subst h0
      refine ⟨sets0, fun z hz δ hδ => ?_⟩
      refine ev_from (g := fun _ => some ([[]], [(⟨1, 1⟩ : S26)])) ?_ (evs _)
      obtain ⟨K, hK⟩ := hδ
      refine ⟨K, fun k hk => ?_⟩
      obtain ⟨d, hd⟩ : ∃ d, δ k = d + 1 := ⟨δ k - 1, by have := hK k hk; omega⟩
      rw [hd]
      unfold setF
      rw [if_pos (by omega)]
    · have hs : ∀ j, j < n → Sets j := fun j hj => (ih j hj (by omega)).1
      have hsum : 0 + bdn n (List.range' 0 n) ≤ bd n := by
        have := bd_sum n hn (by omega)
        rw [bdn_fold, List.range_eq_range'] at this
        exact this
      have hne := natCast_nez (m := n) (by omega)
      have hone : (0 : Rat) + ((n : Nat) : Rat) * (1 / ((n : Nat) : Rat)) = 1 := by grind
      have hz0 : St (fac n) 0 0 [] := ⟨by simp, by simp, by simp, by show (0 : Rat) ≤ 0; decide⟩
      have hfold : (List.range' 0 n).foldl (fun S k => bodyS n k S) [] = sS n := by rw [sS_step n (by omega), List.range_eq_range']
      constructor
      · have hp := ev_loopF (fun _ z => some (enc (sS z.toNat))) n (by omega) hn (fun z hz => evs _) hs n 0 0 0 [] (by omega) hz0 hsum (by rw [hone]; decide)
        rw [hfold, hone] at hp
        exact ⟨hp.2.mono hsum (Rat.le_refl)⟩
      · intro z hz δ hδ
        obtain ⟨K, hK⟩ := hδ
        have hg : ∀ y : Int, y < (n : Int) → Ev (fun k => setF k (δ k - 1) y) (enc (sS y.toNat)) := fun y hy => by
          exact (ih y.toNat (by omega) (by omega)).2 y rfl (fun k => δ k - 1) ⟨K, fun k hk => by have := hK k hk; omega⟩
        have hp := ev_loopF (fun k y => setF k (δ k - 1) y) n (by omega) hn hg hs n 0 0 0 [] (by omega) hz0 hsum (by rw [hone]; decide)
        rw [hfold] at hp
        refine ev_from ⟨K, fun k hk => ?_⟩ hp.1
        obtain ⟨d, hd⟩ : ∃ d, δ k = d + 1 := ⟨δ k - 1, by have := hK k hk; omega⟩
        have hzn : z = (n : Int) := by omega
        rw [hd, hzn, Nat.add_sub_cancel]
        conv => lhs; unfold setF
        rw [if_neg (by omega), if_pos (by omega), Int.toNat_natCast]
        rfl
theorem sets (n : Nat) (hn : n ≤ 12) : Sets n := (ev_setF n hn).1
/-- The seats put in, one by one. -/
theorem ev_rseatF (kk n : Nat) (h0 : 0 < n) (hn : n ≤ 1000) (hk : kk ≤ 1000) : ∀ (y : List Nat) (s : List Int), (∀ z ∈ y, z ≤ 1000) → s.Pairwise (· < ·) → s.length + y.length ≤ 2000 →
    ∃ R : List Int, Ev (fun k => rseatF k (kk : Int) (n : Int) s (toI y)) R ∧ R.Pairwise (· < ·) ∧ (∀ x, x ∈ R ↔ x ∈ s ∨ ∃ z, z ∈ y ∧ (((kk + 2 + z) % n : Nat) : Int) = x)
  | [], s, _, hs, _ => ⟨s, evs _, hs, fun x => by simp⟩
  | z :: y, s, hy, hs, hl => by
    have hz : z ≤ 1000 := hy z (by simp)
    obtain ⟨R1, a1, a2, a3, a4⟩ := ev_l1Put s (((kk + 2 + z) % n : Nat) : Int) (by simp only [List.length_cons] at hl; omega) hs
    obtain ⟨R, b1, b2, b3⟩ := ev_rseatF kk n h0 hn hk y R1 (fun z hz => hy z (List.mem_cons_of_mem _ hz)) a2 (by simp only [List.length_cons] at hl; omega)
    refine ⟨R, ?_, b2, fun x => ?_⟩
    · show Ev (fun k => (spec_l1Put.f k s (Int.tmod (wrap64 (wrap64 ((kk : Int) + 2) + (z : Int))) (n : Int))).bind fun s' => rseatF k (kk : Int) (n : Int) s' (toI y)) R
      have e : Int.tmod (wrap64 (wrap64 ((kk : Int) + 2) + (z : Int))) (n : Int) = (((kk + 2 + z) % n : Nat) : Int) := by
        rw [joinI1 kk hk z hz]
        exact (Int.ofNat_tmod _ _).symm
      rw [e]
      exact evb a1 b1
    · rw [b3, a3]
      constructor
      · rintro ((h | h) | ⟨w, h1, h2⟩)
        · exact .inr ⟨z, by simp, h.symm⟩
        · exact .inl h
        · exact .inr ⟨w, List.mem_cons_of_mem _ h1, h2⟩
      · rintro (h | ⟨w, h1, h2⟩)
        · exact .inl (.inr h)
        · rcases List.mem_cons.1 h1 with rfl | h1
          · exact .inl (.inl h2.symm)
          · exact .inr ⟨w, h1, h2⟩
theorem rset_ev (kk n : Nat) (hk : kk < n) (hn : n ≤ 1000) (y : List Nat) (hy : ∀ z ∈ y, z ≤ 1000) (hl : y.length ≤ 1000) : Ev (fun k => rseatF k (kk : Int) (n : Int) [(kk : Int)] (toI y)) (toI (rset n kk y)) := by
  obtain ⟨R, a1, a2, a3⟩ := ev_rseatF kk n (by omega) hn (by omega) y [(kk : Int)] hy (List.pairwise_singleton _ _) (by simp; omega)
  refine eve a1 (inc_ext a2 (toI_inc (List.pairwise_lt_range.filter _)) fun x => ?_)
  rw [a3, mem_toI]
  constructor
  · rintro (h | ⟨z, h1, h2⟩)
    · exact ⟨kk, mem_rset.2 ⟨hk, .inl rfl⟩, (List.mem_singleton.1 h).symm⟩
    · exact ⟨(kk + 2 + z) % n, mem_rset.2 ⟨Nat.mod_lt _ (by omega), .inr ⟨z, h1, rfl⟩⟩, h2⟩
  · rintro ⟨j, hj, rfl⟩
    rcases (mem_rset.1 hj).2 with h | ⟨z, h1, h2⟩
    · exact .inl (by rw [h]; simp)
    · exact .inr ⟨z, h1, by rw [h2]⟩
theorem rset_len (n k : Nat) (s : List Nat) : (rset n k s).length ≤ n := by
  have := List.length_filter_le (fun i => i == k || s.any fun j => (k + 2 + j) % n == i) (List.range n)
  rw [List.length_range] at this
  exact this
theorem ev_rrowF (D D2 n kk : Nat) (hD : 0 < D) (hD2 : D ≤ 479001600) (hd : D2 * n ∣ D) (hk : kk < n) (hn : n ≤ 1000) : ∀ (R : List (List Nat × Rat)) (N : Nat) (e : Rat) (S : List (List Nat × Rat)), St D N e S → N + R.length ≤ 1000000 → (∀ y ∈ R, 0 < y.2 ∧ Nt D2 y.2 ∧ y.1.length ≤ 400 ∧ ∀ z ∈ y.1, z ≤ 1000) → e + (1 / ((n : Nat) : Rat)) * tot R ≤ 1 →
    Ev (fun k => rrowF k (kk : Int) (n : Int) (enc1 R) (enc2 R) (enc S)) (enc (R.foldl (fun S y => addS S (rset n kk y.1) (y.2 * (1 / ((n : Nat) : Rat)))) S)) ∧
    St D (N + R.length) (e + (1 / ((n : Nat) : Rat)) * tot R) (R.foldl (fun S y => addS S (rset n kk y.1) (y.2 * (1 / ((n : Nat) : Rat)))) S)
  | [], N, e, S, hS, _, _, _ => by
    refine ⟨evs _, hS.mono (Nat.le_refl _) ?_⟩
    have : tot [] = 0 := rfl
    rw [this]
    grind
  | y :: R, N, e, S, hS, hN, hR, he => by
    have ht : tot (y :: R) = y.2 + tot R := rfl
    have hqp := inv_pos (n := n) (by omega)
    have hR0 : 0 ≤ tot R := qsum_nonneg fun z hz => (hR z (List.mem_cons_of_mem _ hz)).1
    have hm := Rat.mul_nonneg (Rat.le_of_lt hqp) hR0
    rw [ht] at he ⊢
    rw [List.length_cons] at hN ⊢
    have hy := hR y (by simp)
    have hdp : 0 < D2 * n := Nat.pos_of_dvd_of_pos hd hD
    have hD22 : 0 < D2 := Nat.pos_of_mul_pos_right hdp
    have hle : D2 * n ≤ D := Nat.le_of_dvd hD hd
    have hle2 : D2 ≤ D := Nat.le_trans (Nat.le_mul_of_pos_right _ (by omega)) hle
    have hc : Nt D (y.2 * (1 / ((n : Nat) : Rat))) := (hy.2.1.mul (Nt.inv (by omega))).dvd hd
    have hnum := hS.num
    have hv : Ev (fun k => rpairF k (kk : Int) (n : Int) (toI y.1) (cf y.2) (enc S)) (enc (addS S (rset n kk y.1) (y.2 * (1 / ((n : Nat) : Rat))))) := by
      unfold rpairF
      refine evp ⟨by rw [toI_len]; omega, by show (enc1 S).length ≤ _; rw [enc1_len]; omega, by show (enc1 S).length = (enc2 S).length; rw [enc1_len, enc2_len]⟩ ?_
      refine evb (rset_ev kk n hk hn y.1 hy.2.2.2 (by omega)) ?_
      have htm := times_nt hy.2.1 (Nt.inv (n := n) (by omega)) hD22 (by omega) (by omega) (by omega)
      rw [fr_inv (by omega)] at htm
      dsimp only at htm
      exact evb htm (ev_addF D hD hD2 _ _ hc S hS.nt)
    have hpos := Rat.mul_pos hy.1 hqp
    have hst := fun h1 => hS.add (s := rset n kk y.1) hpos hc h1 (by have := rset_len n kk y.1; omega)
    generalize hq : (1 / ((n : Nat) : Rat)) = q at *
    have e1 : e + y.2 * q + q * tot R = e + q * (y.2 + tot R) := by grind
    have ih := ev_rrowF D D2 n kk hD hD2 hd hk hn R (N + 1) (e + y.2 * q) _ (hst (by grind)) (by omega) (fun z hz => hR z (List.mem_cons_of_mem _ hz)) (by rw [hq, e1]; exact he)
    rw [hq] at ih
    rw [e1] at ih
    rw [List.foldl_cons]
    refine ⟨?_, ih.2.mono (by omega) (Rat.le_refl)⟩
    show Ev (fun k => (rpairF k (kk : Int) (n : Int) (toI y.1) (cf y.2) (enc S)).bind fun st' => rrowF k (kk : Int) (n : Int) (enc1 R) (enc2 R) st') _
    exact evb hv ih.1
def rbody (n k : Nat) (S : List (List Nat × Rat)) : List (List Nat × Rat) := (sS (n - 3)).foldl (fun S x => addS S (rset n k x.1) (x.2 * (1 / ((n : Nat) : Rat)))) S
theorem rdvd : ∀ n, n ≤ 12 → 3 ≤ n → fac (n - 3) * n ∣ fac n ∧ n * bd (n - 3) ≤ 2 ^ n ∧ n * bd (n - 3) ≤ 10000 := by decide +kernel
theorem ringS_eq (n : Nat) (h3 : 3 ≤ n) : ringS n n = (List.range n).foldl (fun S k => rbody n k S) [] := by
  unfold ringS rbody sS
  refine foldl_eq fun S k hk => ?_
  rw [setS_fuel n (n - 3) (n - 3) (by omega) (by omega)]
theorem ev_rloopF (n : Nat) (h3 : 3 ≤ n) (hn : n ≤ 12) : ∀ m kk N (e : Rat) (S : List (List Nat × Rat)), kk + m = n → St (fac n) N e S → N + m * bd (n - 3) ≤ n * bd (n - 3) → e + ((m : Nat) : Rat) * (1 / ((n : Nat) : Rat)) ≤ 1 →
    Ev (fun k => rloopF k (n : Int) (enc1 (sS (n - 3))) (enc2 (sS (n - 3))) m (kk : Int) (enc S)) (enc ((List.range' kk m).foldl (fun S k => rbody n k S) S)) ∧
    St (fac n) (N + m * bd (n - 3)) (e + ((m : Nat) : Rat) * (1 / ((n : Nat) : Rat))) ((List.range' kk m).foldl (fun S k => rbody n k S) S)
  | 0, kk, N, e, S, hkk, hS, hN, he => by
    refine ⟨evs _, ?_⟩
    exact hS.mono (by omega) (by grind)
  | m + 1, kk, N, e, S, hkk, hS, hN, he => by
    have hq0 := inv_pos (n := n) (by omega)
    have hr := rdvd n hn h3
    rw [List.range'_succ]
    rw [Nat.succ_mul] at hN ⊢
    have hR := sets (n - 3) (by omega)
    rw [show (((m + 1 : Nat) : Nat) : Rat) = ((m : Nat) : Rat) + 1 by rw [Rat.natCast_add]; rfl] at he ⊢
    have hm0 : (0 : Rat) ≤ ((m : Nat) : Rat) := by exact_mod_cast Nat.zero_le m
    have hnum := hR.st.num
    have hmb : 0 ≤ m * bd (n - 3) := Nat.zero_le _
    generalize hq : (1 / ((n : Nat) : Rat)) = q at *
    have hmq := Rat.mul_nonneg hm0 (Rat.le_of_lt hq0)
    have hlt := Rat.mul_le_mul_of_nonneg_left hR.st.all (Rat.le_of_lt hq0)
    have hp := ev_rrowF (fac n) (fac (n - 3)) n kk (fac_le n hn).1 (fac_le n hn).2 hr.1 (by omega) (by omega) (sS (n - 3)) N e S hS (by omega) (hR.mem (by omega)) (by rw [hq]; grind)
    rw [hq] at hp
    have hbody : (sS (n - 3)).foldl (fun S y => addS S (rset n kk y.1) (y.2 * q)) S = rbody n kk S := by unfold rbody; rw [hq]
    rw [hbody] at hp
    have e1 : e + q + ((m : Nat) : Rat) * q = e + (((m : Nat) : Rat) + 1) * q := by grind
    have ih := ev_rloopF n h3 hn m (kk + 1) (N + bd (n - 3)) (e + q) (rbody n kk S) (by omega) (hp.2.mono (by omega) (by grind)) (by omega) (by rw [hq, e1]; exact he)
    rw [hq, e1] at ih
    rw [List.foldl_cons]
    refine ⟨?_, ih.2.mono (by omega) (Rat.le_refl)⟩
    show Ev (fun k => (rrowF k (kk : Int) (n : Int) (enc1 (sS (n - 3))) (enc2 (sS (n - 3))) (enc S)).bind fun st' => rloopF k (n : Int) (enc1 (sS (n - 3))) (enc2 (sS (n - 3))) m ((kk : Int) + 1) st') _
    refine evb hp.1 ?_
    rw [show ((kk : Int) + 1) = ((kk + 1 : Nat) : Int) by omega]
    exact ih.1
theorem ev_ringF (n : Nat) (h3 : 3 ≤ n) (hn : n ≤ 12) : Ev (fun k => ringF k k (n : Int)) (enc (ringS n n)) ∧ St (fac n) (2 ^ n) 1 (ringS n n) := by
  have hne := natCast_nez (m := n) (by omega)
  have hone : (0 : Rat) + ((n : Nat) : Rat) * (1 / ((n : Nat) : Rat)) = 1 := by grind
  have hz0 : St (fac n) 0 0 [] := ⟨by simp, by simp, by simp, by show (0 : Rat) ≤ 0; decide⟩
  have hp := ev_rloopF n h3 hn n 0 0 0 [] (by omega) hz0 (by omega) (by rw [hone]; decide)
  rw [← List.range_eq_range', ← ringS_eq n h3, hone] at hp
  have hr := rdvd n hn h3
  refine ⟨?_, hp.2.mono (by omega) (Rat.le_refl)⟩
  unfold ringF
  refine evp (by omega) ?_
  have hs := (ev_setF (n - 3) (by omega)).2 (wrap64 ((n : Int) - 3)) (by rw [w64 (by omega) (by omega)]; omega) (fun k => k) ⟨n, fun k hk => by omega⟩
  refine evb hs (evp ?_ ?_)
  · show (enc1 _).length ≤ _
    have := (sets (n - 3) (by omega)).st.num
    have hb := bd_pow (n - 3) (by omega)
    have : 2 ^ (n - 3) ≤ 2 ^ 12 := Nat.pow_le_pow_right (by omega) (by omega)
    rw [enc1_len]; omega
  · rw [Int.toNat_natCast]
    exact hp.1
theorem ev_fseatF (p0 n : Nat) (h0 : 0 < n) (hp : p0 ≤ 1000) : ∀ (y : List Nat) (s : List Int), (∀ z ∈ y, z ≤ 1000) → s.Pairwise (· < ·) → s.length + y.length ≤ 2000 →
    ∃ R : List Int, Ev (fun k => fseatF k (p0 : Int) (n : Int) s (toI y)) R ∧ R.Pairwise (· < ·) ∧ (∀ x, x ∈ R ↔ x ∈ s ∨ ∃ z, z ∈ y ∧ (((p0 + z) % n : Nat) : Int) = x)
  | [], s, _, hs, _ => ⟨s, evs _, hs, fun x => by simp⟩
  | z :: y, s, hy, hs, hl => by
    have hz : z ≤ 1000 := hy z (by simp)
    obtain ⟨R1, a1, a2, a3, a4⟩ := ev_l1Put s (((p0 + z) % n : Nat) : Int) (by simp only [List.length_cons] at hl; omega) hs
    obtain ⟨R, b1, b2, b3⟩ := ev_fseatF p0 n h0 hp y R1 (fun z hz => hy z (List.mem_cons_of_mem _ hz)) a2 (by simp only [List.length_cons] at hl; omega)
    refine ⟨R, ?_, b2, fun x => ?_⟩
    · show Ev (fun k => (spec_l1Put.f k s (Int.tmod (wrap64 ((p0 : Int) + (z : Int))) (n : Int))).bind fun s' => fseatF k (p0 : Int) (n : Int) s' (toI y)) R
      have e : Int.tmod (wrap64 ((p0 : Int) + (z : Int))) (n : Int) = (((p0 + z) % n : Nat) : Int) := by
        have e1 : wrap64 ((p0 : Int) + (z : Int)) = ((p0 + z : Nat) : Int) := by rw [w64 (by omega) (by omega)]; omega
        rw [e1]
        exact (Int.ofNat_tmod _ _).symm
      rw [e]
      exact evb a1 b1
    · rw [b3, a3]
      constructor
      · rintro ((h | h) | ⟨w, h1, h2⟩)
        · exact .inr ⟨z, by simp, h.symm⟩
        · exact .inl h
        · exact .inr ⟨w, List.mem_cons_of_mem _ h1, h2⟩
      · rintro (h | ⟨w, h1, h2⟩)
        · exact .inl (.inr h)
        · rcases List.mem_cons.1 h1 with rfl | h1
          · exact .inl (.inl h2.symm)
          · exact .inr ⟨w, h1, h2⟩
theorem uset_ev (p0 n : Nat) (h0 : 0 < n) (hp : p0 ≤ 1000) (x y : List Nat) (hy : ∀ z ∈ y, z ≤ 1000) (hl : y.length ≤ 1000) (hx : x.Pairwise (· < ·)) (hxn : ∀ j ∈ x, j < n) (hxl : x.length ≤ 1000) : Ev (fun k => fseatF k (p0 : Int) (n : Int) (toI x) (toI y)) (toI (uset n p0 x y)) := by
  obtain ⟨R, a1, a2, a3⟩ := ev_fseatF p0 n h0 hp y (toI x) hy (toI_inc hx) (by rw [toI_len]; omega)
  refine eve a1 (inc_ext a2 (toI_inc (List.pairwise_lt_range.filter _)) fun w => ?_)
  rw [a3, mem_toI, mem_toI]
  constructor
  · rintro (⟨j, h1, h2⟩ | ⟨z, h1, h2⟩)
    · exact ⟨j, mem_uset.2 ⟨hxn j h1, .inl h1⟩, h2⟩
    · exact ⟨(p0 + z) % n, mem_uset.2 ⟨Nat.mod_lt _ h0, .inr ⟨z, h1, rfl⟩⟩, h2⟩
  · rintro ⟨j, hj, rfl⟩
    rcases (mem_uset.1 hj).2 with h | ⟨z, h1, h2⟩
    · exact .inl ⟨j, h, rfl⟩
    · exact .inr ⟨z, h1, by rw [h2]⟩
/-- What is known of the rows under way: the chances are so many D-ths, the sets rise and lie below n. -/
structure Fs (n D N : Nat) (S : List (List Nat × Rat)) : Prop where
  nt : ∀ x ∈ S, Nt D x.2
  inc : ∀ x ∈ S, x.1.Pairwise (· < ·) ∧ ∀ j ∈ x.1, j < n
  num : S.length ≤ N
theorem enc_app (S T : List (List Nat × Rat)) : enc (S ++ T) = (enc1 S ++ enc1 T, enc2 S ++ enc2 T) := by
  unfold enc enc1 enc2
  rw [List.map_append, List.map_append]
theorem ev_frowF (n p0 D1 D2 : Nat) (x : List Nat × Rat) (h0 : 0 < n) (hn : n ≤ 400) (hp : p0 ≤ 1000) (hD1 : 0 < D1 ∧ D1 ≤ 479001600) (hD2 : 0 < D2 ∧ D2 ≤ 479001600) (hx : Nt D1 x.2 ∧ x.1.Pairwise (· < ·) ∧ ∀ j ∈ x.1, j < n) : ∀ (R S : List (List Nat × Rat)), S.length + R.length ≤ 1000000 → (∀ y ∈ R, Nt D2 y.2 ∧ y.1.length ≤ 400 ∧ ∀ z ∈ y.1, z ≤ 1000) →
    Ev (fun k => frowF k (p0 : Int) (n : Int) (toI x.1) (cf x.2) (enc1 R) (enc2 R) (enc S)) (enc (S ++ R.map fun y => (uset n p0 x.1 y.1, x.2 * y.2)))
  | [], S, _, _ => by
    rw [List.map_nil, List.append_nil]
    exact evs _
  | y :: R, S, hl, hR => by
    have hy := hR y (by simp)
    rw [List.length_cons] at hl
    have hxl := inc_len hx.2.1 hx.2.2
    have hv : Ev (fun k => fpairF k (p0 : Int) (n : Int) (toI x.1) (cf x.2) (toI y.1) (cf y.2) (enc S)) (enc (S ++ [(uset n p0 x.1 y.1, x.2 * y.2)])) := by
      unfold fpairF
      refine evp ⟨by rw [toI_len]; omega, by rw [toI_len]; omega, by show (enc1 S).length ≤ _; rw [enc1_len]; omega, by show (enc2 S).length ≤ _; rw [enc2_len]; omega⟩ ?_
      refine evb (uset_ev p0 n h0 hp x.1 y.1 hy.2.2 (by omega) hx.2.1 hx.2.2 (by omega)) ?_
      refine evb (times_nt hx.1 hy.1 hD1.1 hD2.1 hD1.2 hD2.2) ?_
      rw [enc_app]
      exact evs _
    have ih := ev_frowF n p0 D1 D2 x h0 hn hp hD1 hD2 hx R (S ++ [(uset n p0 x.1 y.1, x.2 * y.2)]) (by rw [List.length_append, List.length_singleton]; omega) (fun z hz => hR z (List.mem_cons_of_mem _ hz))
    rw [List.append_assoc, List.singleton_append] at ih
    rw [List.map_cons]
    show Ev (fun k => (fpairF k (p0 : Int) (n : Int) (toI x.1) (cf x.2) (toI y.1) (cf y.2) (enc S)).bind fun st' => frowF k (p0 : Int) (n : Int) (toI x.1) (cf x.2) (enc1 R) (enc2 R) st') _
    exact evb hv ih
theorem ev_fallF (n p0 D1 D2 : Nat) (R : List (List Nat × Rat)) (h0 : 0 < n) (hn : n ≤ 400) (hp : p0 ≤ 1000) (hD1 : 0 < D1 ∧ D1 ≤ 479001600) (hD2 : 0 < D2 ∧ D2 ≤ 479001600) (hR : ∀ y ∈ R, Nt D2 y.2 ∧ y.1.length ≤ 400 ∧ ∀ z ∈ y.1, z ≤ 1000) : ∀ (L S : List (List Nat × Rat)), S.length + L.length * R.length ≤ 1000000 → (∀ x ∈ L, Nt D1 x.2 ∧ x.1.Pairwise (· < ·) ∧ ∀ j ∈ x.1, j < n) →
    Ev (fun k => fallF k (p0 : Int) (n : Int) (enc1 R) (enc2 R) (enc1 L) (enc2 L) (enc S)) (enc (S ++ L.flatMap fun x => R.map fun y => (uset n p0 x.1 y.1, x.2 * y.2)))
  | [], S, _, _ => by
    rw [List.flatMap_nil, List.append_nil]
    exact evs _
  | x :: L, S, hl, hL => by
    rw [List.length_cons, Nat.succ_mul] at hl
    have hv := ev_frowF n p0 D1 D2 x h0 hn hp hD1 hD2 (hL x (by simp)) R S (by omega) hR
    have ih := ev_fallF n p0 D1 D2 R h0 hn hp hD1 hD2 hR L (S ++ R.map fun y => (uset n p0 x.1 y.1, x.2 * y.2)) (by rw [List.length_append, List.length_map]; omega) (fun z hz => hL z (List.mem_cons_of_mem _ hz))
    rw [List.append_assoc] at ih
    rw [List.flatMap_cons]
    show Ev (fun k => (frowF k (p0 : Int) (n : Int) (toI x.1) (cf x.2) (enc1 R) (enc2 R) (enc S)).bind fun st' => fallF k (p0 : Int) (n : Int) (enc1 R) (enc2 R) (enc1 L) (enc2 L) st') _
    exact evb hv ih
theorem rs_st (n : Nat) (ring : Bool) (L : Nat) (hn : n ≤ 12) (h3 : ring = true → 3 ≤ n) (hL : L ≤ n) : St (fac L) (2 ^ L) 1 (RSq n ring L) := by
  unfold RSq
  by_cases c : (ring && decide (L = n)) = true
  · rw [if_pos c]
    rw [Bool.and_eq_true, decide_eq_true_eq] at c
    obtain ⟨c1, rfl⟩ := c
    exact (ev_ringF L (h3 c1) hn).2
  · rw [if_neg c]
    exact (sets L (by omega)).st.mono (bd_pow L (by omega)) (Rat.le_refl)
def cfb (b : Nat × Nat) : S26 := ⟨((b.1 : Nat) : Int), ((b.2 : Nat) : Int)⟩
theorem ev_fsetF (n : Nat) (ring : Bool) (b : Nat × Nat) (hn : n ≤ 12) (h3 : ring = true → 3 ≤ n) (hL : b.2 ≤ n) : Ev (fun k => fsetF k (n : Int) ring (cfb b)) (enc (RSq n ring b.2)) := by
  unfold fsetF
  have hs := (ev_setF b.2 (by omega)).2 ((b.2 : Nat) : Int) (by omega) (fun k => k) ⟨b.2 + 1, fun k hk => by omega⟩
  refine evb (a := enc (sS b.2)) hs ?_
  have e : ((cfb b).f1 == (n : Int)) = decide (b.2 = n) := by
    show (((b.2 : Nat) : Int) == (n : Int)) = _
    rw [Bool.eq_iff_iff, beq_iff_eq, decide_eq_true_eq]
    omega
  rw [e]
  unfold RSq
  by_cases c : (ring && decide (b.2 = n)) = true
  · rw [if_pos c]
    refine evp c ?_
    rw [Bool.and_eq_true] at c
    exact (ev_ringF n (h3 c.1) hn).1
  · rw [if_neg c]
    exact evn c (evs _)
theorem blkS_fs (n : Nat) (ring : Bool) (b : Nat × Nat) (s : Nat) (S : List (List Nat × Rat)) (hn : n ≤ 12) (h3 : ring = true → 3 ≤ n) (hs : s + b.2 ≤ n) (h : Fs n (fac s) (2 ^ s) S) : Fs n (fac (s + b.2)) (2 ^ (s + b.2)) (blkS n ring b S) := by
  have hR := rs_st n ring b.2 hn h3 (by omega)
  have hmem : ∀ w, w ∈ blkS n ring b S → ∃ x, x ∈ S ∧ ∃ y, y ∈ RSq n ring b.2 ∧ w = (uset n b.1 x.1 y.1, x.2 * y.2) := by
    intro w hw
    unfold blkS at hw
    rw [List.mem_flatMap] at hw
    obtain ⟨x, hx, hw⟩ := hw
    obtain ⟨y, hy, rfl⟩ := List.mem_map.1 hw
    exact ⟨x, hx, y, hy, rfl⟩
  refine ⟨fun w hw => ?_, fun w hw => ?_, ?_⟩
  · obtain ⟨x, hx, y, hy, rfl⟩ := hmem w hw
    exact ((h.nt x hx).mul (hR.nt y hy).1).dvd (fac_mul s (by omega) b.2 (by omega))
  · obtain ⟨x, hx, y, hy, rfl⟩ := hmem w hw
    exact ⟨List.pairwise_lt_range.filter _, fun j hj => (mem_uset.1 hj).1⟩
  · have : (blkS n ring b S).length = S.length * (RSq n ring b.2).length := by
      unfold blkS
      generalize RSq n ring b.2 = R
      clear h hmem hR
      induction S with
      | nil => simp
      | cons a S ih => rw [List.flatMap_cons, List.length_append, ih, List.length_map, List.length_cons, Nat.succ_mul]; omega
    rw [this, Nat.pow_add]
    exact Nat.mul_le_mul h.num hR.num
theorem ev_fblockF (n : Nat) (ring : Bool) (h0 : 0 < n) (hn : n ≤ 12) (h3 : ring = true → 3 ≤ n) : ∀ (bl : List (Nat × Nat)) (s : Nat) (S : List (List Nat × Rat)), Fs n (fac s) (2 ^ s) S → s + (bl.map fun b => b.2).sum ≤ n → (∀ b ∈ bl, b.1 < n) →
    Ev (fun k => fblockF k (n : Int) ring (bl.map cfb) (enc S)) (enc (finS n ring bl S)) ∧ (finS n ring bl S).length ≤ 2 ^ n ∧ Fs n (fac n) (2 ^ n) (finS n ring bl S)
  | [], s, S, hS, hs, _ => by
    have hs : s ≤ n := by simpa using hs
    have hp : 2 ^ s ≤ 2 ^ n := Nat.pow_le_pow_right (by omega) hs
    have hd : fac s ∣ fac n := by
      have := fac_mul s (by omega) (n - s) (by omega)
      rw [show s + (n - s) = n by omega] at this
      exact Nat.dvd_trans (Nat.dvd_mul_right _ _) this
    exact ⟨evs _, Nat.le_trans hS.num hp, fun x hx => (hS.nt x hx).dvd hd, hS.inc, Nat.le_trans hS.num hp⟩
  | b :: bl, s, S, hS, hs, hb => by
    rw [List.map_cons, List.sum_cons] at hs
    have hbn := hb b (by simp)
    have hR := rs_st n ring b.2 hn h3 (by omega)
    have hok := RS_ok n ring b.2 h3
    have hp1 : 2 ^ s ≤ 2 ^ 12 := Nat.pow_le_pow_right (by omega) (by omega)
    have hp2 : 2 ^ b.2 ≤ 2 ^ 12 := Nat.pow_le_pow_right (by omega) (by omega)
    have hnR := hR.num
    have hnS := hS.num
    have hmul : S.length * (RSq n ring b.2).length ≤ 2 ^ s * 2 ^ b.2 := Nat.mul_le_mul hnS hnR
    rw [← Nat.pow_add] at hmul
    have hp3 : 2 ^ (s + b.2) ≤ 2 ^ 12 := Nat.pow_le_pow_right (by omega) (by omega)
    have ih := ev_fblockF n ring h0 hn h3 bl (s + b.2) _ (blkS_fs n ring b s S hn h3 (by omega) hS) (by omega) (fun c hc => hb c (List.mem_cons_of_mem _ hc))
    have hall := ev_fallF n b.1 (fac s) (fac b.2) (RSq n ring b.2) h0 (by omega) (by omega) (fac_le s (by omega)) (fac_le b.2 (by omega)) (fun y hy => ⟨(hR.nt y hy).1, by have := inc_len (hok.inc y hy) (hok.low y hy); omega, fun z hz => by have := hok.low y hy z hz; omega⟩) S [] (by simp only [List.length_nil]; omega) (fun x hx => ⟨hS.nt x hx, hS.inc x hx⟩)
    rw [List.nil_append] at hall
    refine ⟨?_, ih.2⟩
    show Ev (fun k => (fsetF k (n : Int) ring (cfb b)).bind fun r => if r.1.length ≤ 1000000 ∧ (enc S).1.length ≤ 1000000 then (fallF k (cfb b).f0 (n : Int) r.1 r.2 (enc S).1 (enc S).2 ([], [])).bind fun st' => fblockF k (n : Int) ring (bl.map cfb) st' else none) _
    refine evb (ev_fsetF n ring b hn h3 (by omega)) (evp ⟨?_, ?_⟩ (evb hall ih.1))
    · show (enc1 _).length ≤ _
      rw [enc1_len]; omega
    · show (enc1 _).length ≤ _
      rw [enc1_len]; omega
theorem bl_sum {n : Nat} {ring : Bool} {fr : Nat → Bool} (hn : 0 < n) : ((blA n ring fr).map fun b => b.2).sum ≤ n ∧ (∀ b ∈ blA n ring fr, b.1 < n) ∧ (blA n ring fr).length ≤ n := by
  unfold blA
  by_cases c : (ring && (List.range n).all fr) = true
  · rw [if_pos c]
    exact ⟨by simp, fun b hb => by rw [List.mem_singleton] at hb; subst hb; exact hn, by simp; omega⟩
  · rw [if_neg c]
    have hO := open_of c
    refine ⟨?_, fun b hb => ?_, ?_⟩
    · rw [List.map_map]
      have h1 := (arcs_perm hO hn).length_eq
      rw [List.length_flatMap] at h1
      have e : (startsA n ring fr).map (fun a => (seatsA n ring fr a).length) = (startsA n ring fr).map ((fun b : Nat × Nat => b.2) ∘ fun i => (i, tlen n ring fr i)) := by
        refine List.map_congr_left fun i _ => ?_
        unfold seatsA
        rw [List.length_map, List.length_range]
        rfl
      rw [← e, ← h1]
      have := List.length_filter_le fr (List.range n)
      rwa [List.length_range] at this
    · obtain ⟨i, hi, rfl⟩ := List.mem_map.1 hb
      exact (mem_startsA.1 hi).1
    · rw [List.length_map]
      have := List.length_filter_le (startA n ring fr) (List.range n)
      rwa [List.length_range] at this
theorem run_atA (m i d : Nat) (h : i ≤ 1048576) (h' : d ≤ 1048576) : Int.tmod (wrap64 ((i : Int) + (d : Int))) (m : Int) = (((i + d) % m : Nat) : Int) := by
  rw [w64 (by omega) (by omega), show ((i : Int) + (d : Int)) = ((i + d : Nat) : Int) by omega]
  exact (Int.ofNat_tmod _ _).symm
/-- One run, to its end. -/
theorem ev_runA (m : Nat) (ring : Bool) (fr : Nat → Bool) (l : List Int) (hl : l.length ≤ 1048576) (hf : ∀ i, i < m → decide ((i : Int) ∈ l) = !fr i) (hm : 0 < m) (acc : List S26) (i t : Nat) (r : List S26) (hi : i < 64) (ht : t < 64) (ha : acc.length ≤ 64)
    (hs : stopA m ring fr i t = true) (hn : ∀ d, d < t → stopA m ring fr i d = false)
    (hr : Ev (fun k => spec_l2Runs.l0 k (acc ++ [(⟨i, t⟩ : S26)]) ((i + 1 : Nat) : Int) (m : Int) ring l) r) : ∀ e d, d + e = t → Ev (fun k => spec_l2Runs.l1 k acc (i : Int) (d : Int) (m : Int) ring l) r
  | 0, d, h => by
    obtain rfl : d = t := by omega
    have hq := hf ((i + d) % m) (Nat.mod_lt _ hm)
    apply evshift
    simp only [spec_l2Runs.l1]
    rw [run_atA m i d (by omega) (by omega), wnext i (by omega), w64 (by omega) (by omega)]
    refine evn (by omega) (evb (ev_l2Is _ ring l _ hl) ?_)
    rw [hq]
    unfold stopA at hs
    cases c : fr ((i + d) % m) with
    | false => exact evp rfl (evp (by omega) hr)
    | true =>
      rw [c] at hs
      simp only [Bool.not_true, Bool.false_or, Bool.and_eq_true, Bool.not_eq_true', decide_eq_true_eq] at hs
      exact evn (by simp) (evn (by simp [hs.1]) (evn (by first | omega | (rw [w64 (by omega) (by omega)]; omega)) (evp (by omega) hr)))
  | e + 1, d, h => by
    have ih := ev_runA m ring fr l hl hf hm acc i t r hi ht ha hs hn hr e (d + 1) (by omega)
    have hd := hn d (by omega)
    have hq := hf ((i + d) % m) (Nat.mod_lt _ hm)
    unfold stopA at hd
    rw [Bool.or_eq_false_iff, Bool.not_eq_false'] at hd
    apply evshift
    simp only [spec_l2Runs.l1]
    rw [run_atA m i d (by omega) (by omega), wnext i (by omega), wnext d (by omega), w64 (by omega) (by omega)]
    refine evn (by omega) (evb (ev_l2Is _ ring l _ hl) (evn (by rw [hq, hd.1]; simp) ?_))
    cases ring with
    | true => exact evp (by simp) ih
    | false =>
      have := hd.2
      simp only [Bool.not_false, Bool.true_and, decide_eq_false_iff_not] at this
      exact evn (by simp) (evp (by omega) ih)
theorem ev_runsA (m : Nat) (ring : Bool) (fr : Nat → Bool) (l : List Int) (hl : l.length ≤ 1048576) (hf : ∀ i, i < m → decide ((i : Int) ∈ l) = !fr i) (hm : 0 < m) (hm2 : m ≤ 24) (hO : Open m ring fr) : ∀ d i, i + d = m →
    Ev (fun k => spec_l2Runs.l0 k ((((List.range i).filter (startA m ring fr)).map fun i => (i, tlen m ring fr i)).map cfb) (i : Int) (m : Int) ring l) (((startsA m ring fr).map fun i => (i, tlen m ring fr i)).map cfb)
  | 0, i, h => by
    obtain rfl : i = m := by omega
    apply evshift
    simp only [spec_l2Runs.l0]
    exact evn (by omega) (evs _)
  | d + 1, i, h => by
    have ih := ev_runsA m ring fr l hl hf hm hm2 hO d (i + 1) (by omega)
    have hi : i < m := by omega
    rw [List.range_succ, List.filter_append, List.map_append, List.map_append] at ih
    have hlen : ((((List.range i).filter (startA m ring fr)).map fun i => (i, tlen m ring fr i)).map cfb).length ≤ i := by
      rw [List.length_map, List.length_map]
      have := List.length_filter_le (startA m ring fr) (List.range i)
      rwa [List.length_range] at this
    generalize ((((List.range i).filter (startA m ring fr)).map fun i => (i, tlen m ring fr i)).map cfb) = acc at *
    generalize ((startsA m ring fr).map fun i => (i, tlen m ring fr i)).map cfb = r at *
    have hprev : Int.tmod (wrap64 ((wrap64 ((i : Int) - 1)) + (m : Int))) (m : Int) = (((i + m - 1) % m : Nat) : Int) := by
      rw [w64 (x := (i : Int) - 1) (by omega) (by omega), w64 (by omega) (by omega), show ((i : Int) - 1 + (m : Int)) = ((i + m - 1 : Nat) : Int) by omega]
      exact (Int.ofNat_tmod _ _).symm
    have h1 := hf i hi
    have h2 := hf ((i + m - 1) % m) (Nat.mod_lt _ hm)
    have skip : startA m ring fr i = false → Ev (fun k => spec_l2Runs.j2 k acc (i : Int) true (m : Int) ring l) r := fun hs => by
      apply evshift
      simp only [spec_l2Runs.j2]
      refine evp (by simp) ?_
      rw [wnext i (by omega)]
      rw [List.filter_cons_of_neg (by rw [hs]; simp), List.filter_nil, List.map_nil, List.map_nil, List.append_nil] at ih
      exact ih
    have go : startA m ring fr i = true → Ev (fun k => spec_l2Runs.j2 k acc (i : Int) false (m : Int) ring l) r := fun hs => by
      apply evshift
      simp only [spec_l2Runs.j2]
      refine evn (by simp) ?_
      rw [List.filter_cons_of_pos hs, List.filter_nil] at ih
      obtain ⟨a1, a2, a3, -⟩ := tlen_spec hO hi
      refine ev_runA m ring fr l hl hf hm acc i (tlen m ring fr i) r (by omega) (by omega) (by omega) a1 (fun d hd => ?_) ih _ 0 (Nat.zero_add _)
      unfold stopA
      rw [(a2 d hd).1]
      cases ring with
      | true => simp
      | false => have := (a2 d hd).2 rfl; simp; omega
    apply evshift
    simp only [spec_l2Runs.l0]
    rw [hprev]
    refine evp (by omega) (evn (by omega) (evb (ev_l2Is _ ring l _ hl) ?_))
    rw [h1]
    cases c : fr i with
    | false => exact evp (by simp) (skip (by unfold startA; rw [c]; rfl))
    | true =>
      refine evn (by simp) (evb (ev_l2Is _ ring l _ hl) ?_)
      rw [h2]
      cases c2 : fr ((i + m - 1) % m) with
      | false =>
        refine evp rfl (go ?_)
        unfold startA
        rw [c, Bool.true_and]
        cases ring with
        | true => rw [if_pos rfl, c2]; rfl
        | false =>
          rw [if_neg (by simp)]
          by_cases hi0 : i = 0
          · simp [hi0]
          · rw [show i + m - 1 = (i - 1) + m by omega, Nat.add_mod_right, Nat.mod_eq_of_lt (by omega)] at c2
            rw [c2]; simp
      | true =>
        refine evn (by simp) ?_
        cases ring with
        | true =>
          refine evp rfl (skip ?_)
          unfold startA
          rw [c, if_pos rfl, c2]; rfl
        | false =>
          refine evn (by simp) ?_
          by_cases hi0 : i = 0
          · rw [show decide ((i : Int) > 0) = false by simp [hi0]]
            refine go ?_
            unfold startA
            rw [c, if_neg (by simp)]
            simp [hi0]
          · rw [show decide ((i : Int) > 0) = true by simp; omega]
            refine skip ?_
            unfold startA
            rw [c, if_neg (by simp)]
            rw [show i + m - 1 = (i - 1) + m by omega, Nat.add_mod_right, Nat.mod_eq_of_lt (by omega)] at c2
            rw [c2]
            simp [hi0]
/-- The blocks of the lonely seats. -/
theorem ev_blocksA (m : Nat) (ring : Bool) (l : List Int) (hl : l.length ≤ 1048576) (h2 : 2 ≤ m) (h3 : ring = true → 3 ≤ m) (hm2 : m ≤ 24) : Ev (fun k => spec_l4Blocks.f k (m : Int) ring l) ((blA m ring (lonB m ring fun i => decide ((i : Int) ∈ l))).map cfb) := by
  obtain ⟨fr, hfr⟩ : ∃ fr, fr = lonB m ring fun i => decide ((i : Int) ∈ l) := ⟨_, rfl⟩
  rw [← hfr]
  have hL2 := ev_l2Lonely m ring l hl (by omega)
  obtain ⟨F, hF⟩ : ∃ F, F = (sel m fun i => !decide ((i : Int) ∈ l)).filter (loneB m ring l) := ⟨_, rfl⟩
  rw [← hF] at hL2
  have hmem : ∀ i, i < m → decide ((i : Int) ∈ F) = fr i := fun i hi => by
    rw [hfr, ← lone_eq m ring (fun i => decide ((i : Int) ∈ l)) h2 h3 l (fun _ _ => rfl) i hi, hF, Bool.eq_iff_iff, decide_eq_true_eq, List.mem_filter, mem_sel, Bool.and_eq_true]
    constructor
    · rintro ⟨⟨i', h1, h2, e⟩, h3⟩
      obtain rfl : i = i' := by omega
      exact ⟨h2, h3⟩
    · rintro ⟨h1, h2⟩
      exact ⟨⟨i, hi, h1, rfl⟩, h2⟩
  have hFl : F.length ≤ 1048576 := by
    have := List.length_filter_le (loneB m ring l) (sel m fun i => !decide ((i : Int) ∈ l))
    have h5 := sel_len_le m fun i => !decide ((i : Int) ∈ l)
    rw [hF]; omega
  have hf : ∀ i, i < m → decide ((i : Int) ∈ sel m fun i => !decide ((i : Int) ∈ F)) = !fr i := fun i hi => by
    rw [← hmem i hi, Bool.eq_iff_iff, decide_eq_true_eq, mem_sel]
    constructor
    · rintro ⟨i', _, h2, e⟩
      obtain rfl : i = i' := by omega
      exact h2
    · exact fun h => ⟨i, hi, h, rfl⟩
  have hsl := sel_len_le m fun i => !decide ((i : Int) ∈ F)
  have hTn : (∀ i, i < m → fr i = true) → (sel m fun i => !decide ((i : Int) ∈ F)) = [] := fun h => sel_none fun i hi => by rw [hmem i hi, h i hi]; rfl
  unfold spec_l4Blocks.f
  refine evb hL2 (l4Blocks_loop m ring l F hFl (by omega) _ ?_ m 0 (by omega))
  generalize (sel m fun i => !decide ((i : Int) ∈ F)) = T at *
  unfold spec_l2Runs.f blA
  simp only [Option.bind_some]
  by_cases c : (ring && (List.range m).all fr) = true
  · rw [if_pos c]
    rw [Bool.and_eq_true, List.all_eq_true] at c
    have hT : T = [] := hTn fun i hi => c.2 i (List.mem_range.2 hi)
    refine evp c.1 ?_
    apply evshift
    simp only [spec_l2Runs.j0]
    rw [hT]
    exact evp rfl (evs _)
  · rw [if_neg c]
    have hO := open_of c
    have hrun := ev_runsA m ring fr T (by omega) hf (by omega) hm2 hO m 0 (by omega)
    have hj : Ev (fun k => spec_l2Runs.j0 k ([] : List S26) false (m : Int) ring T) (((startsA m ring fr).map fun i => (i, tlen m ring fr i)).map cfb) := by
      apply evshift
      simp only [spec_l2Runs.j0]
      exact evn (by simp) hrun
    by_cases hr : ring = true
    · refine evp hr ?_
      obtain ⟨x, hx, hxf⟩ := hO hr
      have e1 : ((T.length : Int) == 0) = false := by
        have h6 := hf x hx
        rw [hxf] at h6
        have h7 : (x : Int) ∈ T := by simpa using h6
        have := List.length_pos_of_mem h7
        rw [beq_eq_false_iff_ne]; omega
      rw [e1]; exact hj
    · exact evn hr hj
theorem ev_ftakeF : ∀ (l s : List Int), s.Pairwise (· < ·) → s.length + l.length ≤ 2000 →
    ∃ R : List Int, Ev (fun k => ftakeF k s l) R ∧ R.Pairwise (· < ·) ∧ (∀ x, x ∈ R ↔ x ∈ s ∨ x ∈ l)
  | [], s, hs, _ => ⟨s, evs _, hs, fun x => by simp⟩
  | z :: l, s, hs, hl => by
    rw [List.length_cons] at hl
    obtain ⟨R1, a1, a2, a3, a4⟩ := ev_l1Put s z (by omega) hs
    obtain ⟨R, b1, b2, b3⟩ := ev_ftakeF l R1 a2 (by omega)
    refine ⟨R, ?_, b2, fun x => ?_⟩
    · show Ev (fun k => (spec_l1Put.f k s z).bind fun s' => ftakeF k s' l) R
      exact evb a1 b1
    · rw [b3, a3, List.mem_cons]
      constructor
      · rintro ((h | h) | h)
        · exact .inr (.inl h)
        · exact .inl h
        · exact .inr (.inr h)
      · rintro (h | h | h)
        · exact .inl (.inr h)
        · exact .inl (.inl h)
        · exact .inr h
theorem ev_ftakesF (n : Nat) (l : List Int) (hn : n ≤ 400) (hl : l.length ≤ 1000) (hm : ∀ x ∈ l, 0 ≤ x ∧ x < (n : Int)) : ∀ S : List (List Nat × Rat), (∀ x ∈ S, x.1.Pairwise (· < ·) ∧ ∀ j ∈ x.1, j < n) → Ev (fun k => ftakesF k l (enc1 S)) (enc1 (S.map fun x => (tset n (fun i => decide ((i : Int) ∈ l)) x.1, x.2)))
  | [], _ => evs _
  | x :: S, h => by
    have hx := h x (by simp)
    have hxl := inc_len hx.1 hx.2
    obtain ⟨R, a1, a2, a3⟩ := ev_ftakeF l (toI x.1) (toI_inc hx.1) (by rw [toI_len]; omega)
    have e : R = toI (tset n (fun i => decide ((i : Int) ∈ l)) x.1) := inc_ext a2 (toI_inc (List.pairwise_lt_range.filter _)) fun w => by
      rw [a3, mem_toI, mem_toI]
      constructor
      · rintro (⟨j, h1, h2⟩ | h1)
        · exact ⟨j, mem_tset.2 ⟨hx.2 j h1, .inl h1⟩, h2⟩
        · have hw := hm w h1
          exact ⟨w.toNat, mem_tset.2 ⟨by omega, .inr (by simpa [Int.toNat_of_nonneg hw.1] using h1)⟩, by omega⟩
      · rintro ⟨j, hj, rfl⟩
        rcases (mem_tset.1 hj).2 with h1 | h1
        · exact .inl ⟨j, h1, rfl⟩
        · exact .inr (by simpa using h1)
    have ih := ev_ftakesF n l hn hl hm S fun y hy => h y (List.mem_cons_of_mem _ hy)
    rw [e] at a1
    show Ev (fun k => (ftakeF k (toI x.1) l).bind fun y => (ftakesF k l (enc1 S)).bind fun ys => some (y :: ys)) _
    exact evb a1 (evb ih (evs _))
/-- The reference's final rows. -/
theorem ev_l4Finals (m : Nat) (ring : Bool) (l : List Int) (h2 : 2 ≤ m) (h3 : ring = true → 3 ≤ m) (hm : m ≤ 12) (hl : l.length ≤ m) (hmem : ∀ x ∈ l, 0 ≤ x ∧ x < (m : Int)) :
    Ev (fun k => spec_l4Finals.f k (m : Int) ring l) (enc (finA m ring fun i => decide ((i : Int) ∈ l))) ∧ Fs m (fac m) (2 ^ m) (finA m ring fun i => decide ((i : Int) ∈ l)) := by
  obtain ⟨b1, b2, b3⟩ := bl_sum (ring := ring) (fr := lonB m ring fun i => decide ((i : Int) ∈ l)) (show 0 < m by omega)
  have h0 : Fs m (fac 0) (2 ^ 0) [([], 1)] := ⟨fun x hx => by rw [List.mem_singleton] at hx; rw [hx]; exact Nt.one, fun x hx => by rw [List.mem_singleton] at hx; rw [hx]; simp, Nat.le_refl 1⟩
  obtain ⟨e1, e2, e3⟩ := ev_fblockF m ring (by omega) hm h3 (blA m ring (lonB m ring fun i => decide ((i : Int) ∈ l))) 0 [([], 1)] h0 (by omega) b2
  have hp : 2 ^ m ≤ 2 ^ 12 := Nat.pow_le_pow_right (by omega) hm
  constructor
  · unfold spec_l4Finals.f
    refine evp (by omega) (evb (ev_blocksA m ring l (by omega) h2 h3 (by omega)) (evp (by rw [List.length_map]; omega) ?_))
    refine evb (a := enc (finS m ring (blA m ring (lonB m ring fun i => decide ((i : Int) ∈ l))) [([], 1)])) e1 (evp ?_ ?_)
    · show (enc1 _).length ≤ _
      rw [enc1_len]; omega
    · refine evb (ev_ftakesF m l (by omega) (by omega) hmem _ e3.inc) (eve (evs _) ?_)
      unfold finA enc
      congr 1
      unfold enc2
      rw [List.map_map]
      rfl
  · unfold finA
    refine ⟨fun x hx => ?_, fun x hx => ?_, ?_⟩
    · obtain ⟨y, hy, rfl⟩ := List.mem_map.1 hx
      exact e3.nt y hy
    · obtain ⟨y, hy, rfl⟩ := List.mem_map.1 hx
      exact ⟨List.pairwise_lt_range.filter _, fun j hj => (mem_tset.1 hj).1⟩
    · rw [List.length_map]; exact e3.num
theorem ms_key {n : Nat} {S : List (List Nat × Rat)} (h : SetOk n S) (F : Nat → Bool) : ∀ x ∈ S, (msT n F x.1 = true ↔ x.1 = (List.range n).filter F) := fun x hx => by
  rw [msT_iff]
  constructor
  · intro hh
    refine List.Perm.eq_of_pairwise (le := (· < ·)) (fun a b _ _ h1 h2 => by omega) (h.inc x hx) (List.pairwise_lt_range.filter _) ((List.perm_ext_iff_of_nodup ((h.inc x hx).imp fun h => by omega) (List.nodup_range.filter _)).2 fun i => ?_)
    rw [List.mem_filter, List.mem_range]
    constructor
    · exact fun hi => ⟨h.low x hx i hi, (hh i (h.low x hx i hi)).1 hi⟩
    · exact fun hi => (hh i hi.1).2 hi.2
  · intro e j hj
    rw [e, List.mem_filter, List.mem_range]
    exact ⟨fun a => a.2, fun a => ⟨hj, a⟩⟩
theorem EM_one {n : Nat} {F : Nat → Bool} {x : List Nat × Rat} (e : x.1 = (List.range n).filter F) : ∀ {S : List (List Nat × Rat)}, (∀ y ∈ S, (msT n F y.1 = true ↔ y.1 = (List.range n).filter F)) → S.Pairwise (fun x y => x.1 ≠ y.1) → x ∈ S → qsum (fun y => if msT n F y.1 = true then y.2 else 0) S = x.2
  | [], _, _, hx => by cases hx
  | a :: S, hk, hp, hx => by
    simp only [qsum]
    obtain ⟨h1, h2⟩ := List.pairwise_cons.1 hp
    rcases List.mem_cons.1 hx with rfl | hx'
    · rw [if_pos ((hk x (by simp)).2 e), qsum_zero fun y hy => if_neg fun hh => h1 y hy (e.trans ((hk y (List.mem_cons_of_mem _ hy)).1 hh).symm), Rat.add_zero]
    · rw [if_neg fun hh => h1 x hx' (((hk a (by simp)).1 hh).trans e.symm), Rat.zero_add]
      exact EM_one e (fun y hy => hk y (List.mem_cons_of_mem _ hy)) h2 hx'
theorem EM_at {n : Nat} {S : List (List Nat × Rat)} (h : SetOk n S) (F : Nat → Bool) {x : List Nat × Rat} (hx : x ∈ S) (e : x.1 = (List.range n).filter F) : EM (msT n F) S = x.2 := EM_one e (ms_key h F) h.one hx
/-! What the program reckons: the mean over the seats that are lonely yet. -/
theorem ev_fam {α : Type} (g : Nat → Nat → Option α) (r : Nat → α) : ∀ N : Nat, (∀ x, x < N → Ev (g x) (r x)) → ∃ K, ∀ k, K ≤ k → ∀ x, x < N → g x k = some (r x)
  | 0, _ => ⟨0, fun _ _ x hx => by omega⟩
  | N + 1, h => by
    obtain ⟨K, hK⟩ := ev_fam g r N fun x hx => h x (by omega)
    obtain ⟨K2, h2⟩ := h N (by omega)
    refine ⟨K + K2, fun k hk x hx => ?_⟩
    by_cases e : x = N
    · subst e; exact h2 k (by omega)
    · exact hK k (by omega) x (by omega)
theorem bit_hi {x m : Nat} (h : x < 2 ^ m) (i : Nat) (hi : m ≤ i) : x.testBit i = false := Nat.testBit_lt_two_pow (Nat.lt_of_lt_of_le h (Nat.pow_le_pow_right (by omega) hi))
theorem singles_all (m : Nat) (ring : Bool) (h2 : 2 ≤ m) (h3 : ring = true → 3 ≤ m) (hm : m ≤ 12) : ∃ K, ∀ k, K ≤ k → ∀ x : Nat, x < 2 ^ m → impl_bench_singles.f k (m : Int) ring (x : Int) = some (sgl m ring x.testBit) := by
  refine ev_fam (fun x k => impl_bench_singles.f k (m : Int) ring (x : Int)) (fun x => sgl m ring x.testBit) (2 ^ m) fun x hx => ?_
  have hp : 2 ^ m ≤ 2 ^ 12 := Nat.pow_le_pow_right (by omega) hm
  have e : x = M x.testBit := M_of (by omega) fun _ _ => rfl
  have := ev_singles m ring x.testBit h2 h3 (by omega) fun i hi _ => bit_hi hx i hi
  rw [← e] at this
  exact this
theorem or_bit (x p : Nat) : (x ||| 2 ^ p).testBit = fun i => x.testBit i || decide (i = p) := by
  funext i
  rw [Nat.testBit_or, Nat.testBit_two_pow]
  congr 1
  rw [Bool.eq_iff_iff, decide_eq_true_eq, decide_eq_true_eq]
  exact eq_comm
def lonL (m : Nat) (ring : Bool) (t : Nat → Bool) : List Nat := (List.range m).filter (lonB m ring t)
theorem lon_less {m : Nat} {ring : Bool} {t : Nat → Bool} {p : Nat} (hp : p ∈ lonL m ring t) : (lonL m ring fun i => t i || decide (i = p)).length < (lonL m ring t).length := by
  have hsub : ∀ i, lonB m ring (fun i => t i || decide (i = p)) i = true → lonB m ring t i = true := fun i hi => by
    unfold lonB at hi ⊢
    rw [Bool.and_eq_true, List.all_eq_true] at hi ⊢
    rw [Bool.not_eq_true', Bool.or_eq_false_iff] at hi
    refine ⟨by rw [hi.1.1]; rfl, fun j hj => ?_⟩
    have := hi.2 j hj
    rw [Bool.not_eq_true', Bool.and_eq_false_iff] at this ⊢
    rcases this with h | h
    · exact .inl h
    · rw [Bool.or_eq_false_iff] at h; exact .inr h.1
  have e : lonL m ring (fun i => t i || decide (i = p)) = (lonL m ring t).filter (lonB m ring fun i => t i || decide (i = p)) := by
    unfold lonL
    rw [List.filter_filter]
    refine List.filter_congr fun i _ => ?_
    cases c : lonB m ring (fun i => t i || decide (i = p)) i with
    | false => rfl
    | true => rw [hsub i c]; rfl
  rw [e, List.length_filter_lt_length_iff_exists]
  exact ⟨p, hp, by unfold lonB; simp⟩
theorem or_lt {x p m : Nat} (hx : x < 2 ^ m) (hp : p < m) : x ||| 2 ^ p < 2 ^ m := Nat.or_lt_two_pow hx (Nat.pow_lt_pow_right (by omega) hp)
theorem orF_nat {x p : Nat} (hx : x < 2 ^ 32) (hp : p < 32) : orF (x : Int) ((2 ^ p : Nat) : Int) = ((x ||| 2 ^ p : Nat) : Int) := b_or hx (Nat.pow_lt_pow_right (by omega) hp)
theorem lonL_lt {m : Nat} {ring : Bool} {t : Nat → Bool} {p : Nat} (hp : p ∈ lonL m ring t) : p < m := List.mem_range.1 (List.mem_filter.1 hp).1
section
variable {k m : Nat} {ring : Bool}
theorem nxF_at (hK : ∀ x : Nat, x < 2 ^ m → impl_bench_singles.f k (m : Int) ring (x : Int) = some (sgl m ring x.testBit)) {x : Nat} (hx : x < 2 ^ m) : nxF k (m : Int) ring (x : Int) = (lonL m ring x.testBit).map fun p => ((2 ^ p : Nat) : Int) := by
  unfold nxF
  rw [hK x hx]
  rfl
theorem fld_true (hK : ∀ x : Nat, x < 2 ^ m → impl_bench_singles.f k (m : Int) ring (x : Int) = some (sgl m ring x.testBit)) (hm : m ≤ 12) : ∀ (d x : Nat), x < 2 ^ m → (lonL m ring x.testBit).length < d → fldB k (m : Int) ring d (x : Int) = true
  | 0, x, _, h => by omega
  | d + 1, x, hx, h => by
    have hp : 2 ^ m ≤ 2 ^ 12 := Nat.pow_le_pow_right (by omega) hm
    have hll : (lonL m ring x.testBit).length ≤ m := by
      have := List.length_filter_le (lonB m ring x.testBit) (List.range m)
      rwa [List.length_range] at this
    unfold fldB
    rw [hK x hx]
    rw [Bool.and_eq_true]
    refine ⟨by rw [decide_eq_true_eq]; omega, ?_⟩
    show (decide ((sgl m ring x.testBit).length ≤ 12) && (sgl m ring x.testBit).all fun m_1 => fldB k (m : Int) ring d (orF (x : Int) m_1) && decide ((nxF k (m : Int) ring (orF (x : Int) m_1)).length + 1 ≤ (sgl m ring x.testBit).length)) = true
    have hsl : (sgl m ring x.testBit).length = (lonL m ring x.testBit).length := List.length_map ..
    rw [hsl, Bool.and_eq_true, List.all_eq_true]
    refine ⟨by rw [decide_eq_true_eq]; omega, fun y hy => ?_⟩
    obtain ⟨p, hpl, rfl⟩ := List.mem_map.1 hy
    have hpm : p < m := lonL_lt hpl
    have ho := or_lt hx hpm
    have hless := lon_less hpl
    rw [← or_bit] at hless
    rw [orF_nat (by omega) (by omega), Bool.and_eq_true, nxF_at hK ho, List.length_map, decide_eq_true_eq]
    exact ⟨fld_true hK hm d _ ho (by omega), by omega⟩
theorem rsum_qsum {α : Type} (f : α → Rat) : ∀ l : List α, rsum f l = qsum f l
  | [] => rfl
  | a :: l => by simp only [rsum, qsum]; rw [rsum_qsum f l]
theorem bits_eq {x y : Nat} (hx : x < 2 ^ m) (hy : y < 2 ^ m) : ((List.range m).all fun i => y.testBit i == x.testBit i) = decide (x = y) := by
  rw [Bool.eq_iff_iff, List.all_eq_true, decide_eq_true_eq]
  constructor
  · intro h
    refine Nat.eq_of_testBit_eq fun i => ?_
    by_cases c : i < m
    · have := h i (List.mem_range.2 c)
      rw [beq_iff_eq] at this
      exact this.symm
    · rw [bit_hi hx i (by omega), bit_hi hy i (by omega)]
  · rintro rfl i _
    simp
theorem vEd_end {x y : Nat} (hx : x < 2 ^ m) (hy : y < 2 ^ m) (h : lonL m ring x.testBit = []) : oneF (y : Int) (x : Int) = Wt m ring x.testBit y.testBit := by
  rw [Wt_end _ _ h, bits_eq hx hy]
  unfold oneF
  by_cases c : x = y
  · subst c; simp
  · rw [if_neg (by omega), if_neg (by simpa using c)]
theorem vEd_at (hK : ∀ x : Nat, x < 2 ^ m → impl_bench_singles.f k (m : Int) ring (x : Int) = some (sgl m ring x.testBit)) (h2 : 2 ≤ m) (hm : m ≤ 12) {y : Nat} (hy : y < 2 ^ m) : ∀ (d x : Nat), x < 2 ^ m → (lonL m ring x.testBit).length ≤ d → vEd k (m : Int) ring (oneF (y : Int)) d (x : Int) = Wt m ring x.testBit y.testBit
  | 0, x, hx, h => vEd_end hx hy (List.eq_nil_of_length_eq_zero (by omega))
  | d + 1, x, hx, h => by
    have hp : 2 ^ m ≤ 2 ^ 12 := Nat.pow_le_pow_right (by omega) hm
    have hn := nxF_at hK hx
    unfold vEd
    rw [hn]
    by_cases c : lonL m ring x.testBit = []
    · rw [if_pos (by rw [c]; rfl)]
      exact vEd_end hx hy c
    · rw [if_neg (by simpa using c), List.length_map, rsum_qsum, qsum_map]
      have hst := Wt_step (n := m) (ring := ring) x.testBit y.testBit (fun i hi => by
        unfold adjS adjR adjP
        cases ring with
        | false => rw [if_neg (by simp)]; simp
        | true =>
          rw [if_pos rfl, Bool.or_self, beq_eq_false_iff_ne, mod_wrap (by omega)]
          split <;> omega) c
      have e : qsum (fun p => vEd k (m : Int) ring (oneF (y : Int)) d (orF (x : Int) ((2 ^ p : Nat) : Int))) (lonL m ring x.testBit) = qsum (fun p => Wt m ring (fun i => x.testBit i || decide (i = p)) y.testBit) (lonL m ring x.testBit) := by
        refine qsum_congr fun p hpl => ?_
        have hpm : p < m := lonL_lt hpl
        have hless := lon_less hpl
        rw [← or_bit] at hless
        rw [orF_nat (by omega) (by omega), ← or_bit]
        exact vEd_at hK h2 hm hy d _ (or_lt hx hpm) (by omega)
      rw [e]
      have hne := natCast_nez (m := (lonL m ring x.testBit).length) (by have := List.length_pos_iff.2 c; omega)
      have hst' : (((lonL m ring x.testBit).length : Nat) : Rat) * Wt m ring x.testBit y.testBit = qsum (fun p => Wt m ring (fun i => x.testBit i || decide (i = p)) y.testBit) (lonL m ring x.testBit) := hst
      rw [← hst']
      generalize (((lonL m ring x.testBit).length : Nat) : Rat) = a at *
      grind
theorem vE_at (hK : ∀ x : Nat, x < 2 ^ m → impl_bench_singles.f k (m : Int) ring (x : Int) = some (sgl m ring x.testBit)) (h2 : 2 ≤ m) (hm : m ≤ 12) {x y : Nat} (hx : x < 2 ^ m) (hy : y < 2 ^ m) : vE k (m : Int) ring (oneF (y : Int)) (x : Int) = Wt m ring x.testBit y.testBit := by
  have := List.length_filter_le (lonB m ring x.testBit) (List.range m)
  rw [List.length_range] at this
  exact vEd_at hK h2 hm hy 13 x hx (by unfold lonL; omega)
end
/-- A row's set, as the program holds it: its bits. -/
theorem row_bits {m : Nat} (hm : m ≤ 12) {l : List Int} (h : ∀ x ∈ l, 0 ≤ x ∧ x < (m : Int)) : (M fun i : Nat => decide ((i : Int) ∈ l)) < 2 ^ m ∧ (M fun i : Nat => decide ((i : Int) ∈ l)).testBit = fun i : Nat => decide ((i : Int) ∈ l) := by
  have hb : (M fun i : Nat => decide ((i : Int) ∈ l)).testBit = fun i : Nat => decide ((i : Int) ∈ l) := by
    funext i
    rw [M_bit]
    by_cases c : i < 32
    · simp [c]
    · have : ¬ (i : Int) ∈ l := fun hi => by have := h _ hi; omega
      simp [c, this]
  refine ⟨Nat.lt_pow_two_of_testBit _ fun i hi => ?_, hb⟩
  rw [hb]
  have : ¬ (i : Int) ∈ l := fun hx => by have := h _ hx; omega
  simp [this]
/-! The mean of a weight over the ends: a sum over the reference's sets. -/
theorem pick_sum (g : Int → Rat) : ∀ N x : Nat, x < N → qsum (fun y : Nat => g (y : Int) * oneF (y : Int) (x : Int)) (List.range N) = g (x : Int)
  | 0, x, h => by omega
  | N + 1, x, h => by
    rw [List.range_succ, qsum_append]
    simp only [qsum]
    unfold oneF
    by_cases c : x = N
    · subst c
      rw [if_pos rfl]
      have h0 : qsum (fun y : Nat => g (y : Int) * (if (x : Int) = (y : Int) then (1 : Rat) else 0)) (List.range x) = 0 := qsum_zero fun y hy => by
        have := List.mem_range.1 hy
        rw [if_neg (by omega), Rat.mul_zero]
      rw [h0]
      grind
    · rw [if_neg (by omega)]
      have ih := pick_sum g N x (by omega)
      unfold oneF at ih
      rw [ih]
      grind
section
variable {k m : Nat} {ring : Bool}
theorem vEd_lin (hK : ∀ x : Nat, x < 2 ^ m → impl_bench_singles.f k (m : Int) ring (x : Int) = some (sgl m ring x.testBit)) (hm : m ≤ 12) (g : Int → Rat) : ∀ (d x : Nat), x < 2 ^ m → vEd k (m : Int) ring g d (x : Int) = qsum (fun y : Nat => g (y : Int) * vEd k (m : Int) ring (oneF (y : Int)) d (x : Int)) (List.range (2 ^ m))
  | 0, x, hx => (pick_sum g _ x hx).symm
  | d + 1, x, hx => by
    have hp : 2 ^ m ≤ 2 ^ 12 := Nat.pow_le_pow_right (by omega) hm
    unfold vEd
    rw [nxF_at hK hx]
    by_cases c : lonL m ring x.testBit = []
    · rw [if_pos (by rw [c]; rfl)]
      have e : (fun y : Nat => g (y : Int) * (if List.map (fun p => ((2 ^ p : Nat) : Int)) (lonL m ring x.testBit) = [] then oneF (y : Int) (x : Int) else rsum (fun p => vEd k (m : Int) ring (oneF (y : Int)) d (orF (x : Int) p)) (List.map (fun p => ((2 ^ p : Nat) : Int)) (lonL m ring x.testBit)) / ((List.map (fun p => ((2 ^ p : Nat) : Int)) (lonL m ring x.testBit)).length : Rat))) = fun y : Nat => g (y : Int) * oneF (y : Int) (x : Int) := by
        funext y
        rw [if_pos (by rw [c]; rfl)]
      rw [e]
      exact (pick_sum g _ x hx).symm
    · rw [if_neg (by simpa using c)]
      have E : ∀ y : Nat, g (y : Int) * (if (List.map (fun p => ((2 ^ p : Nat) : Int)) (lonL m ring x.testBit)) = [] then oneF (y : Int) (x : Int) else rsum (fun p => vEd k (m : Int) ring (oneF (y : Int)) d (orF (x : Int) p)) (List.map (fun p => ((2 ^ p : Nat) : Int)) (lonL m ring x.testBit)) / (((List.map (fun p => ((2 ^ p : Nat) : Int)) (lonL m ring x.testBit)).length : Nat) : Rat)) = (1 / (((lonL m ring x.testBit).length : Nat) : Rat)) * qsum (fun p => g (y : Int) * vEd k (m : Int) ring (oneF (y : Int)) d (orF (x : Int) ((2 ^ p : Nat) : Int))) (lonL m ring x.testBit) := fun y => by
        rw [if_neg (by simpa using c), List.length_map, rsum_qsum, qsum_map, qsum_mul, Rat.div_def, Rat.div_def, Rat.one_mul]
        generalize (((lonL m ring x.testBit).length : Nat) : Rat)⁻¹ = a
        grind
      refine Eq.trans ?_ (qsum_congr fun y _ => (E y).symm)
      rw [List.length_map, rsum_qsum, qsum_map, qsum_mul, qsum_swap, Rat.div_def, Rat.div_def, Rat.one_mul, Rat.mul_comm]
      congr 1
      refine qsum_congr fun p hpl => ?_
      have hpm : p < m := lonL_lt hpl
      rw [orF_nat (by omega) (by omega)]
      exact vEd_lin hK hm g d _ (or_lt hx hpm)
end
/-- A set's number. -/
def numS (s : List Nat) : Nat := M fun i => decide (i ∈ s)
theorem numS_bits {m : Nat} (hm : m ≤ 12) {s : List Nat} (h : ∀ j ∈ s, j < m) : numS s < 2 ^ m ∧ (numS s).testBit = fun i => decide (i ∈ s) := by
  have hb : (numS s).testBit = fun i => decide (i ∈ s) := by
    funext i
    unfold numS
    rw [M_bit]
    by_cases c : i < 32
    · simp [c]
    · have : ¬ i ∈ s := fun hi => by have := h _ hi; omega
      simp [c, this]
  refine ⟨Nat.lt_pow_two_of_testBit _ fun i hi => ?_, hb⟩
  rw [hb]
  have : ¬ i ∈ s := fun hx => by have := h _ hx; omega
  simp [this]
theorem ms_num {m : Nat} (hm : m ≤ 12) {s : List Nat} (h : ∀ j ∈ s, j < m) {y : Nat} (hy : y < 2 ^ m) : msT m y.testBit s = true ↔ numS s = y := by
  obtain ⟨h1, h2⟩ := numS_bits hm h
  rw [msT_iff]
  constructor
  · intro hh
    refine Nat.eq_of_testBit_eq fun i => ?_
    by_cases c : i < m
    · rw [h2, Bool.eq_iff_iff, decide_eq_true_eq]
      exact hh i c
    · rw [bit_hi h1 i (by omega), bit_hi hy i (by omega)]
  · rintro rfl j _
    rw [h2, decide_eq_true_eq]
theorem mean_set {m : Nat} (hm : m ≤ 12) {S : List (List Nat × Rat)} (h : SetOk m S) (g : Int → Rat) : qsum (fun y : Nat => g (y : Int) * EM (msT m y.testBit) S) (List.range (2 ^ m)) = qsum (fun x => x.2 * g ((numS x.1 : Nat) : Int)) S := by
  have e : (fun y : Nat => g (y : Int) * EM (msT m y.testBit) S) = fun y : Nat => qsum (fun x => g (y : Int) * (if msT m y.testBit x.1 = true then x.2 else 0)) S := by
    funext y
    unfold EM
    rw [qsum_mul]
  rw [e, qsum_swap]
  refine qsum_congr fun x hx => ?_
  obtain ⟨h1, -⟩ := numS_bits hm (h.low x hx)
  rw [← pick_sum g _ _ h1, ← qsum_mul]
  refine qsum_congr fun y hy => ?_
  have hy' := List.mem_range.1 hy
  unfold oneF
  by_cases c : numS x.1 = y
  · rw [if_pos ((ms_num hm (h.low x hx) hy').2 c), if_pos (by omega)]
    grind
  · rw [if_neg fun hh => c ((ms_num hm (h.low x hx) hy').1 hh), if_neg (by omega)]
    grind
section
variable {k m : Nat} {ring : Bool}
theorem vE_set (hK : ∀ x : Nat, x < 2 ^ m → impl_bench_singles.f k (m : Int) ring (x : Int) = some (sgl m ring x.testBit)) (h2 : 2 ≤ m) (hm : m ≤ 12) (h3 : ring = true → 3 ≤ m) (g : Int → Rat) {x : Nat} (hx : x < 2 ^ m) : vE k (m : Int) ring g (x : Int) = qsum (fun s => s.2 * g ((numS s.1 : Nat) : Int)) (finA m ring x.testBit) := by
  have hf := finA_ok (n := m) (ring := ring) (by omega) h3 x.testBit
  rw [← mean_set hm hf.1]
  refine (vEd_lin hK hm g 13 x hx).trans (qsum_congr fun y hy => ?_)
  rw [hf.2]
  congr 1
  exact vE_at hK h2 hm hx (List.mem_range.1 hy)
end
/-! Lists compared. -/
theorem cmpL_tot : ∀ a b : List Int, ¬ cmpL a b < 0 → a ≠ b → cmpL b a < 0
  | [], [], _, h => absurd rfl h
  | [], _ :: _, h, _ => by simp [cmpL] at h
  | _ :: _, [], _, _ => by simp [cmpL]
  | a :: l, b :: m, h, hne => by
    unfold cmpL at h ⊢
    by_cases c1 : a < b
    · rw [if_pos c1] at h; exact absurd (by decide) h
    · by_cases c2 : b < a
      · rw [if_pos c2]; decide
      · obtain rfl : a = b := by omega
        rw [if_neg c1, if_neg c1] at h
        rw [if_neg c1, if_neg c1]
        exact cmpL_tot l m h fun e => hne (by rw [e])
theorem before_loop (a b : List Int) (ha : a.length ≤ 1000) (hb : b.length ≤ 1000) : ∀ d j, j + d = a.length → j ≤ b.length → Ev (fun k => spec_l4Before.l0 k a b (j : Int)) (decide (cmpL (a.drop j) (b.drop j) < 0))
  | 0, j, h, hj => by
    apply evshift
    simp only [spec_l4Before.l0]
    refine evn (by omega) ?_
    apply evshift
    simp only [spec_l4Before.j1]
    refine evn (by simp) (eve (evs _) ?_)
    rw [List.drop_eq_nil_of_le (show a.length ≤ j by omega)]
    by_cases c : j < b.length
    · rw [drop_cons c]
      simp only [cmpL]
      rw [decide_eq_true (by omega)]; rfl
    · rw [List.drop_eq_nil_of_le (by omega)]
      simp only [cmpL]
      rw [decide_eq_false (by omega)]; rfl
  | d + 1, j, h, hj => by
    have h1 : j < a.length := by omega
    apply evshift
    simp only [spec_l4Before.l0]
    refine evp (by omega) ?_
    apply evshift
    simp only [spec_l4Before.j1]
    by_cases c : j < b.length
    · have ih := before_loop a b ha hb d (j + 1) (by omega) (by omega)
      refine evp (decide_eq_true (by omega)) (evp (by omega) (evp (by omega) (evp (by omega) ?_)))
      rw [wnext j (by omega), drop_cons h1, drop_cons c]
      by_cases e : rd a (j : Int) = rd b (j : Int)
      · refine evp e (eve ih ?_)
        unfold cmpL
        rw [if_neg (by omega), if_neg (by omega)]
        cases a.drop (j + 1) <;> cases b.drop (j + 1) <;> simp [cmpL]
      · refine evn e (eve (evs _) ?_)
        unfold cmpL
        by_cases c2 : rd a (j : Int) < rd b (j : Int)
        · rw [if_pos c2, decide_eq_true c2]; rfl
        · rw [if_neg c2, if_pos (by omega), decide_eq_false c2]; rfl
    · refine evn (by rw [decide_eq_true_eq]; omega) (eve (evs _) ?_)
      rw [drop_cons h1, List.drop_eq_nil_of_le (show b.length ≤ j by omega)]
      simp only [cmpL]
      rw [decide_eq_false (by omega)]; rfl
theorem ev_l4Before (a b : List Int) (ha : a.length ≤ 1000) (hb : b.length ≤ 1000) : Ev (fun k => spec_l4Before.f k a b) (decide (cmpL a b < 0)) := by
  unfold spec_l4Before.f
  have := before_loop a b ha hb a.length 0 (by omega) (by omega)
  rwa [List.drop_zero, List.drop_zero] at this
theorem cmp_val (a b : Int) : cmp_Compare_int.f a b = some (if a < b then -1 else if a > b then 1 else 0) := by
  unfold cmp_Compare_int.f cmp_isNaN_int.f
  simp only [Option.bind_some, bne_self_eq_false, Bool.false_eq_true, if_false]
  by_cases c1 : a < b
  · rw [if_pos c1, if_pos c1]
  · rw [if_neg c1, if_neg c1]
    by_cases c2 : a > b
    · rw [if_pos c2, if_pos c2]
    · rw [if_neg c2, if_neg c2]
theorem compare_loop (a b : List Int) (ha : a.length ≤ 1000) (hb : b.length ≤ 1000) : ∀ d j, j + d = a.length → j ≤ b.length → Ev (fun k => slices_Compare_int_int.l0 k a b a (a.length : Int) (j : Int)) (cmpL (a.drop j) (b.drop j))
  | 0, j, h, hj => by
    apply evshift
    simp only [slices_Compare_int_int.l0]
    refine evn (by omega) ?_
    rw [List.drop_eq_nil_of_le (show a.length ≤ j by omega)]
    by_cases c : j < b.length
    · rw [drop_cons c]
      exact evp (by omega) (evs _)
    · rw [List.drop_eq_nil_of_le (by omega)]
      exact evn (by omega) (evs _)
  | d + 1, j, h, hj => by
    have h1 : j < a.length := by omega
    apply evshift
    simp only [slices_Compare_int_int.l0]
    refine evp (by omega) (evp (by omega) (evp (by omega) ?_))
    by_cases c : j < b.length
    · have ih := compare_loop a b ha hb d (j + 1) (by omega) (by omega)
      refine evn (by omega) (evp (by omega) ?_)
      rw [cmp_val, wnext j (by omega), drop_cons h1, drop_cons c]
      simp only [Option.bind_some]
      by_cases c1 : rd a (j : Int) < rd b (j : Int)
      · rw [if_pos c1]
        refine evn (by decide) (eve (evs _) ?_)
        unfold cmpL
        rw [if_pos c1]
      · rw [if_neg c1]
        by_cases c2 : rd a (j : Int) > rd b (j : Int)
        · rw [if_pos c2]
          refine evn (by decide) (eve (evs _) ?_)
          unfold cmpL
          rw [if_neg c1, if_pos c2]
        · rw [if_neg c2]
          refine evp rfl (eve ih ?_)
          rw [show cmpL (rd a (j : Int) :: a.drop (j + 1)) (rd b (j : Int) :: b.drop (j + 1)) = cmpL (a.drop (j + 1)) (b.drop (j + 1)) from by rw [cmpL, if_neg c1, if_neg c2]]
    · refine evp (by omega) (eve (evs _) ?_)
      rw [drop_cons h1, List.drop_eq_nil_of_le (show b.length ≤ j by omega)]
      rfl
theorem ev_compare (a b : List Int) (ha : a.length ≤ 1000) (hb : b.length ≤ 1000) : Ev (fun k => slices_Compare_int_int.f k a b) (cmpL a b) := by
  unfold slices_Compare_int_int.f
  have := compare_loop a b ha hb a.length 0 (by omega) (by omega)
  rwa [List.drop_zero, List.drop_zero] at this
/-! Each row laid in its place. -/
def posI (x : List Int) (S : List S29) : Nat → Nat
  | 0 => 0
  | j + 1 => if cmpL x (S.getD j z29).f2 < 0 then posI x S j else j + 1
def insF (n : Int) (ring : Bool) : List (List Int) → List S29 → List S29
  | [], S => S
  | x :: xs, S => insF n ring xs ((S.take (posI x S S.length) ++ [⟨n, ring, x⟩]) ++ S.drop (posI x S S.length))
theorem getD_f2 {S : List S29} (hS : ∀ s ∈ S, s.f2.length ≤ 1000) (j : Nat) : (S.getD j z29).f2.length ≤ 1000 := by
  rw [List.getD_eq_getElem?_getD]
  by_cases c : j < S.length
  · rw [List.getElem?_eq_getElem c]; exact hS _ (List.getElem_mem c)
  · rw [List.getElem?_eq_none (by omega)]; exact Nat.zero_le _
theorem ev_insK (x : List Int) (S : List S29) (hx : x.length ≤ 1000) (hS : ∀ s ∈ S, s.f2.length ≤ 1000) : ∀ j, Ev (fun k => insK k x S j) (posI x S j)
  | 0 => evs _
  | j + 1 => by
    have ih := ev_insK x S hx hS j
    simp only [insK, posI]
    refine evb (ev_l4Before x (S.getD j z29).f2 hx (getD_f2 hS j)) ?_
    by_cases c : cmpL x (S.getD j z29).f2 < 0
    · rw [if_pos c, decide_eq_true c]
      exact evp rfl ih
    · rw [if_neg c, decide_eq_false c]
      exact evn (by simp) (evs _)
theorem ev_insAll (n : Int) (ring : Bool) : ∀ (xs : List (List Int)) (S : List S29), (∀ x ∈ xs, x.length ≤ 1000) → (∀ s ∈ S, s.f2.length ≤ 1000) → Ev (fun k => insAll k n ring xs S) (insF n ring xs S)
  | [], S, _, _ => evs _
  | x :: xs, S, hx, hS => by
    simp only [insAll, insF]
    refine evb (ev_insK x S (hx x (by simp)) hS _) (ev_insAll n ring xs _ (fun y hy => hx y (by simp [hy])) fun s hs => ?_)
    rcases List.mem_append.1 hs with hs | hs
    · rcases List.mem_append.1 hs with hs | hs
      · exact hS s (List.mem_of_mem_take hs)
      · rw [List.mem_singleton] at hs
        rw [hs]; exact hx x (by simp)
    · exact hS s (List.mem_of_mem_drop hs)
theorem posI_le (x : List Int) (S : List S29) : ∀ j, posI x S j ≤ j
  | 0 => Nat.le_refl _
  | j + 1 => by
    unfold posI
    have := posI_le x S j
    split <;> omega
theorem posI_hi (x : List Int) (S : List S29) : ∀ j i, posI x S j ≤ i → i < j → cmpL x (S.getD i z29).f2 < 0
  | 0, i, _, h => by omega
  | j + 1, i, h, hi => by
    unfold posI at h
    by_cases c : cmpL x (S.getD j z29).f2 < 0
    · rw [if_pos c] at h
      by_cases e : i = j
      · subst e; exact c
      · exact posI_hi x S j i h (by omega)
    · rw [if_neg c] at h; omega
theorem posI_lo (x : List Int) (S : List S29) : ∀ j, posI x S j = 0 ∨ ¬ cmpL x (S.getD (posI x S j - 1) z29).f2 < 0
  | 0 => .inl rfl
  | j + 1 => by
    unfold posI
    by_cases c : cmpL x (S.getD j z29).f2 < 0
    · rw [if_pos c]; exact posI_lo x S j
    · rw [if_neg c]; exact .inr c
theorem ins_sorted (n : Int) (ring : Bool) (x : List Int) (S : List S29) (hS : S.Pairwise fun a b => cmpL a.f2 b.f2 < 0) (hx : ∀ s ∈ S, s.f2 ≠ x) : ((S.take (posI x S S.length) ++ [(⟨n, ring, x⟩ : S29)]) ++ S.drop (posI x S S.length)).Pairwise fun a b => cmpL a.f2 b.f2 < 0 := by
  have hp := posI_le x S S.length
  have hhi := posI_hi x S S.length
  have hlo := posI_lo x S S.length
  generalize posI x S S.length = p at *
  have hget : ∀ i (h : i < S.length), S.getD i z29 = S[i] := fun i h => by rw [List.getD_eq_getElem?_getD, List.getElem?_eq_getElem h]; rfl
  have hpw := List.pairwise_iff_getElem.1 hS
  have hlow : ∀ s ∈ S.take p, cmpL s.f2 x < 0 := fun s hs => by
    obtain ⟨i, hi, rfl⟩ := List.getElem_of_mem hs
    rw [List.length_take] at hi
    rw [List.getElem_take]
    have h1 := hlo.resolve_left (by omega)
    rw [hget _ (by omega)] at h1
    have h2 := cmpL_tot _ _ h1 (fun e => hx _ (List.getElem_mem _) e.symm)
    by_cases e : i = p - 1
    · subst e; exact h2
    · exact cmpL_trans _ _ _ (hpw i (p - 1) (by omega) (by omega) (by omega)) h2
  have hhigh : ∀ s ∈ S.drop p, cmpL x s.f2 < 0 := fun s hs => by
    obtain ⟨i, hi, rfl⟩ := List.getElem_of_mem hs
    rw [List.length_drop] at hi
    rw [List.getElem_drop]
    have := hhi (p + i) (by omega) (by omega)
    rwa [hget _ (by omega)] at this
  have hsplit : (S.take p ++ S.drop p).Pairwise fun a b => cmpL a.f2 b.f2 < 0 := by rw [List.take_append_drop]; exact hS
  rw [List.pairwise_append] at hsplit
  rw [List.pairwise_append, List.pairwise_append]
  refine ⟨⟨hsplit.1, by simp, fun a ha b hb => ?_⟩, hsplit.2.1, fun a ha b hb => ?_⟩
  · rw [List.mem_singleton] at hb
    subst hb; exact hlow a ha
  · rcases List.mem_append.1 ha with ha | ha
    · exact hsplit.2.2 a ha b hb
    · rw [List.mem_singleton] at ha
      subst ha; exact hhigh b hb
theorem ins_perm (n : Int) (ring : Bool) (x : List Int) (S : List S29) (p : Nat) : ((S.take p ++ [(⟨n, ring, x⟩ : S29)]) ++ S.drop p).Perm ((⟨n, ring, x⟩ : S29) :: S) := by
  rw [List.append_assoc]
  refine List.perm_middle.trans ?_
  show ((⟨n, ring, x⟩ : S29) :: (S.take p ++ S.drop p)).Perm _
  rw [List.take_append_drop]
theorem insF_perm (n : Int) (ring : Bool) : ∀ (xs : List (List Int)) (S : List S29), (insF n ring xs S).Perm ((xs.map fun x => (⟨n, ring, x⟩ : S29)) ++ S)
  | [], S => List.Perm.refl _
  | x :: xs, S => by
    simp only [insF]
    refine (insF_perm n ring xs _).trans ?_
    refine ((ins_perm n ring x S _).append_left _).trans ?_
    exact List.perm_middle
theorem insF_sorted (n : Int) (ring : Bool) : ∀ (xs : List (List Int)) (S : List S29), S.Pairwise (fun a b => cmpL a.f2 b.f2 < 0) → xs.Pairwise (fun a b => a ≠ b) → (∀ x ∈ xs, ∀ s ∈ S, s.f2 ≠ x) → (insF n ring xs S).Pairwise fun a b => cmpL a.f2 b.f2 < 0
  | [], S, h, _, _ => h
  | x :: xs, S, h, hx, hd => by
    obtain ⟨h1, h2⟩ := List.pairwise_cons.1 hx
    simp only [insF]
    refine insF_sorted n ring xs _ (ins_sorted n ring x S h (hd x (by simp))) h2 fun y hy s hs => ?_
    have hs2 := (ins_perm n ring x S _).mem_iff.1 hs
    rcases List.mem_cons.1 hs2 with hs2 | hs2
    · subst hs2; exact h1 y hy
    · exact hd y (by simp [hy]) s hs2
/-! Rows compared, marked and held. -/
theorem rd29 {S : List S29} {j : Nat} (h : j < S.length) : rd_T29 S (j : Int) = S[j] := by
  unfold rd_T29
  rw [Int.toNat_natCast, List.getD_eq_getElem?_getD, List.getElem?_eq_getElem h]; rfl
theorem eqRowS_loop (S : List S29) (hl : S.length ≤ 100000) (hS : ∀ s ∈ S, s.f2.length ≤ 1000) : ∀ d j, j + d = S.length → Ev (fun k => laws_eqRowS.l0 k S S (j : Int)) true
  | 0, j, h => by
    apply evshift
    simp only [laws_eqRowS.l0]
    exact evn (by omega) (evs _)
  | d + 1, j, h => by
    have ih := eqRowS_loop S hl hS d (j + 1) (by omega)
    have hj : j < S.length := by omega
    apply evshift
    simp only [laws_eqRowS.l0]
    rw [rd29 hj, wnext j (by omega)]
    refine evp (by omega) (evp (by omega) (evp (by omega) (evb (ev_eqRow _ _ _ (by have := hS _ (List.getElem_mem hj); omega)) (evp rfl ih))))
theorem ev_eqRowS (S : List S29) (hl : S.length ≤ 100000) (hS : ∀ s ∈ S, s.f2.length ≤ 1000) : Ev (fun k => laws_eqRowS.f k S S) true := by
  unfold laws_eqRowS.f
  exact evp rfl (eqRowS_loop S hl hS S.length 0 (by omega))
def mkS : List S29 → Int → List S29
  | [], _ => []
  | s :: ss, m => ⟨m, Int.tmod (m + 1) 3 == 0, marks (m + 2) s.f2.length⟩ :: mkS ss (m + 2 + (s.f2.length : Int))
def mtS : List S29 → Int → Int
  | [], m => m
  | s :: ss, m => mtS ss (m + 2 + (s.f2.length : Int))
theorem mkS_len : ∀ (S : List S29) (m : Int), (mkS S m).length = S.length
  | [], _ => rfl
  | s :: ss, m => by simp only [mkS, List.length_cons, mkS_len ss]
theorem mtS_ge : ∀ (S : List S29) (m : Int), m ≤ mtS S m
  | [], m => Int.le_refl _
  | s :: ss, m => by
    unfold mtS
    have := mtS_ge ss (m + 2 + (s.f2.length : Int))
    omega
theorem ev_markRs : ∀ (S : List S29) (m : Int), (∀ s ∈ S, s.f2.length ≤ 1000) → 0 ≤ m → m + 1002 * (S.length : Int) ≤ 1099511627776 → Ev (fun k => markRs k S m) (mtS S m, mkS S m)
  | [], m, _, _, _ => evs _
  | s :: ss, m, hS, h0, hm => by
    rw [List.length_cons] at hm
    have hs := hS s (by simp)
    have ih := ev_markRs ss (m + 2 + (s.f2.length : Int)) (fun z hz => hS z (by simp [hz])) (by omega) (by omega)
    simp only [markRs, mtS, mkS]
    have e1 : wrap64 (m + 1) = m + 1 := w64 (by omega) (by omega)
    have e2 : wrap64 (m + 1 + 1) = m + 2 := by rw [w64 (by omega) (by omega)]; omega
    rw [e1, e2]
    exact evb (ev_markIntS s.f2 (m + 2) (by omega) (by omega) (by omega)) (evb ih (evs _))
theorem heldRowS_loop (M : List S29) (hl : M.length ≤ 100000) : ∀ (S : List S29) (j : Nat) (m : Int), M.drop j = mkS S m → j + S.length = M.length → (∀ s ∈ S, s.f2.length ≤ 1000) → 0 ≤ m → m + 1002 * (S.length : Int) ≤ 1099511627776 → Ev (fun k => laws_heldRowS.l0 k M m (j : Int)) (mtS S m)
  | [], j, m, _, h, _, _, _ => by
    rw [List.length_nil] at h
    apply evshift
    simp only [laws_heldRowS.l0]
    exact evn (by omega) (evs _)
  | s :: ss, j, m, hd, h, hS, h0, hm => by
    rw [List.length_cons] at h hm
    have hs := hS s (by simp)
    have hj : j < M.length := by omega
    simp only [mkS] at hd
    rw [List.drop_eq_getElem_cons hj, List.cons.injEq] at hd
    obtain ⟨h1, h2⟩ := hd
    have ih := heldRowS_loop M hl ss (j + 1) (m + 2 + (s.f2.length : Int)) h2 (by omega) (fun z hz => hS z (by simp [hz])) (by omega) (by omega)
    have e1 : wrap64 (m + 1) = m + 1 := w64 (by omega) (by omega)
    have e2 : wrap64 (m + 1 + 1) = m + 2 := by rw [w64 (by omega) (by omega)]; omega
    apply evshift
    simp only [laws_heldRowS.l0, mtS]
    rw [rd29 hj, h1, wnext j (by omega), e1, e2]
    refine evp (by omega) (evp (by omega) (evp rfl (evn (by simp) (evb (ev_heldIntS s.f2.length (m + 2) (by omega) (by omega) (by omega)) (evn (by omega) ih)))))
theorem ev_heldRowS (S : List S29) (m : Int) (hl : S.length ≤ 100000) (hS : ∀ s ∈ S, s.f2.length ≤ 1000) (h0 : 0 ≤ m) (hm : m + 1002 * (S.length : Int) ≤ 1099511627776) : Ev (fun k => laws_heldRowS.f k (mkS S m) m) (mtS S m) := by
  unfold laws_heldRowS.f
  exact heldRowS_loop (mkS S m) (by rw [mkS_len]; exact hl) S 0 m (by rw [List.drop_zero]) (by rw [mkS_len]; omega) hS h0 hm
theorem ev_all {α : Type} {P : Nat → α → Prop} : ∀ l : List α, (∀ a ∈ l, ∃ K, ∀ k, K ≤ k → P k a) → ∃ K, ∀ k, K ≤ k → ∀ a ∈ l, P k a
  | [], _ => ⟨0, fun _ _ a ha => by simp at ha⟩
  | x :: l, h => by
    obtain ⟨K, hK⟩ := ev_all l fun a ha => h a (by simp [ha])
    obtain ⟨K2, h2⟩ := h x (by simp)
    refine ⟨K + K2, fun k hk a ha => ?_⟩
    rcases List.mem_cons.1 ha with ha | ha
    · subst ha; exact h2 k (by omega)
    · exact hK k (by omega) a ha
theorem filt_self {m : Nat} {s : List Nat} (hp : s.Pairwise (· < ·)) (h : ∀ j ∈ s, j < m) : s = (List.range m).filter fun i => decide (i ∈ s) := by
  refine List.Perm.eq_of_pairwise (le := (· < ·)) (fun a b _ _ h1 h2 => by omega) hp (List.pairwise_lt_range.filter _) ((List.perm_ext_iff_of_nodup (hp.imp fun h => by omega) (List.nodup_range.filter _)).2 fun i => ?_)
  rw [List.mem_filter, List.mem_range, decide_eq_true_eq]
  exact ⟨fun hi => ⟨h i hi, hi⟩, fun hi => hi.2⟩
theorem sel_self {m : Nat} {s : List Nat} (hm : m ≤ 32) (hp : s.Pairwise (· < ·)) (h : ∀ j ∈ s, j < m) : sel 32 (fun i => decide (i ∈ s)) = toI s := by
  unfold sel toI
  rw [← filt_self hp fun j hj => by have := h j hj; omega]
theorem row_is (m : Nat) (ring : Bool) {s : List Nat} (hm : m ≤ 12) (hp : s.Pairwise (· < ·)) (h : ∀ j ∈ s, j < m) : ∃ K, ∀ k, K ≤ k → rowIs k (m : Int) ring ((numS s : Nat) : Int) ⟨(m : Int), ring, toI s⟩ := by
  have hl := inc_len hp h
  obtain ⟨K1, h1⟩ := ev_benchRow (m : Int) ring fun i => decide (i ∈ s)
  obtain ⟨K2, h2⟩ := ev_taken (m : Int) ring (toI s) (fun x hx => by obtain ⟨j, hj, e⟩ := mem_toI.1 hx; have := h j hj; omega) (by rw [toI_len]; omega)
  refine ⟨K1 + K2, fun k hk => ⟨?_, ?_⟩⟩
  · rw [← sel_self (by omega) hp h]
    exact h1 k (by omega)
  · refine (h2 k (by omega)).trans ?_
    unfold numS
    rw [show (M fun i : Nat => decide ((i : Int) ∈ toI s)) = M fun i => decide (i ∈ s) from M_congr fun i _ => decide_eq_decide.mpr ⟨fun hx => by obtain ⟨j, hj, e⟩ := mem_toI.1 hx; rwa [show i = j by omega], fun hx => mem_toI.2 ⟨i, hx, rfl⟩⟩]
/-- The reference's rows pass the program's test. -/
theorem fin_ok {m : Nat} {ring : Bool} {l : List Int} (h2 : 2 ≤ m) (hm : m ≤ 12) (h3 : ring = true → 3 ≤ m) (hmem : ∀ x ∈ l, 0 ≤ x ∧ x < (m : Int)) (hF : Fs m (fac m) (2 ^ m) (finA m ring fun i => decide ((i : Int) ∈ l))) :
    (∀ s ∈ insF (m : Int) ring (enc1 (finA m ring fun i => decide ((i : Int) ∈ l))) [], s.f2.length ≤ 1000) ∧ (insF (m : Int) ring (enc1 (finA m ring fun i => decide ((i : Int) ∈ l))) []).length ≤ 4096 ∧
    ∃ K, ∀ k, K ≤ k → FinOk k (m : Int) ring ((M fun i : Nat => decide ((i : Int) ∈ l) : Nat) : Int) (insF (m : Int) ring (enc1 (finA m ring fun i => decide ((i : Int) ∈ l))) []) := by
  obtain ⟨b1, b2⟩ := row_bits hm hmem
  have hfin := finA_ok (n := m) (ring := ring) (by omega) h3 fun i => decide ((i : Int) ∈ l)
  obtain ⟨K0, hK0⟩ := singles_all m ring h2 h3 hm
  have hset := fun k (hk : K0 ≤ k) (g : Int → Rat) => vE_set (hK0 k hk) h2 hm h3 g b1
  have hat := fun k (hk : K0 ≤ k) {y : Nat} (hy : y < 2 ^ m) => vE_at (hK0 k hk) h2 hm b1 hy
  rw [b2] at hset hat
  generalize (finA m ring fun i => decide ((i : Int) ∈ l)) = FA at *
  have hp2 : 2 ^ m ≤ 2 ^ 12 := Nat.pow_le_pow_right (by omega) hm
  have hnum := hF.num
  have hperm := insF_perm (m : Int) ring (enc1 FA) []
  rw [List.append_nil] at hperm
  have hS : ∀ s, s ∈ insF (m : Int) ring (enc1 FA) [] ↔ ∃ y ∈ FA, s = (⟨(m : Int), ring, toI y.1⟩ : S29) := fun s => by
    rw [hperm.mem_iff]
    unfold enc1
    rw [List.map_map, List.mem_map]
    exact ⟨fun ⟨y, hy, e⟩ => ⟨y, hy, e.symm⟩, fun ⟨y, hy, e⟩ => ⟨y, hy, e.symm⟩⟩
  have hlen : (insF (m : Int) ring (enc1 FA) []).length = FA.length := by rw [hperm.length_eq, List.length_map, enc1_len]
  have hf2 : ∀ s ∈ insF (m : Int) ring (enc1 FA) [], s.f2.length ≤ 1000 := fun s hs => by
    obtain ⟨y, hy, rfl⟩ := (hS s).1 hs
    show (toI y.1).length ≤ 1000
    rw [toI_len]
    have := inc_len (hF.inc y hy).1 (hF.inc y hy).2
    omega
  have hsort : (insF (m : Int) ring (enc1 FA) []).Pairwise fun a b => cmpL a.f2 b.f2 < 0 := insF_sorted _ _ _ [] List.Pairwise.nil (by
    unfold enc1
    rw [List.pairwise_map]
    exact hfin.1.one.imp fun h e => h (toI_inj.1 e)) (fun _ _ s hs => by simp at hs)
  generalize insF (m : Int) ring (enc1 FA) [] = S at *
  obtain ⟨K1, hK1⟩ := ev_all (α := List Nat × Rat) (P := fun (k : Nat) (y : List Nat × Rat) => rowIs k (m : Int) ring ((numS y.1 : Nat) : Int) ⟨(m : Int), ring, toI y.1⟩) FA fun y hy => row_is m ring hm (hF.inc y hy).1 (hF.inc y hy).2
  obtain ⟨K2, hK2⟩ := ev_all (α := S29) (P := fun (k : Nat) (a : S29) => ∀ b ∈ S, slices_Compare_int_int.f k a.f2 b.f2 = some (cmpL a.f2 b.f2)) S fun a ha => ev_all (α := S29) (P := fun (k : Nat) (b : S29) => slices_Compare_int_int.f k a.f2 b.f2 = some (cmpL a.f2 b.f2)) S fun b hb => ev_compare a.f2 b.f2 (hf2 a ha) (hf2 b hb)
  refine ⟨hf2, by omega, K0 + K1 + K2, fun k hk => ⟨fun s hs => ?_, fun x x0 x1 hx => ?_, hK2 k (by omega), hsort, by omega⟩⟩
  · obtain ⟨y, hy, rfl⟩ := (hS s).1 hs
    obtain ⟨c1, c2⟩ := numS_bits hm (hF.inc y hy).2
    refine ⟨((numS y.1 : Nat) : Int), by omega, by omega, hK1 k (by omega) y hy, ?_⟩
    rw [hat k (by omega) c1, ← hfin.2, c2, EM_at hfin.1 _ hy (filt_self (hF.inc y hy).1 (hF.inc y hy).2)]
    exact hfin.1.pos y hy
  · obtain ⟨y, hy, e⟩ : ∃ y ∈ FA, ((numS y.1 : Nat) : Int) = x := by
      refine Classical.byContradiction fun hc => ?_
      rw [hset k (by omega) (oneF x), qsum_zero fun y hy => by
        unfold oneF
        rw [if_neg fun e => hc ⟨y, hy, e⟩, Rat.mul_zero]] at hx
      exact absurd hx (by decide)
    exact ⟨_, (hS _).2 ⟨y, hy, rfl⟩, e ▸ hK1 k (by omega) y hy⟩
theorem bothFinalRows (n : Int) (ring : Bool) (l : List Int) (hl : l.length ≤ 1048576) :
    ∃ S b, Ev (fun k => spec_FinalRows.f k n ring l) (S, b) ∧ Ev (fun k => impl_FinalRows.f k n ring l S) b ∧ (∀ s ∈ S, s.f2.length ≤ 1000) ∧ S.length ≤ 4096 := by
  have hS := ev_l4Row n ring l hl
  have hI := ev_isFilled n ring l hl
  unfold spec_FinalRows.f impl_FinalRows.f
  cases hb : rowB n ring l && decide (n ≤ 12) with
  | false =>
    rw [hb] at hS hI
    exact ⟨[], false, evb hS (evn (by simp) (evs _)), evb hI (evn (by simp) (evp rfl (evs _))), by simp, by simp⟩
  | true =>
    rw [hb] at hS hI
    rw [Bool.and_eq_true, decide_eq_true_eq] at hb
    obtain ⟨h1, h12⟩ := hb
    have ok1 := rowB_ok h1
    have := ok1.lo
    have l1 := ok1.len
    obtain ⟨m, rfl⟩ : ∃ m : Nat, n = m := ⟨n.toNat, by omega⟩
    have h3 : ring = true → 3 ≤ m := fun h => by have := ok1.ring3 h; omega
    have hF := ev_l4Finals m ring l (by omega) h3 (by omega) (by omega) ok1.mem
    obtain ⟨f1, f2, K, hK⟩ := fin_ok (by omega) (by omega) h3 ok1.mem hF.2
    have hp2 : 2 ^ m ≤ 2 ^ 12 := Nat.pow_le_pow_right (by omega) (by omega)
    have hnum := hF.2.num
    obtain ⟨b1, b2⟩ := row_bits (by omega) ok1.mem
    obtain ⟨K0, hK0⟩ := singles_all m ring (by omega) h3 (by omega)
    have hll := List.length_filter_le (lonB m ring (M fun i : Nat => decide ((i : Int) ∈ l)).testBit) (List.range m)
    rw [List.length_range] at hll
    refine ⟨_, true, evb hS (evp rfl (evb (a := enc (finA m ring fun i => decide ((i : Int) ∈ l))) hF.1 (evp ?_ (evb (ev_insAll (m : Int) ring (enc1 (finA m ring fun i => decide ((i : Int) ∈ l))) [] (fun x hx => ?_) (by simp)) (evs _))))), evb hI (evp rfl (evb (ev_taken (m : Int) ring l (fun x hx => by have := ok1.mem x hx; omega) hl) (ev_from (g := fun _ => some true) ⟨K + K0, fun k hk => ?_⟩ (evs _)))), f1, f2⟩
    · show (enc1 _).length ≤ 100000
      rw [enc1_len]; omega
    · obtain ⟨y, hy, rfl⟩ := List.mem_map.1 hx
      rw [toI_len]
      have := inc_len (hF.2.inc y hy).1 (hF.2.inc y hy).2
      omega
    · rw [if_pos ⟨fld_true (hK0 k (by omega)) (by omega) 13 _ b1 (by unfold lonL; omega), finB_iff.2 (hK k (by omega))⟩]
theorem FnExactFinalRows : laws_FnExactFinalRows.Pure := by
  intro n ring l _ hl _
  refine Ev.rounds (g := fun k => laws_FnExactFinalRows.f k n ring l) ?_
  unfold laws_FnExactFinalRows.f
  by_cases h : l.length ≤ 1048576
  · refine evc (szRow_ok (by omega) (by omega)) (evn (by omega) ?_)
    obtain ⟨S, b, hS, hI, f1, f2⟩ := bothFinalRows n ring l h
    have hm := ev_markRs S 1 f1 (by omega) (by omega)
    refine evb (ev_toRow n ring l h) (evb hS (evb hI (evb (ev_eqRowS S (by omega) f1) (evb (ev_eqRow n ring l h) (evb (ev_markRow n ring l 1 h (by omega) (by omega)) (evb hm (evb (ev_heldRowS S 1 (by omega) f1 (by omega) (by omega)) ?_)))))))
    have h1 := mtS_ge S 1
    exact evp ⟨⟨rfl, rfl, rfl⟩, ⟨by show (0 : Int) ≤ 1 + (l.length : Int); omega, by omega, rfl⟩, by show S.length ≤ 1000000; omega, mkS_len S 1⟩ (evs _)
  · exact evc (szRow_big (by omega) hl) (evp (by omega) (evs _))

end Go.Proofs.YtihifglmnjocfaaDoor.Pure
