/- Given functions as plain Lean functions, and that their calls answer these. -/
import Derived.Test.YtihifglmnjocfaaDoorPFnExactFinalRowsx0
import Derived.Test.YtihifglmnjocfaaDoorPFnExactFinalRowsx8
import Derived.Test.YtihifglmnjocfaaDoorPFnExactFinalRowsx11
import Derived.Test.YtihifglmnjocfaaDoorPFnExactFinalRowsx12
namespace Go.Proofs.YtihifglmnjocfaaDoor.PFnExactFinalRows
open Go.RowKit Go.Proofs.YtihifglmnjocfaaDoorW.PrintWords Go.Proofs.YtihifglmnjocfaaDoorW.PrintLast Go.Proofs.YtihifglmnjocfaaDoorW.PrintMore
attribute [local go_sem] max2_int min2_int max_two min_two max_three min_three max_four min_four
set_option maxHeartbeats 8000000
set_option maxRecDepth 100000
set_option linter.unusedVariables false
set_option linter.unusedSimpArgs false

/-! ### impl_FinalRows: function 14 -/
set_option linter.unnecessarySimpa false
open Go.Maps
/-! What a map of numbers comes to: the sum over its entries of the element times a weight of the key. -/
section
variable {H : Type}
def kx : Lit → Int
 | .int _ x => x
 | _ => 0
def vx {H : Type} : DataW H → Int
 | .lit (.int _ c) => c
 | _ => 0
def ents {H : Type} : DataW H → List (Lit × DataW H)
 | .map es => es
 | _ => []
def ws {H : Type} (g : Int → Int) : List (Lit × DataW H) → Int
 | [] => 0
 | p :: r => vx p.2 * g (kx p.1) + ws g r
/-- .. over those that are no longer to come. -/
def wl {H : Type} (g : Int → Int) (left : Lit → Bool) : List (Lit × DataW H) → Int
 | [] => 0
 | p :: r => (if left p.1 = true then 0 else vx p.2 * g (kx p.1)) + wl g left r
theorem ws_insert (g : Int → Int) (x : Lit × DataW H) : ∀ l : List (Lit × DataW H), ws g (DataW.insert x l) = vx x.2 * g (kx x.1) + ws g l
 | [] => by simp [DataW.insert, ws]
 | y :: r => by
  unfold DataW.insert
  by_cases c : x.1.before y.1 = true
  ·rw [if_pos c]; rfl
  ·rw [if_neg c]
   simp only [ws]
   rw [ws_insert g x r]
   omega
theorem mem_insert {x p : Lit × DataW H} : ∀ {l : List (Lit × DataW H)}, p ∈ DataW.insert x l → p = x ∨ p ∈ l
 | [], h => by simp [DataW.insert] at h; exact .inl h
 | y :: r, h => by
  unfold DataW.insert at h
  by_cases c : x.1.before y.1 = true
  ·rw [if_pos c] at h
   exact List.mem_cons.1 h
  ·rw [if_neg c] at h
   rcases List.mem_cons.1 h with h | h
   ·exact .inr (by simp [h])
   ·rcases mem_insert h with h | h
    ·exact .inl h
    ·exact .inr (by simp [h])
theorem filter_none {k : Lit} : ∀ {l : List (Lit × DataW H)}, (∀ p ∈ l, p.1 ≠ k) → l.filter (fun p => !p.1.sameKey k) = l
 | [], _ => rfl
 | p :: r, h => by
  have h1 : p.1.sameKey k = false := by
   cases e : p.1.sameKey k with
   | false => rfl
   | true => exact absurd (WideAt.sameKey_eq e) (h p (by simp))
  rw [List.filter_cons, if_pos (by simp [h1]), filter_none fun q hq => h q (by simp [hq])]
theorem ws_filter (g : Int → Int) {k : Lit} : ∀ {l : List (Lit × DataW H)}, l.Pairwise (fun p q => p.1 ≠ q.1) → ws g (l.filter fun p => !p.1.sameKey k) = ws g l - (match l.find? (fun p => p.1.sameKey k) with | some p => vx p.2 * g (kx p.1) | none => 0)
 | [], _ => by simp [ws]
 | p :: r, h => by
  obtain ⟨h1, h2⟩ := List.pairwise_cons.1 h
  rw [List.filter_cons, List.find?_cons]
  by_cases c : p.1.sameKey k = true
  ·have e := WideAt.sameKey_eq c
   rw [if_neg (by simp [c]), filter_none fun q hq he => h1 q hq (e.trans he.symm)]
   simp only [c, ws]
   omega
  ·have c' : p.1.sameKey k = false := by simpa using c
   rw [if_pos (by simp [c'])]
   simp only [c', ws]
   rw [ws_filter g h2]
   omega
theorem ws_put (g : Int → Int) {q q' : IntKind} {x c v : Int} {l : List (Lit × DataW H)} (hp : l.Pairwise (fun p q => p.1 ≠ q.1)) (hat : (DataW.map l).atKey (.int q x) (.lit (.int q' 0)) = .lit (.int q' c)) :
  ws g (ents ((DataW.map l).put (.int q x) (.lit (.int q' (c + v))))) = ws g l + v * g x := by
 simp only [DataW.put, ents, ws_insert, ws_filter g hp]
 simp only [DataW.atKey] at hat
 cases e : l.find? (fun p => p.1.sameKey (.int q x)) with
 | none =>
  rw [e] at hat
  simp only [DataW.lit.injEq, Lit.int.injEq, true_and] at hat
  subst hat
  simp [vx, kx]
  omega
 | some p =>
  rw [e] at hat
  have hk := WideAt.sameKey_eq (by simpa using List.find?_some e)
  simp only at hat
  simp only [vx, kx, hat, hk, Int.add_mul]
  omega
theorem mem_put {k : Lit} {d : DataW H} {l : List (Lit × DataW H)} {p : Lit × DataW H} (h : p ∈ ents ((DataW.map l).put k d)) : p = (k, d) ∨ p ∈ l := by
 simp only [DataW.put, ents] at h
 rcases mem_insert h with h | h
 ·exact .inl h
 ·exact .inr (List.mem_filter.1 h).1
theorem at_mem {q : IntKind} {k : Lit} {c : Int} {l : List (Lit × DataW H)} (hat : ∀ zd, (DataW.map l).atKey k zd = .lit (.int q c)) : (k, .lit (.int q c)) ∈ l := by
 have h := hat .nil
 simp only [DataW.atKey] at h
 cases e : l.find? (fun p => p.1.sameKey k) with
 | none => rw [e] at h; cases h
 | some p =>
  rw [e] at h
  have hk := WideAt.sameKey_eq (by simpa using List.find?_some e)
  have hm := List.mem_of_find?_eq_some e
  simp only at h
  rw [← hk, ← h]
  exact hm
theorem wl_same (g : Int → Int) (left : Lit → Bool) {k : Lit} : ∀ {l : List (Lit × DataW H)}, (∀ p ∈ l, p.1 ≠ k) → wl g (fun z => left z && !z.sameKey k) l = wl g left l
 | [], _ => rfl
 | p :: r, h => by
  have h1 : p.1.sameKey k = false := by
   cases e : p.1.sameKey k with
   | false => rfl
   | true => exact absurd (WideAt.sameKey_eq e) (h p (by simp))
  simp only [wl, h1, Bool.not_false, Bool.and_true]
  rw [wl_same g left fun q hq => h q (by simp [hq])]
theorem wl_step (g : Int → Int) (left : Lit → Bool) {q : IntKind} {k : Lit} {c : Int} (hk : WideAt.IsKeyLit k) (hl : left k = true) : ∀ {l : List (Lit × DataW H)}, l.Pairwise (fun p q => p.1 ≠ q.1) → (k, .lit (.int q c)) ∈ l → wl g (fun z => left z && !z.sameKey k) l = wl g left l + c * g (kx k)
 | [], _, h => by simp at h
 | p :: r, hp, h => by
  obtain ⟨h1, h2⟩ := List.pairwise_cons.1 hp
  rcases List.mem_cons.1 h with e | h
  ·subst e
   simp only [wl]
   rw [wl_same g left fun q hq => fun he => h1 q hq he.symm]
   simp [hl, WideAt.sameKey_self hk, vx]
   omega
  ·have hne : p.1 ≠ k := h1 _ h
   have h3 : p.1.sameKey k = false := by
    cases e : p.1.sameKey k with
    | false => rfl
    | true => exact absurd (WideAt.sameKey_eq e) hne
   simp only [wl, h3, Bool.not_false, Bool.and_true]
   rw [wl_step g left hk hl h2 h]
   omega
theorem wl_start (g : Int → Int) (l0 : List (Lit × DataW H)) : ∀ l : List (Lit × DataW H), (∀ p ∈ l, p ∈ l0 ∧ WideAt.IsKeyLit p.1) → wl g (Maps.has (.map l0)) l = 0
 | [], _ => rfl
 | p :: r, h => by
  have hp := h p (by simp)
  have h1 : Maps.has (.map l0) p.1 = true := List.any_eq_true.2 ⟨p, hp.1, WideAt.sameKey_self hp.2⟩
  simp only [wl]
  rw [if_pos h1, wl_start g l0 r fun q hq => h q (by simp [hq])]
  rfl
theorem wl_end (g : Int → Int) {left : Lit → Bool} (h : ∀ k, left k = false) : ∀ l : List (Lit × DataW H), wl g left l = ws g l
 | [] => rfl
 | p :: r => by
  simp only [wl, ws, h]
  rw [wl_end g h r]
  simp
theorem wl_le (g : Int → Int) {left : Lit → Bool} : ∀ l : List (Lit × DataW H), (∀ p ∈ l, 0 ≤ vx p.2 * g (kx p.1)) → 0 ≤ wl g left l ∧ wl g left l ≤ ws g l
 | [], _ => by simp [wl, ws]
 | p :: r, h => by
  have h1 := h p (by simp)
  have h2 := wl_le g (left := left) r fun q hq => h q (by simp [hq])
  simp only [wl, ws]
  by_cases c : left p.1 = true
  ·rw [if_pos c]; omega
  ·rw [if_neg c]; omega
end

/-! The same, with weights that are fractions. -/
section
variable {H : Type}
def rws {H : Type} (g : Int → Rat) : List (Lit × DataW H) → Rat
 | [] => 0
 | p :: r => (vx p.2 : Rat) * g (kx p.1) + rws g r
def rwl {H : Type} (g : Int → Rat) (left : Lit → Bool) : List (Lit × DataW H) → Rat
 | [] => 0
 | p :: r => (if left p.1 = true then 0 else (vx p.2 : Rat) * g (kx p.1)) + rwl g left r
theorem rws_insert (g : Int → Rat) (x : Lit × DataW H) : ∀ l : List (Lit × DataW H), rws g (DataW.insert x l) = (vx x.2 : Rat) * g (kx x.1) + rws g l
 | [] => by simp [DataW.insert, rws]
 | y :: r => by
  unfold DataW.insert
  by_cases c : x.1.before y.1 = true
  ·rw [if_pos c]; rfl
  ·rw [if_neg c]
   simp only [rws]
   rw [rws_insert g x r]
   grind
theorem rws_filter (g : Int → Rat) {k : Lit} : ∀ {l : List (Lit × DataW H)}, l.Pairwise (fun p q => p.1 ≠ q.1) → rws g (l.filter fun p => !p.1.sameKey k) = rws g l - (match l.find? (fun p => p.1.sameKey k) with | some p => (vx p.2 : Rat) * g (kx p.1) | none => 0)
 | [], _ => by simp [rws]; grind
 | p :: r, h => by
  obtain ⟨h1, h2⟩ := List.pairwise_cons.1 h
  rw [List.filter_cons, List.find?_cons]
  by_cases c : p.1.sameKey k = true
  ·have e := WideAt.sameKey_eq c
   rw [if_neg (by simp [c]), filter_none fun q hq he => h1 q hq (e.trans he.symm)]
   simp only [c, rws]
   grind
  ·have c' : p.1.sameKey k = false := by simpa using c
   rw [if_pos (by simp [c'])]
   simp only [c', rws]
   rw [rws_filter g h2]
   grind
theorem rws_put (g : Int → Rat) {q q' : IntKind} {x c v : Int} {l : List (Lit × DataW H)} (hp : l.Pairwise (fun p q => p.1 ≠ q.1)) (hat : (DataW.map l).atKey (.int q x) (.lit (.int q' 0)) = .lit (.int q' c)) :
  rws g (ents ((DataW.map l).put (.int q x) (.lit (.int q' (c + v))))) = rws g l + (v : Rat) * g x := by
 simp only [DataW.put, ents, rws_insert, rws_filter g hp]
 simp only [DataW.atKey] at hat
 cases e : l.find? (fun p => p.1.sameKey (.int q x)) with
 | none =>
  rw [e] at hat
  simp only [DataW.lit.injEq, Lit.int.injEq, true_and] at hat
  subst hat
  simp only [vx, kx, Int.zero_add]
  grind
 | some p =>
  rw [e] at hat
  have hk := WideAt.sameKey_eq (by simpa using List.find?_some e)
  simp only at hat
  simp only [vx, kx, hat, hk, Rat.intCast_add]
  grind
theorem rwl_same (g : Int → Rat) (left : Lit → Bool) {k : Lit} : ∀ {l : List (Lit × DataW H)}, (∀ p ∈ l, p.1 ≠ k) → rwl g (fun z => left z && !z.sameKey k) l = rwl g left l
 | [], _ => rfl
 | p :: r, h => by
  have h1 : p.1.sameKey k = false := by
   cases e : p.1.sameKey k with
   | false => rfl
   | true => exact absurd (WideAt.sameKey_eq e) (h p (by simp))
  simp only [rwl, h1, Bool.not_false, Bool.and_true]
  rw [rwl_same g left fun q hq => h q (by simp [hq])]
theorem rwl_step (g : Int → Rat) (left : Lit → Bool) {q : IntKind} {k : Lit} {c : Int} (hk : WideAt.IsKeyLit k) (hl : left k = true) : ∀ {l : List (Lit × DataW H)}, l.Pairwise (fun p q => p.1 ≠ q.1) → (k, .lit (.int q c)) ∈ l → rwl g (fun z => left z && !z.sameKey k) l = rwl g left l + (c : Rat) * g (kx k)
 | [], _, h => by simp at h
 | p :: r, hp, h => by
  obtain ⟨h1, h2⟩ := List.pairwise_cons.1 hp
  rcases List.mem_cons.1 h with e | h
  ·subst e
   simp only [rwl]
   rw [rwl_same g left fun q hq => fun he => h1 q hq he.symm]
   simp only [hl, WideAt.sameKey_self hk, vx, Bool.not_true, Bool.and_false, if_true, Bool.false_eq_true, if_false]
   grind
  ·have hne : p.1 ≠ k := h1 _ h
   have h3 : p.1.sameKey k = false := by
    cases e : p.1.sameKey k with
    | false => rfl
    | true => exact absurd (WideAt.sameKey_eq e) hne
   simp only [rwl, h3, Bool.not_false, Bool.and_true]
   rw [rwl_step g left hk hl h2 h]
   grind
theorem rwl_start (g : Int → Rat) (l0 : List (Lit × DataW H)) : ∀ l : List (Lit × DataW H), (∀ p ∈ l, p ∈ l0 ∧ WideAt.IsKeyLit p.1) → rwl g (Maps.has (.map l0)) l = 0
 | [], _ => rfl
 | p :: r, h => by
  have hp := h p (by simp)
  have h1 : Maps.has (.map l0) p.1 = true := List.any_eq_true.2 ⟨p, hp.1, WideAt.sameKey_self hp.2⟩
  simp only [rwl]
  rw [if_pos h1, rwl_start g l0 r fun q hq => h q (by simp [hq])]
  grind
theorem rwl_end (g : Int → Rat) {left : Lit → Bool} (h : ∀ k, left k = false) : ∀ l : List (Lit × DataW H), rwl g left l = rws g l
 | [] => rfl
 | p :: r => by
  simp only [rwl, rws, h]
  rw [rwl_end g h r]
  simp
end
theorem law56 : Keyed Tryd.prog 56 := int_keyed Tryd.underlying56
theorem zero3 (w : World) : (zeroValue 3).run Tryd.prog w = .ok (.int .i64 0) w := by kernel_rfl
theorem wf32 {x : Int} (h0 : 0 ≤ x) (h1 : x < 4294967296) : (Lit.int .u32 x).wf = true := by
 simp [Lit.wf, IntKind.min, IntKind.max, IntKind.signed, IntKind.bits]; omega
theorem wf64 {x : Int} (h0 : 0 ≤ x) (h1 : x < 9223372036854775808) : (Lit.int .i64 x).wf = true := by
 simp [Lit.wf, IntKind.min, IntKind.max, IntKind.signed, IntKind.bits]; omega
theorem wpList_insert_own {H : Type} {P : Program} (w : World) {ops : Array Oper} {rest : List Oper} {o : Oper} {a : Act} {Q : Exit → Act → World → Prop}
  (hg : o.guard = none) (m x v : Operand) (t : TypeId) (hop : o.op = Op.insert t m x v)
  (k e : TypeId) (K : Keyed P k) (ht : P.underlying t = some (.map k e)) (R : Value → Option (DataW H × List MemPlace)) (b n : Nat) (D : DataW H)
  (hm : a.eval m = .map (some b)) (hown : w.ownsMap P k R b n D) (hn : n < maxLen) (key val : Value) (kl : Lit) (hx : a.eval x = key) (hv : a.eval v = val) (hkey : keyOf P k key = some kl)
  (d : DataW H) (ps : List MemPlace) (hval : R val = some (d, ps))
  (hK : ∀ w', w'.ownsMap P k R b (n + 1) (D.put kl d) → w.grownBy w' (some b) → wpList P ops Q rest (a.put o.dst undef) w') :
  wpList P ops Q (o :: rest) a w := by
 refine wpList_plain hg fun K' hK' => ?_
 obtain ⟨w', hrun, r1, r2⟩ := hown.update K ht hn hkey hval
 unfold Oper.wp
 simp [execOp, hop, hm, hx, hv, hrun, Result.andThen]
 exact hK' _ _ (hK w' r1 r2)
theorem at_le {q q' : IntKind} {x c : Int} : ∀ {l : List (Lit × DataW Unit)}, (∀ p ∈ l, 0 ≤ vx p.2) → (DataW.map l).atKey (.int q x) (.lit (.int q' 0)) = .lit (.int q' c) → 0 ≤ c ∧ c ≤ ws (fun _ => 1) l
 | [], _, h => by
  simp [DataW.atKey] at h
  subst h
  simp [ws]
 | p :: r, hp, h => by
  have h0 := hp p (by simp)
  have hr : 0 ≤ ws (fun _ => 1) r := by
   have : ∀ l : List (Lit × DataW Unit), (∀ p ∈ l, 0 ≤ vx p.2) → 0 ≤ ws (fun _ => 1) l := by
    intro l
    induction l with
    | nil => intro _; simp [ws]
    | cons y t ih => intro hh; have := ih fun q hq => hh q (by simp [hq]); have := hh y (by simp); simp only [ws]; omega
   exact this r fun q hq => hp q (by simp [hq])
  simp only [DataW.atKey, List.find?_cons] at h
  simp only [ws]
  cases e : p.1.sameKey (.int q x) with
  | true =>
   rw [e] at h
   simp only at h
   rw [h] at h0 ⊢
   simp only [vx] at h0 ⊢
   omega
  | false =>
   rw [e] at h
   have := at_le (l := r) (fun q hq => hp q (by simp [hq])) h
   omega

/-- The singles of a set as numbers, none where the function does not come to an answer. -/
def nxF (k : Nat) (n : Int) (ring : Bool) (s : Int) : List Int := (impl_bench_singles.f k n ring s).getD []
def orF (s m : Int) : Int := Go.bits .or .u32 s m
/-- From s on all comes to an end within d levels. -/
def fldOk (k : Nat) (n : Int) (ring : Bool) : Nat → Int → Prop
 | 0, _ => False
 | d + 1, s => (0 ≤ s ∧ s < 4294967296) ∧ ∃ l, impl_bench_singles.f k n ring s = some l ∧ l.length ≤ 12 ∧ ∀ m ∈ l, fldOk k n ring d (orF s m) ∧ (nxF k n ring (orF s m)).length + 1 ≤ l.length
/-- The sum over a list. -/
def rsum {α : Type} (f : α → Rat) : List α → Rat
 | [] => 0
 | a :: l => f a + rsum f l
/-- The mean of g over the ends, from s on. -/
def vEd (k : Nat) (n : Int) (ring : Bool) (g : Int → Rat) : Nat → Int → Rat
 | 0, s => g s
 | f + 1, s => if nxF k n ring s = [] then g s else rsum (fun m => vEd k n ring g f (orF s m)) (nxF k n ring s) / ((nxF k n ring s).length : Rat)
def vE (k : Nat) (n : Int) (ring : Bool) (g : Int → Rat) (s : Int) : Rat := vEd k n ring g 13 s
theorem rsum_congr {α : Type} {f g : α → Rat} : ∀ {l : List α}, (∀ a ∈ l, f a = g a) → rsum f l = rsum g l
 | [], _ => rfl
 | a :: l, h => by
  simp only [rsum]
  rw [h a (by simp), rsum_congr fun b hb => h b (by simp [hb])]
theorem rsum_append {α : Type} (f : α → Rat) : ∀ (l r : List α), rsum f (l ++ r) = rsum f l + rsum f r
 | [], r => by simp [rsum]; grind
 | a :: l, r => by
  simp only [List.cons_append, rsum]
  rw [rsum_append f l r]
  grind
theorem rsum_mul {α : Type} (f : α → Rat) (c : Rat) : ∀ (l : List α), rsum (fun a => c * f a) l = c * rsum f l
 | [] => by simp [rsum]
 | a :: l => by
  simp only [rsum]
  rw [rsum_mul f c l]
  grind
section
variable {k : Nat} {n : Int} {ring : Bool}
theorem nx_of {s : Int} {l : List Int} (h : impl_bench_singles.f k n ring s = some l) : nxF k n ring s = l := by unfold nxF; rw [h]; rfl
theorem vEd_fuel (g : Int → Rat) : ∀ (d f : Nat) (s : Int), fldOk k n ring (d + 1) s → d ≤ f → vEd k n ring g (f + 1) s = vEd k n ring g f s
 | 0, f, s, h, _ => by
  obtain ⟨-, l, hl, -, hm⟩ := h
  have e : nxF k n ring s = [] := by
   rw [nx_of hl]
   cases l with
   | nil => rfl
   | cons m _ => exact absurd (hm m (by simp)).1 (by simp [fldOk])
  cases f with
  | zero => simp only [vEd]; rw [if_pos e]
  | succ f => simp only [vEd]; rw [if_pos e, if_pos e]
 | d + 1, 0, s, h, hf => by omega
 | d + 1, f + 1, s, h, hf => by
  obtain ⟨-, l, hl, -, hm⟩ := h
  simp only [vEd]
  by_cases e : nxF k n ring s = []
  ·rw [if_pos e, if_pos e]
  ·rw [if_neg e, if_neg e]
   congr 1
   refine rsum_congr fun m hm' => ?_
   rw [nx_of hl] at hm'
   have h1 := vEd_fuel g d f (orF s m) (hm m hm').1 (by omega)
   simp only [vEd] at h1
   exact h1
/-- What is the mean over the ends is the mean over the next ones. -/
theorem vE_step (g : Int → Rat) {d : Nat} {s : Int} (h : fldOk k n ring (d + 1) s) (hd : d ≤ 12) {l : List Int} (hl : impl_bench_singles.f k n ring s = some l) :
  (l = [] → vE k n ring g s = g s) ∧ (l ≠ [] → (l.length : Rat) * vE k n ring g s = rsum (fun m => vE k n ring g (orF s m)) l) := by
 have e := nx_of hl
 obtain ⟨-, l', hl', -, hm⟩ := h
 rw [hl] at hl'
 cases hl'
 constructor
 ·intro h0
  unfold vE
  simp only [vEd]
  rw [e, if_pos h0]
 ·intro h0
  have hne : (l.length : Rat) ≠ 0 := by
   intro hz
   have : ((l.length : Nat) : Rat) = ((0 : Nat) : Rat) := hz
   rw [Rat.natCast_inj] at this
   exact h0 (List.eq_nil_of_length_eq_zero this)
  have e1 : vE k n ring g s = rsum (fun m => vEd k n ring g 12 (orF s m)) l / (l.length : Rat) := by
   unfold vE
   simp only [vEd]
   rw [e, if_neg h0]
  have e2 : rsum (fun m => vE k n ring g (orF s m)) l = rsum (fun m => vEd k n ring g 12 (orF s m)) l := by
   refine rsum_congr fun m hmm => ?_
   obtain ⟨e3, rfl⟩ : ∃ e3, d = e3 + 1 := by
    cases d with
    | zero => exact absurd (hm m hmm).1 (by simp [fldOk])
    | succ e3 => exact ⟨e3, rfl⟩
   exact vEd_fuel g e3 12 (orF s m) (hm m hmm).1 (by omega)
  rw [e1, e2]
  generalize rsum (fun m => vEd k n ring g 12 (orF s m)) l = z
  grind
end
/-- A call through a function value, in a plain region. -/
theorem callL_ {P : Program} {ops : Array Oper} {rest : List Oper} {oi : Oper} {a : Act} {w : World} {Q : Exit → Act → World → Prop} (N : Option Tmp) (hd : oi.dst = N) (hg : oi.guard = none) (f : FuncId) (args : Array Value)
  (hrun : (execOp a.eval oi).run P w = .ok (.enter f args) w)
  (h : Calls P f args w fun e w' => ∃ v, e = .returned v ∧ wpList P ops Q rest (a.put N v) w') : wpList P ops Q (oi :: rest) a w := by
 refine wpList_plain hg fun K hK => ?_
 unfold Oper.wp
 rw [hrun, Oper.upon_enter]
 refine h.mono fun e w'' hh => ?_
 obtain ⟨v, rfl, hk⟩ := hh
 subst hd
 exact hK _ _ hk
/-- The factorial. -/
def fct : Nat → Nat
 | 0 => 1
 | n + 1 => (n + 1) * fct n
theorem fct_dvd : ∀ {a b : Nat}, a ≤ b → fct a ∣ fct b
 | a, 0, h => by
  obtain rfl : a = 0 := by omega
  exact Nat.dvd_refl _
 | a, b + 1, h => by
  by_cases e : a = b + 1
  ·subst e; exact Nat.dvd_refl _
  ·exact Nat.dvd_trans (fct_dvd (b := b) (by omega)) ⟨b + 1, by rw [fct, Nat.mul_comm]⟩
/-- An entry on its way: more than nothing, to be parted among the next ones without rest. -/
def Okp (k : Nat) (n : Int) (ring : Bool) (d : Nat) (p : Lit × DataW Unit) : Prop := 0 < vx p.2 ∧ fldOk k n ring d (kx p.1) ∧ ∃ c : Int, vx p.2 = c * ((fct (nxF k n ring (kx p.1)).length : Nat) : Int)
/-- The two maps that grow: the ends' (block bE) and the next one (block bL); what they come to is X (by a weight) and Y. -/
structure Fi (k : Nat) (n : Int) (ring : Bool) (w wr : World) (bE cE : Nat) (esE : List (Lit × DataW Unit)) (bL cL : Nat) (esL : List (Lit × DataW Unit)) (d : Nat) (X : (Int → Rat) → Rat) (Y : Int) : Prop where
 ownE : wr.ownsMap Tryd.prog 56 (plainElem Tryd.prog 3) bE cE (.map esE)
 ownL : wr.ownsMap Tryd.prog 56 (plainElem Tryd.prog 3) bL cL (.map esL)
 ne : bE ≠ bL
 loE : w.heap.size ≤ bE
 loL : w.heap.size ≤ bL
 bel : Below w.heap.size w wr
 posE : ∀ p ∈ esE, 0 < vx p.2
 okL : ∀ p ∈ esL, Okp k n ring d p
 sum : ∀ g, rws (vE k n ring g) esL + rws g esE = X g
 one : ws (fun _ => 1) esL + ws (fun _ => 1) esE = Y
 keyE : ∀ p ∈ esE, ∃ x : Int, p.1 = Lit.int .u32 x ∧ 0 ≤ x ∧ x < 4294967296
section
variable {k : Nat} {n : Int} {ring : Bool} {w wr w' : World} {bE cE bL cL d : Nat} {esE esL : List (Lit × DataW Unit)} {X : (Int → Rat) → Rat} {Y : Int}
theorem Fi.size (h : Fi k n ring w wr bE cE esE bL cL esL d X Y) : w.heap.size ≤ wr.heap.size := below_size h.bel
theorem Fi.step (h : Fi k n ring w wr bE cE esE bL cL esL d X Y) (hb : Below wr.heap.size wr w') : Fi k n ring w w' bE cE esE bL cL esL d X Y :=
 ⟨h.ownE.kept (grown_of_below hb none) (by simp), h.ownL.kept (grown_of_below hb none) (by simp), h.ne, h.loE, h.loL, below_step h.bel hb, h.posE, h.okL, h.sum, h.one, h.keyE⟩
theorem Fi.keep (h : Fi k n ring w wr bE cE esE bL cL esL d X Y) {row : Option Nat} (hg : wr.grownBy w' row) (hE : some bE ≠ row) (hL : some bL ≠ row) (hr : ∀ j, row = some j → w.heap.size ≤ j) : Fi k n ring w w' bE cE esE bL cL esL d X Y :=
 ⟨h.ownE.kept hg hE, h.ownL.kept hg hL, h.ne, h.loE, h.loL, h.bel.grown hg h.size hr, h.posE, h.okL, h.sum, h.one, h.keyE⟩
theorem Fi.to (h : Fi k n ring w wr bE cE esE bL cL esL d X Y) {X' : (Int → Rat) → Rat} {Y' : Int} {cE' cL' : Nat} (hX : ∀ g, X g = X' g) (hY : Y = Y') (h1 : cE ≤ cE') (h2 : cL ≤ cL') : Fi k n ring w wr bE cE' esE bL cL' esL d X' Y' :=
 ⟨h.ownE.mono h1, h.ownL.mono h2, h.ne, h.loE, h.loL, h.bel, h.posE, h.okL, fun g => (h.sum g).trans (hX g), h.one.trans hY, h.keyE⟩
theorem Fi.pairE (h : Fi k n ring w wr bE cE esE bL cL esL d X Y) : esE.Pairwise (fun p q => p.1 ≠ q.1) := by obtain ⟨es', e, h, _⟩ := h.ownE.entries law56; cases e; exact h
theorem Fi.pairL (h : Fi k n ring w wr bE cE esE bL cL esL d X Y) : esL.Pairwise (fun p q => p.1 ≠ q.1) := by obtain ⟨es', e, h, _⟩ := h.ownL.entries law56; cases e; exact h
theorem ws_nonneg : ∀ {l : List (Lit × DataW Unit)}, (∀ p ∈ l, 0 < vx p.2) → 0 ≤ ws (fun _ => 1) l
 | [], _ => by simp [ws]
 | p :: r, h => by
  have h1 := h p (by simp)
  have h2 := ws_nonneg (l := r) fun q hq => h q (by simp [hq])
  simp only [ws]
  omega
/-- What is looked up is within the sum. -/
theorem Fi.atE (h : Fi k n ring w wr bE cE esE bL cL esL d X Y) {x c : Int} (hat : (DataW.map esE).atKey (.int .u32 x) (.lit (.int .i64 0)) = .lit (.int .i64 c)) : 0 ≤ c ∧ c ≤ Y := by
 have h1 := at_le (fun p hp => Int.le_of_lt (h.posE p hp)) hat
 have h2 := ws_nonneg (fun p hp => (h.okL p hp).1)
 have h3 := h.one
 omega
theorem Fi.atL (h : Fi k n ring w wr bE cE esE bL cL esL d X Y) {x c : Int} (hat : (DataW.map esL).atKey (.int .u32 x) (.lit (.int .i64 0)) = .lit (.int .i64 c)) : 0 ≤ c ∧ c ≤ Y := by
 have h1 := at_le (fun p hp => Int.le_of_lt (h.okL p hp).1) hat
 have h2 := ws_nonneg h.posE
 have h3 := h.one
 omega
theorem Fi.putE (h : Fi k n ring w wr bE cE esE bL cL esL d X Y) {x c v : Int} (hx : 0 ≤ x ∧ x < 4294967296) (hat : (DataW.map esE).atKey (.int .u32 x) (.lit (.int .i64 0)) = .lit (.int .i64 c)) (hv : 0 < v) (hm : w'.ownsMap Tryd.prog 56 (plainElem Tryd.prog 3) bE (cE + 1) ((DataW.map esE).put (.int .u32 x) (.lit (.int .i64 (c + v))))) (hg : wr.grownBy w' (some bE)) :
  Fi k n ring w w' bE (cE + 1) (ents ((DataW.map esE).put (.int .u32 x) (.lit (.int .i64 (c + v))))) bL cL esL d (fun g => X g + (v : Rat) * g x) (Y + v) := by
 have hc := (h.atE hat).1
 refine ⟨hm, h.ownL.kept hg (fun e => h.ne (Option.some.inj e).symm), h.ne, h.loE, h.loL, h.bel.grown hg h.size (fun j hj => by cases hj; exact h.loE), fun p hp => ?_, h.okL, fun g => ?_, ?_, fun p hp => ?_⟩
 ·rcases mem_put hp with rfl | hp
  ·show 0 < c + v
   omega
  ·exact h.posE p hp
 ·rw [rws_put g h.pairE hat, ← h.sum g]
  grind
 ·rw [ws_put (fun _ => 1) h.pairE hat]
  have := h.one
  omega
 ·rcases mem_put hp with rfl | hp
  ·exact ⟨x, rfl, hx⟩
  ·exact h.keyE p hp
theorem Fi.putL (h : Fi k n ring w wr bE cE esE bL cL esL d X Y) {x c v : Int} (hat : (DataW.map esL).atKey (.int .u32 x) (.lit (.int .i64 0)) = .lit (.int .i64 c)) (hv : 0 < v) (hk : fldOk k n ring d x) (hd : ∃ q : Int, v = q * ((fct (nxF k n ring x).length : Nat) : Int)) (hm : w'.ownsMap Tryd.prog 56 (plainElem Tryd.prog 3) bL (cL + 1) ((DataW.map esL).put (.int .u32 x) (.lit (.int .i64 (c + v))))) (hg : wr.grownBy w' (some bL)) :
  Fi k n ring w w' bE cE esE bL (cL + 1) (ents ((DataW.map esL).put (.int .u32 x) (.lit (.int .i64 (c + v))))) d (fun g => X g + (v : Rat) * vE k n ring g x) (Y + v) := by
 have hc := (h.atL hat).1
 refine ⟨h.ownE.kept hg (fun e => h.ne (Option.some.inj e)), hm, h.ne, h.loE, h.loL, h.bel.grown hg h.size (fun j hj => by cases hj; exact h.loL), h.posE, fun p hp => ?_, fun g => ?_, ?_, h.keyE⟩
 ·rcases mem_put hp with rfl | hp
  ·refine ⟨by show 0 < c + v; omega, hk, ?_⟩
   show ∃ q : Int, c + v = q * ((fct (nxF k n ring x).length : Nat) : Int)
   obtain ⟨q, hq⟩ := hd
   have hc2 : ∃ q2 : Int, c = q2 * ((fct (nxF k n ring x).length : Nat) : Int) := by
    simp only [DataW.atKey] at hat
    cases e : esL.find? (fun p => p.1.sameKey (.int .u32 x)) with
    | none =>
     rw [e] at hat
     simp only [DataW.lit.injEq, Lit.int.injEq, true_and] at hat
     exact ⟨0, by omega⟩
    | some p =>
     rw [e] at hat
     have hkk := WideAt.sameKey_eq (by simpa using List.find?_some e)
     have hmem := List.mem_of_find?_eq_some e
     obtain ⟨-, -, q2, hq2⟩ := h.okL p hmem
     simp only at hat
     rw [hkk, hat] at hq2
     exact ⟨q2, hq2⟩
   obtain ⟨q2, hq2⟩ := hc2
   exact ⟨q2 + q, by rw [Int.add_mul, ← hq, ← hq2]⟩
  ·exact h.okL p hp
 ·rw [rws_put (vE k n ring g) h.pairL hat, ← h.sum g]
  grind
 ·rw [ws_put (fun _ => 1) h.pairL hat]
  have := h.one
  omega
end
/-- The maps ahead of a level. -/
structure Fo (k : Nat) (n : Int) (ring : Bool) (T : Int) (w wr : World) (bE cE : Nat) (esE : List (Lit × DataW Unit)) (B c : Nat) (es : List (Lit × DataW Unit)) (d : Nat) : Prop where
 fi : Fi k n ring w wr bE cE esE B c es d (fun g => 479001600 * vE k n ring g T) 479001600
theorem Fi.empty {k : Nat} {n : Int} {ring : Bool} {w wr : World} {bE cE bL cL d : Nat} {esE : List (Lit × DataW Unit)} {X : (Int → Rat) → Rat} {Y : Int} (h : Fi k n ring w wr bE cE esE bL cL [] d X Y) : Fi k n ring w wr bE cE esE bL cL [] 0 X Y :=
 ⟨h.ownE, h.ownL, h.ne, h.loE, h.loL, h.bel, h.posE, fun p hp => (by cases hp), h.sum, h.one, h.keyE⟩
theorem pow14 {j : Nat} (h : j ≤ 13) : 14 ^ j ≤ 793714773254144 := by
 have h1 : 14 ^ j ≤ 14 ^ 13 := Nat.pow_le_pow_right (by omega) h
 have e : 14 ^ 13 = 793714773254144 := by decide
 omega
theorem filled_calls (k : Nat) (n : Int) (ring : Bool) (T : Int) (w : World) (hT : XTab w) (hk : fldOk k n ring 13 T) :
  Calls Tryd.prog 57 #[.int .u32 T, .func (.func 58) #[.agg #[.int .i64 n, .bool ring]] #[]] w fun e w' => ∃ (bE cE : Nat) (esE : List (Lit × DataW Unit)) (B c : Nat), e = .returned (.map (some bE)) ∧ Fi k n ring w w' bE cE esE B c [] 0 (fun g => 479001600 * vE k n ring g T) 479001600 := by
 have hmm := @run_makeMap Tryd.prog
 have hTr : 0 ≤ T ∧ T < 4294967296 := hk.1
 have hcn : (nxF k n ring T).length ≤ 12 := by
  obtain ⟨-, l, hl, h12, -⟩ := hk
  rw [nx_of hl]
  exact h12
 have HT := A_.mk hT
 have HK := A_.mk hk
 have HTr := A_.mk hTr
 have HCN := A_.mk hcn
 have HB := A_.mk (Below.refl w.heap.size w)
 clear hT hk hTr hcn
 have E0 := A_.mk (show (w.alloc (.map #[] 0)).ownsMap Tryd.prog 56 (plainElem (H := Unit) Tryd.prog 3) w.heap.size 0 (.map []) from World.ownsMap_made _ _ _ _)
 have E1 := A_.mk (E0.out.alloc (.map #[] 0))
 have M0 := A_.mk (show ((w.alloc (.map #[] 0)).alloc (.map #[] 0)).ownsMap Tryd.prog 56 (plainElem (H := Unit) Tryd.prog 3) (w.alloc (.map #[] 0)).heap.size 0 (.map []) from World.ownsMap_made _ _ _ _)
 have BA := A_.mk (below_alloc (below_alloc HB.out (.map #[] 0)) (.map #[] 0))
 have e1 : (w.alloc (.map #[] 0)).heap.size = w.heap.size + 1 := by simp
 rw [e1] at M0
 go_enter Tryd.func57, Tryd.ntmps57
 go_wp2_with (refine wpList_insert_own _ rfl _ _ _ 53 rfl 56 3 law56 Tryd.underlying53 _ (w.heap.size + 1) _ _ (by rfl) M0.out (by decide) _ _ _ rfl rfl (keyOf_int_mk Tryd.underlying56 (wf32 HTr.out.1 HTr.out.2)) _ [] (plainElem_int Tryd.underlying3 (wf64 (by omega) (by omega))) ?_; intro w5 hm5 hg5; have M5 := A_.mk hm5; have G5 := A_.mk hg5; clear hm5 hg5)
 have F0 := A_.mk (show Fi k n ring w w5 w.heap.size 0 [] (w.heap.size + 1) 1 [(.int .u32 T, .lit (.int .i64 479001600))] 13 (fun g => 479001600 * vE k n ring g T) 479001600 from by
  have hg := G5.out
  refine ⟨E1.out.kept hg (fun e => by have := Option.some.inj e; omega), M5.out, by omega, Nat.le_refl _, Nat.le_succ _, BA.out.grown hg (below_size BA.out) (fun j hj => by cases hj; omega), fun p hp => (by cases hp), fun p hp => ?_, fun g => ?_, ?_, fun p hp => (by cases hp)⟩
  ·rw [List.mem_singleton] at hp
   subst hp
   refine ⟨by simp [vx], HK.out, ?_⟩
   obtain ⟨q, hq⟩ := fct_dvd HCN.out
   exact ⟨(q : Int), by
    show (479001600 : Int) = (q : Int) * ((fct (nxF k n ring T).length : Nat) : Int)
    have h12 : fct 12 = 479001600 := by decide
    rw [h12, Nat.mul_comm] at hq
    have := congrArg (fun z : Nat => (z : Int)) hq
    rw [Int.natCast_mul] at this
    exact this⟩
  ·simp only [rws, vx, kx]
   grind
  ·simp [ws, vx])
 clear E0 E1 M0 BA M5 G5 e1
 obtain ⟨bE, hbE⟩ : ∃ b, b = w.heap.size := ⟨_, rfl⟩
 have F1 := F0.out
 generalize w.heap.size + 1 = B0 at F1 ⊢
 have F2 := A_.mk (show Fi k n ring w w5 bE 0 [] B0 1 [(.int .u32 T, .lit (.int .i64 479001600))] 13 (fun g => 479001600 * vE k n ring g T) 479001600 from hbE ▸ F1)
 clear F0 F1
 rw [← hbE]
 clear hbE
 go_wp2
 go_loopg [6] 15 (fun kq v6 w' => ∃ (j B c cE : Nat) (es esE : List (Lit × DataW Unit)), v6 = .map (some B) ∧ A_ (j + kq = 15) ∧ A_ (j ≤ 13) ∧ A_ (Fi k n ring w w' bE cE esE B c es (13 - j) (fun g => 479001600 * vE k n ring g T) 479001600) ∧ A_ (cE ≤ 14 ^ j ∧ c ≤ 14 ^ j))
 case atStart => exact ⟨0, B0, 1, 0, _, _, rfl, ⟨rfl⟩, ⟨by omega⟩, F2, ⟨by omega, by omega⟩⟩
 case round =>
  clear F2
  rename World => wo
  obtain ⟨j, B, c, cE, es, esE, rfl, hjk, hj, HF, HC⟩ := hrel
  obtain ⟨kj, hkj⟩ : ∃ kj, kj = gk := ⟨_, rfl⟩
  subst hkj
  by_cases hes : es = []
  ·subst hes
   have hsz : Maps.size (DataW.map ([] : List (Lit × DataW Unit))) = 0 := rfl
   go_wp2_with (first
    | (at_len; refine wpList_len_own _ rfl _ 53 rfl 56 3 Tryd.underlying53 _ B c _ rfl HF.out.ownL ?_)
    | go_in)
   go_ret
   exact ⟨_, _, _, _, _, rfl, HF.out.empty⟩
  ·obtain ⟨d, hd⟩ : ∃ d, 13 - j = d + 1 := by
    rcases Nat.eq_zero_or_pos (13 - j) with h0 | h0
    ·exfalso
     cases es with
     | nil => exact hes rfl
     | cons p r =>
      have := (HF.out.okL p (by simp)).2.1
      rw [h0] at this
      exact this
    ·exact ⟨13 - j - 1, by omega⟩
   have hj12 : j ≤ 12 := by omega
   have Hd := A_.mk hd
   have Hj := A_.mk hj12
   have HF2 := HF.out
   rw [hd] at HF2
   have HFd := A_.mk HF2
   have hpos : 0 < Maps.size (DataW.map es) := by
    cases es with
    | nil => exact absurd rfl hes
    | cons p r => simp [Maps.size]
   have c5 : decide (0 < Maps.size (DataW.map es)) = true := decide_eq_true hpos
   have NX0 := A_.mk (show (wo.alloc (.map #[] 0)).ownsMap Tryd.prog 56 (plainElem (H := Unit) Tryd.prog 3) wo.heap.size 0 (.map []) from World.ownsMap_made _ _ _ _)
   have NW0 := A_.mk (HFd.out.ownL.alloc (.map #[] 0))
   have NE0 := A_.mk (HFd.out.ownE.alloc (.map #[] 0))
   have HB0 := A_.mk (below_alloc HFd.out.bel (.map #[] 0))
   have e1 : (wo.alloc (.map #[] 0)).heap.size = wo.heap.size + 1 := by simp
   clear hes hd hj12 HF2 HF
   go_wp2_with (first
    | (at_len; refine wpList_len_own _ rfl _ 53 rfl 56 3 Tryd.underlying53 _ B c _ rfl HFd.out.ownL ?_)
    | (at_range; refine wpList_range_own _ rfl _ 53 rfl 56 3 law56 Tryd.underlying53 _ B c _ rfl NW0.out ?_; intro w6 hrg6 hg6 hs6)
    | go_in)
   go_frame
   rw [e1] at hrg6 hs6 ⊢
   have hpw := HFd.out.pairL
   have hkl : ∀ p ∈ es, WideAt.IsKeyLit p.1 := by obtain ⟨es', e, _, h⟩ := HFd.out.ownL.entries law56; cases e; exact h
   have HPW := A_.mk hpw
   have HKL := A_.mk hkl
   have HSZ := A_.mk HFd.out.ownL.size_le
   have HBlt := A_.mk HFd.out.ownL.lt
   have HElt := A_.mk HFd.out.ownE.lt
   have hwr := A_.mk HFd.out.size
   have hd13 : d ≤ 12 := by have := Hd.out; omega
   have Hd13 := A_.mk hd13
   have X6 : A_ (Fi k n ring w w6 bE (cE + (Maps.size (.map es) - Maps.size (.map es))) esE wo.heap.size (12 * (Maps.size (.map es) - Maps.size (.map es))) [] d (fun g => rws g esE + rwl (vE k n ring g) (Maps.has (.map es)) es) (ws (fun _ => 1) esE + wl (fun _ => 1) (Maps.has (.map es)) es)) := ⟨⟨(NE0.out.kept hg6 (by simp)).mono (Nat.le_add_right _ _), (NX0.out.kept hg6 (by simp)).mono (Nat.zero_le _), by have := HElt.out; omega, HFd.out.loE, hwr.out, HB0.out.grown hg6 (below_size HB0.out) (fun j hj => by cases hj), HFd.out.posE, fun p hp => (by cases hp), fun g => by
    rw [rwl_start _ es es fun p hp => ⟨hp, hkl p hp⟩]
    simp only [rws]
    grind, by
    rw [wl_start _ es es fun p hp => ⟨hp, hkl p hp⟩]
    simp only [ws]
    omega, HFd.out.keyE⟩⟩
   have RG6 := A_.mk hrg6
   have hs6' : wo.heap.size + 1 < w6.heap.size := by omega
   have HS6 := A_.mk hs6'
   clear hpw hkl hrg6 hs6 hg6 NX0 NW0 NE0 HB0 hs6' e1 hd13 hpos
   go_loopg [8] (Maps.size (.map es)) (fun kq v8 w' => ∃ (left : Lit → Bool) (esE2 esL : List (Lit × DataW Unit)), A_ (w'.ranges Tryd.prog 56 (plainElem Tryd.prog 3) B (wo.heap.size + 1) c (.map es) left kq) ∧ A_ (kq ≤ Maps.size (.map es)) ∧ A_ (Fi k n ring w w' bE (cE + (Maps.size (.map es) - kq)) esE2 wo.heap.size (12 * (Maps.size (.map es) - kq)) esL d (fun g => rws g esE + rwl (vE k n ring g) left es) (ws (fun _ => 1) esE + wl (fun _ => 1) left es)) ∧ A_ (wo.heap.size + 1 < w'.heap.size))
   case atStart => exact ⟨_, esE, [], RG6, ⟨Nat.le_refl _⟩, X6, HS6⟩
   case round =>
    clear RG6 X6 HS6
    obtain ⟨left, esE2, esL, RG, HKQ, HX, HSq⟩ := hrel
    go_wp2_with (first
     | (at_next; refine wpList_next_ranges_ii _ rfl _ rfl 56 3 .u32 .i64 law56 Tryd.underlying56 Tryd.underlying3 B (wo.heap.size + 1) c _ _ _ rfl RG.out ?_ ?_)
     | go_in)
    ·intro hc0 hl0
     have HL0 := A_.mk hl0
     clear hc0 hl0
     go_wp2
     go_roundg (kj - 1)
     case measure => have := hjk.out; have := Hj.out; omega
     case rel => exact ⟨j + 1, wo.heap.size, 12 * (Maps.size (.map es) - gk), cE + (Maps.size (.map es) - gk), esL, esE2, rfl, ⟨by have := hjk.out; have := Hj.out; omega⟩, ⟨by have := Hj.out; omega⟩, ⟨by
       have e13 : 13 - (j + 1) = d := by have := Hd.out; omega
       rw [e13]
       refine HX.out.to (fun g => ?_) ?_ (Nat.le_refl _) (Nat.le_refl _)
       ·have h1 := HFd.out.sum g
        rw [rwl_end _ HL0.out es]
        grind
       ·have h1 := HFd.out.one
        rw [wl_end _ HL0.out es]
        omega⟩, ⟨by have h1 := HC.out; have h2 := HSZ.out; rw [Nat.pow_succ]; omega⟩⟩
    ·intro x cx w7 cnt7 hwx hwc hlx hat hrg7 hlt7 hg7 hs7 hen
     have HLX := A_.mk hlx
     have HAT := A_.mk (at_mem hat)
     have RG7 := A_.mk hrg7
     have HLT7 := A_.mk hlt7
     have X7 := A_.mk (HX.out.keep hg7 (by have := HElt.out; intro e; have := Option.some.inj e; omega) (by intro e; have := Option.some.inj e; omega) (fun j hj => by cases hj; have := hwr.out; omega))
     have HS7 := A_.mk (show wo.heap.size + 1 < w7.heap.size by rw [hs7]; exact HSq.out)
     obtain ⟨hcx, hfx, qx, hqx⟩ := HFd.out.okL _ HAT.out
     simp only [vx, kx] at hcx hfx hqx
     have hfx2 := hfx
     obtain ⟨hxr, lx, hlx2, hl12, hmx⟩ := hfx2
     rw [nx_of hlx2] at hqx
     have HCX := A_.mk hcx
     have HFX := A_.mk hfx
     have HQX := A_.mk hqx
     have HXR := A_.mk hxr
     have HLX2 := A_.mk hlx2
     have HL12 := A_.mk hl12
     have HMX := A_.mk hmx
     have HXT := A_.mk (XTab.below HT.out X7.out.bel)
     have HST := A_.mk (fun g => rwl_step g left (q := .i64) (c := cx) (k := .int .u32 x) trivial HLX.out HPW.out HAT.out)
     have HST1 := A_.mk (wl_step (fun _ => 1) left (q := .i64) (c := cx) (k := .int .u32 x) trivial HLX.out HPW.out HAT.out)
     have HTOT := A_.mk (show ws (fun _ => 1) esE + wl (fun _ => 1) left es + cx ≤ 479001600 from by
      have h1 := HFd.out.one
      have h2 := (wl_le (fun _ => 1) (left := fun z => left z && !z.sameKey (.int .u32 x)) es (fun p hp => by have := (HFd.out.okL p hp).1; omega)).2
      have h3 := HST1.out
      omega)
     obtain ⟨ki, hki⟩ : ∃ ki, ki = gk := ⟨_, rfl⟩
     subst hki
     clear hwx hwc hlx hat hrg7 hlt7 hg7 hs7 hcx hfx hqx hxr hlx2 hl12 hmx HX RG HSq
     go_upto_region 8 with (((with_reducible refine gate_dst (N := 30) rfl ?_); refine callL_ (some 30) rfl rfl 58 #[.agg #[.int .i64 n, .bool ring], .int .u32 x] ?hrun ?_; (case hrun => (have he := enters_ (P := Tryd.prog) Tryd.func58 (by kernel_rfl) rfl #[.agg #[.int .i64 n, .bool ring], .int .u32 x] w7); unfold execOp; simp [resolve, Deferred.ofValue, invoke, Act.eval, he]); (with_reducible refine (impl_bench_singles.calls k n ring x lx w7 HXT.out HLX2.out).mono ?_); rintro e w8 ⟨v8, rfl, hr, hb⟩; refine ⟨_, rfl, ?_⟩; have R8 := A_.mk (Kd.R_mono (ok' := fun k_ => w7.heap.size ≤ k_) (Kd.R_bound hr) (fun k_ hk => hk.2.1)); have X8 := A_.mk (X7.out.step hb); have RG8 := A_.mk (RG7.out.kept (grown_of_below hb none) (by simp) (by simp)); have HS8 := A_.mk (Nat.lt_of_lt_of_le HS7.out hb.size); clear hr hb))
     obtain ⟨A8, d8, e8⟩ := Kd.R_slice R8.out
     subst e8
     have HSZ8 := A_.mk (show cE + (Maps.size (.map es) - ki) < maxLen ∧ 12 * (Maps.size (.map es) - ki) + 13 < maxLen from by
      have h1 := HC.out
      have h2 := HSZ.out
      have h3 := pow14 (Nat.le_trans Hj.out (by omega : 12 ≤ 13))
      unfold maxLen
      omega)
     have hHE := A_.mk (show some bE ≠ some B ∧ some bE ≠ some (wo.heap.size + 1) from ⟨fun e => HFd.out.ne (Option.some.inj e), fun e => by have := Option.some.inj e; have := HElt.out; omega⟩)
     clear X7 RG7
     go_upto_if 33 with fail
     go_cut [34] (fun v34 wc => ∃ esE3 : List (Lit × DataW Unit), A_ (Fi k n ring w wc bE (cE + (Maps.size (.map es) - ki) + 1) esE3 wo.heap.size (12 * (Maps.size (.map es) - ki)) esL d (fun g => rws g esE + rwl (vE k n ring g) left es + (if lx = [] then (cx : Rat) * g x else 0)) (ws (fun _ => 1) esE + wl (fun _ => 1) left es + (if lx = [] then cx else 0))) ∧ A_ (wc.ranges Tryd.prog 56 (plainElem (H := Unit) Tryd.prog 3) B (wo.heap.size + 1) c (.map es) (fun z => left z && !z.sameKey (.int .u32 x)) cnt7) ∧ A_ (wo.heap.size + 1 < wc.heap.size) ∧ A_ (Kd.R (Kd.int .u32) 56 wc w7.heap.size (fun k_ => w7.heap.size ≤ k_) (.slice A8 lx.length d8) lx))
     case first =>
      by_cases hlx0 : lx = []
      ·have c7 : ((lx.length : Int) == 0) = true := by rw [hlx0]; rfl
       have HLX0 := A_.mk hlx0
       clear hlx0
       go_wp2_with (first
        | (at_lookup; refine wpList_lookup_own_int _ rfl _ _ 53 rfl 56 3 .i64 law56 Tryd.underlying53 Tryd.underlying3 (zero3 _) bE _ _ rfl X8.out.ownE _ _ rfl (keyOf_int_mk Tryd.underlying56 (wf32 HXR.out.1 HXR.out.2)) ?_; intro c0 hat0 hwc0; have HAT0 := A_.mk hat0; have HC0 := A_.mk (X8.out.atE hat0); have hw0 : IntKind.i64.wrap (c0 + cx) = c0 + cx := (by rw [IntKind.wrap_i64]; have := HC0.out; have := HTOT.out; have := HCX.out; omega); clear hat0 hwc0)
        | (at_mapUpdate; refine wpList_mapUpdate_own _ rfl _ _ _ 53 rfl 56 3 law56 Tryd.underlying53 _ bE _ _ rfl X8.out.ownE HSZ8.out.1 _ _ _ rfl rfl (keyOf_int_mk Tryd.underlying56 (wf32 HXR.out.1 HXR.out.2)) _ [] (plainElem_int Tryd.underlying3 (wf64 (by have := HC0.out; have := HCX.out; omega) (by have := HC0.out; have := HTOT.out; have := HCX.out; omega))) ?_; intro w9 hm9 hg9; have X9 := A_.mk (X8.out.putE HXR.out HAT0.out HCX.out hm9 hg9); have RG9 := A_.mk (RG8.out.kept hg9 hHE.out.1.symm hHE.out.2.symm); have HS9 := A_.mk (Nat.lt_of_lt_of_le HS8.out hg9.size); have R9 := A_.mk (Kd.R_grown R8.out hg9 (fun k_ hk e => by have := Option.some.inj e; have := HElt.out; have := HS7.out; omega)); clear hm9 hg9)
        | go_in)
       go_meet
       case rel => exact ⟨_, ⟨X9.out.to (fun g => by rw [if_pos HLX0.out]) (by rw [if_pos HLX0.out]) (Nat.le_refl _) (Nat.le_refl _)⟩, RG9, HS9, R9⟩
      ·have c7 : ((lx.length : Int) == 0) = false := beq_eq_false_iff_ne.mpr (fun e => hlx0 (List.eq_nil_of_length_eq_zero (by omega)))
       have HLX0 := A_.mk hlx0
       clear hlx0
       go_wp2
       go_meet
       case rel => exact ⟨_, ⟨X8.out.to (fun g => by rw [if_neg HLX0.out]; grind) (by rw [if_neg HLX0.out, Int.add_zero]) (Nat.le_succ _) (Nat.le_refl _)⟩, RG8, HS8, R8⟩
     case rest =>
     obtain ⟨esE3, X9, RG9, HS9, R9⟩ := hcut
     clear X8 RG8 HS8 R8
     rename World => w9
     -- the list
     obtain ⟨q, hq0, hq1, hq2⟩ : ∃ q : Int, (lx ≠ [] → cx = q * (lx.length : Int)) ∧ (lx ≠ [] → 0 < q) ∧ (∀ m ∈ lx, ∃ r : Int, q = r * ((fct (nxF k n ring (orF x m)).length : Nat) : Int)) := by
      by_cases hl0 : lx = []
      ·exact ⟨0, fun h => absurd hl0 h, fun h => absurd hl0 h, fun m hm => by rw [hl0] at hm; cases hm⟩
      ·obtain ⟨L, hL⟩ : ∃ L, lx.length = L + 1 := ⟨lx.length - 1, by have := List.length_pos_iff.2 hl0; omega⟩
       have h1 := HQX.out
       rw [hL, fct] at h1
       have h2 : cx = (qx * ((fct L : Nat) : Int)) * (lx.length : Int) := by
        rw [h1, hL, Int.natCast_mul, Int.mul_assoc, Int.mul_comm ((L + 1 : Nat) : Int)]
       refine ⟨qx * ((fct L : Nat) : Int), fun _ => h2, fun _ => ?_, fun m hm => ?_⟩
       ·have h3 := HCX.out
        rw [h2] at h3
        exact Int.pos_of_mul_pos_left h3 (by omega)
       ·obtain ⟨r, hr⟩ := fct_dvd (show (nxF k n ring (orF x m)).length ≤ L by have := (HMX.out m hm).2; omega)
        exact ⟨qx * (r : Int), by rw [hr, Int.natCast_mul, Int.mul_assoc, Int.mul_comm (r : Int)]⟩
     have HQ0 := A_.mk hq0
     have HQ1 := A_.mk hq1
     have HQ2 := A_.mk hq2
     have X10 := A_.mk (X9.out.to (X' := fun g => rws g esE + rwl (vE k n ring g) left es + ((if lx = [] then (cx : Rat) * g x else 0) + rsum (fun m => (q : Rat) * vE k n ring g (orF x m)) (lx.take 0))) (Y' := ws (fun _ => 1) esE + wl (fun _ => 1) left es + ((if lx = [] then cx else 0) + q * ((0 : Nat) : Int))) (cE' := cE + (Maps.size (.map es) - ki) + 1) (cL' := 12 * (Maps.size (.map es) - ki) + 0) (fun g => by simp only [List.take_zero, rsum]; grind) (by omega) (Nat.le_refl _) (Nat.le_refl _))
     clear hq0 hq1 hq2 X9
     go_wp2
     go_loopg [41] (lx.length + 1) (fun kq v41 w' => ∃ (t : Nat) (esL2 : List (Lit × DataW Unit)), v41 = .int .i64 (t : Int) ∧ A_ (t + kq = lx.length + 1) ∧ A_ (t ≤ lx.length) ∧ A_ (Fi k n ring w w' bE (cE + (Maps.size (.map es) - ki) + 1) esE3 wo.heap.size (12 * (Maps.size (.map es) - ki) + t) esL2 d (fun g => rws g esE + rwl (vE k n ring g) left es + ((if lx = [] then (cx : Rat) * g x else 0) + rsum (fun m => (q : Rat) * vE k n ring g (orF x m)) (lx.take t))) (ws (fun _ => 1) esE + wl (fun _ => 1) left es + ((if lx = [] then cx else 0) + q * (t : Int)))) ∧ A_ (w'.ranges Tryd.prog 56 (plainElem (H := Unit) Tryd.prog 3) B (wo.heap.size + 1) c (.map es) (fun z => left z && !z.sameKey (.int .u32 x)) cnt7) ∧ A_ (wo.heap.size + 1 < w'.heap.size) ∧ A_ (Kd.R (Kd.int .u32) 56 w' w7.heap.size (fun k_ => w7.heap.size ≤ k_) (.slice A8 lx.length d8) lx))
     case atStart => exact ⟨0, esL, rfl, ⟨by omega⟩, ⟨by omega⟩, X10, RG9, HS9, R9⟩
     case round =>
      clear X10 RG9 HS9 R9
      obtain ⟨t, esL2, rfl, htk, htl, X, RG, HS, RR⟩ := hrel
      rename World => wt
      obtain ⟨kt, hkt⟩ : ∃ kt, kt = gk := ⟨_, rfl⟩
      subst hkt
      by_cases hlt : t < lx.length
      ·have c6 : decide (t < lx.length) = true := decide_eq_true hlt
       have hl0 : lx ≠ [] := fun e => by rw [e] at hlt; exact absurd hlt (Nat.not_lt_zero _)
       have Hl0 := A_.mk hl0
       obtain ⟨ad, e, hcell⟩ := Kd.at_int (Kd.R_reads' RR.out).2.2 (t : Int) (by omega) (by omega)
       cases e
       rw [Int.toNat_natCast] at hcell
       obtain ⟨m, hm⟩ : ∃ m, lx[t] = m := ⟨_, rfl⟩
       have hrd : rd lx (t : Int) = m := by rw [← hm]; simp [rd, List.getD, hlt]
       rw [hrd] at hcell
       have Hm := A_.mk (show m ∈ lx from hm ▸ List.getElem_mem hlt)
       have Htake := A_.mk (show lx.take (t + 1) = lx.take t ++ [m] by rw [← hm]; simp)
       have hq := HQ0.out hl0
       have HQ := A_.mk hq
       have hlen : 0 < lx.length := by omega
       have hquo : Int.tdiv cx (lx.length : Int) = q := by rw [hq, Int.mul_tdiv_cancel _ (by omega)]
       have hqb : 0 < q ∧ q ≤ 479001600 := by
        have h1 := HQ1.out hl0
        have h2 := HTOT.out
        have h3 := ws_nonneg HFd.out.posE
        have h4 := (wl_le (fun _ => 1) (left := left) es (fun p hp => by have := (HFd.out.okL p hp).1; omega)).1
        have h5 : q * 1 ≤ q * (lx.length : Int) := Int.mul_le_mul_of_nonneg_left (by omega) (by omega)
        omega
       have HQB := A_.mk hqb
       have hwq : wrap64 q = q := by unfold wrap64; omega
       have hnz : ((lx.length : Int) = 0) = False := eq_false (by omega)
       have hnz2 : (lx.length = 0) = False := eq_false (by omega)
       have hnz3 : ((lx.length : Int) == 0) = false := beq_eq_false_iff_ne.mpr (by omega)
       have hfm := (HMX.out m Hm.out).1
       have hmr : 0 ≤ orF x m ∧ orF x m < 4294967296 := by
        obtain ⟨d2, rfl⟩ : ∃ d2, d = d2 + 1 := by
         cases d with
         | zero => exact absurd hfm (by simp [fldOk])
         | succ d2 => exact ⟨d2, rfl⟩
        exact hfm.1
       have HFM := A_.mk hfm
       have HMR := A_.mk hmr
       clear hl0 hm hrd hq hqb hfm hmr
       have hor : ∀ z, Go.bits .or .u32 x m = z → orF x m = z := fun z h => h
       go_wp2
       have Xd := A_.mk (show Fi k n ring w wt.drew bE (cE + (Maps.size (.map es) - ki) + 1) esE3 wo.heap.size (12 * (Maps.size (.map es) - ki) + t) esL2 d _ _ from X.out.step (below_drew1 (Below.refl _ _)))
       have RGd := A_.mk (RG.out.kept (w' := wt.drew) (grown_of_below (below_drew1 (Below.refl _ _)) none) (by simp) (by simp))
       have RRd := A_.mk (Kd.R_drew RR.out)
       have HSd := A_.mk (show wo.heap.size + 1 < wt.drew.heap.size from HS.out)
       obtain ⟨c0, -, hat0, -⟩ := Xd.out.ownL.lookup_int law56 Tryd.underlying53 Tryd.underlying3 (zero3 _) (keyOf_int_mk Tryd.underlying56 (wf32 HMR.out.1 HMR.out.2))
       have HAT0 := A_.mk hat0
       have HC0 := A_.mk (Xd.out.atL hat0)
       have HTB := A_.mk (show ws (fun _ => 1) esE + wl (fun _ => 1) left es + ((if lx = [] then cx else 0) + q * (t : Int)) + q ≤ 479001600 from by
        rw [if_neg Hl0.out, Int.zero_add]
        have h1 : q * ((t + 1 : Nat) : Int) ≤ q * (lx.length : Int) := Int.mul_le_mul_of_nonneg_left (by omega) (by have := HQB.out; omega)
        rw [show ((t + 1 : Nat) : Int) = (t : Int) + 1 by omega, Int.mul_add, Int.mul_one] at h1
        have h2 := HTOT.out
        have h3 := HQ.out
        omega)
       have hw0 : wrap64 (c0 + q) = c0 + q := by
        have h1 := HC0.out
        have h2 := HTB.out
        have h3 := HQB.out
        unfold wrap64
        omega
       have O := Xd.out.ownL
       clear X RG HS RR hat0
       refine start_ (n := 11) (S := fun w' => w'.ownsMap Tryd.prog 56 (plainElem (H := Unit) Tryd.prog 3) wo.heap.size (12 * (Maps.size (.map es) - ki) + t) (.map esL2)) (ds := [10]) (m_ 11 0) (by kernel_rfl) rfl rfl O (fun hHeld => ?_)
       generalize wt.drew = wd at *
       refine pure_ (i := 0) (N := some 45) (v := ?_) (a' := ?_) (m_ 11 1) rfl rfl (by kernel_rfl) (fun _ _ _ h => h) (Or.inl ⟨by rfl, ?_⟩) ?_ ?_
       rotate_left
       ·intro w'
        go_simp
        with_reducible rfl
       rotate_left
       ·simp only [Act.put, sI_, s0_, s1_, i64_w, i32_w]
        rfl
       refine pure_ (i := 1) (N := some 46) (v := ?_) (a' := ?_) (m_ 11 3) rfl rfl (by kernel_rfl) (fun _ _ _ h => h) (Or.inl ⟨by rfl, ?_⟩) ?_ ?_
       rotate_left
       ·intro w'
        go_simp
        with_reducible rfl
       rotate_left
       ·simp only [Act.put, sI_, s0_, s1_, i64_w, i32_w]
        rfl
       refine pure_ (i := 2) (N := some 47) (v := ?_) (a' := ?_) (m_ 11 7) rfl rfl (by kernel_rfl) (fun _ _ _ h => h) (Or.inl ⟨by rfl, ?_⟩) ?_ ?_
       rotate_left
       ·intro w'
        go_simp
        with_reducible rfl
       rotate_left
       ·simp only [Act.put, sI_, s0_, s1_, i64_w, i32_w]
        rfl
       refine pure_ (i := 3) (N := some 48) (v := ?_) (a' := ?_) (m_ 11 15) rfl rfl (by kernel_rfl) (fun _ _ _ h => h) (Or.inl ⟨by rfl, ?_⟩) ?_ ?_
       rotate_left
       ·intro w'
        go_simp
        with_reducible rfl
       rotate_left
       ·simp only [Act.put, sI_, s0_, s1_, i64_w, i32_w]
        rfl
       refine pure_ (i := 5) (N := some 50) (v := ?_) (a' := ?_) (m_ 11 47) rfl rfl (by kernel_rfl) (fun _ _ _ h => h) (Or.inl ⟨by rfl, ?_⟩) ?_ ?_
       rotate_left
       ·intro w'
        go_simp
        with_reducible rfl
       rotate_left
       ·simp only [Act.put, sI_, s0_, s1_, i64_w, i32_w]
        rfl
       refine pure_ (i := 6) (N := some 51) (v := ?_) (a' := ?_) (m_ 11 111) rfl rfl (by kernel_rfl) (fun _ _ _ h => h) (Or.inl ⟨by rfl, ?_⟩) ?_ ?_
       rotate_left
       ·intro w'
        go_simp
        with_reducible rfl
       rotate_left
       ·simp only [Act.put, sI_, s0_, s1_, i64_w, i32_w]
        rfl
       refine pure_ (i := 7) (N := some 52) (v := ?_) (a' := ?_) (m_ 11 239) rfl rfl (by kernel_rfl) (fun _ _ _ h => h) (Or.inl ⟨by rfl, ?_⟩) ?_ ?_
       rotate_left
       ·intro w'
        go_simp
        with_reducible rfl
       rotate_left
       ·simp only [Act.put, sI_, s0_, s1_, i64_w, i32_w]
        rfl
       refine pure_ (i := 8) (N := some 53) (v := ?_) (a' := ?_) (m_ 11 495) rfl rfl (by kernel_rfl) (fun _ _ _ h => h) (Or.inl ⟨by rfl, ?_⟩) ?_ ?_
       rotate_left
       ·intro w'
        go_simp
        with_reducible rfl
       rotate_left
       ·simp only [Act.put, sI_, s0_, s1_, i64_w, i32_w]
        rfl
       refine take_ (i := 4) (N := some 49) (v := .int .i64 c0) (a' := ?_) (m_ 11 511) rfl rfl (by kernel_rfl) (fun _ _ _ h => h) (Or.inl ⟨by rfl, ?_⟩) hHeld ?_ ?_
       ·intro w' sh
        obtain ⟨c1, hrun, hat1, -⟩ := World.ownsMap.lookup_int sh law56 Tryd.underlying53 Tryd.underlying3 (zero3 _) (keyOf_int_mk Tryd.underlying56 (wf32 HMR.out.1 HMR.out.2))
        obtain rfl : c1 = c0 := by
         have h := hat1.symm.trans HAT0.out
         simpa using h
        simp only [orF] at hrun
        go_simp
        try with_reducible rfl
       rotate_left
       ·simp only [Act.put, sI_, s0_, s1_, i64_w, i32_w]
        rfl
       refine pure_ (i := 9) (N := some 54) (v := ?_) (a' := ?_) (m_ 11 1023) rfl rfl (by kernel_rfl) (fun _ _ _ h => h) (Or.inl ⟨by rfl, ?_⟩) ?_ ?_
       rotate_left
       ·intro w'
        go_simp
        with_reducible rfl
       rotate_left
       ·simp only [Act.put, sI_, s0_, s1_, i64_w, i32_w]
        rfl
       refine last_ (i := 10) (N := none) (m_ 11 2047) rfl rfl (by kernel_rfl) (by decide) (fun K hK => ?_)
       obtain ⟨w12, hrun, hm12, hg12⟩ := World.ownsMap.update O law56 Tryd.underlying53 (by have := HSZ8.out.2; have := HL12.out; omega) (keyOf_int_mk Tryd.underlying56 (wf32 HMR.out.1 HMR.out.2)) (plainElem_int Tryd.underlying3 (wf64 (x := c0 + q) (by have := HC0.out; have := HQB.out; omega) (by have := HC0.out; have := HTB.out; have := HQB.out; omega)))
       refine skip_ (w1 := w12) (by rfl) rfl ?_ ?_
       ·simp only [orF] at hrun
        unfold execOp
        simp [Act.eval, hw0, hrun]
       have X12 := A_.mk (Xd.out.putL HAT0.out HQB.out.1 HFM.out (HQ2.out m Hm.out) hm12 hg12)
       have RG12 := A_.mk (RGd.out.kept hg12 (fun e => by have := Option.some.inj e; have := HBlt.out; omega) (fun e => by have := Option.some.inj e; omega))
       have HS12 := A_.mk (Nat.lt_of_lt_of_le HSd.out hg12.size)
       have RR12 := A_.mk (Kd.R_grown RRd.out hg12 (fun k_ hk e => by have := Option.some.inj e; have := HS7.out; omega))
       refine hK.out _ _ ?_
       clear hK K hHeld hrun hm12 hg12 O Xd RGd HSd RRd
       refine done_ (by kernel_rfl) ?_
       try go_wp2
       have hw : wrap64 ((t : Int) + 1) = ((t + 1 : Nat) : Int) := w_next (Nat.lt_of_lt_of_le hlt (Nat.le_trans HL12.out (by decide)))
       go_roundg (kt - 1)
       case measure => exact k_less htk.out (Nat.le_of_lt hlt)
       case rel => exact ⟨t + 1, ents ((DataW.map esL2).put (.int .u32 (orF x m)) (.lit (.int .i64 (c0 + q)))), by rw [hw], ⟨k_next htk.out hlt⟩, ⟨hlt⟩, ⟨X12.out.to (fun g => by
         rw [Htake.out, rsum_append]
         simp only [rsum]
         grind) (by rw [show ((t + 1 : Nat) : Int) = (t : Int) + 1 by omega, Int.mul_add, Int.mul_one]; omega) (Nat.le_refl _) (Nat.le_refl _)⟩, RG12, HS12, RR12⟩
      ·obtain rfl : t = lx.length := by have := htl.out; omega
       have c6 : decide (lx.length < lx.length) = false := decide_eq_false (by omega)
       go_wp2
       have h7 := HLT7.out
       go_roundg cnt7
       case measure => exact h7
       case rel => exact ⟨_, esE3, esL2, RG, ⟨by have := HKQ.out; omega⟩, ⟨X.out.to (fun g => by
         rw [HST.out (vE k n ring g), List.take_length, rsum_mul]
         show _ = rws g esE + (rwl (vE k n ring g) left es + (cx : Rat) * vE k n ring g x)
         obtain ⟨v0, v1⟩ := vE_step g HFX.out Hd13.out HLX2.out
         by_cases hl0 : lx = []
         ·rw [if_pos hl0, v0 hl0, hl0]
          simp only [rsum]
          grind
         ·rw [if_neg hl0, ← v1 hl0]
          have h1 := HQ0.out hl0
          have h2 : (cx : Rat) = (q : Rat) * ((lx.length : Nat) : Rat) := by
           rw [h1, Rat.intCast_mul, Rat.intCast_natCast]
          rw [h2]
          grind) (by
         have h1 := HST1.out
         rw [h1]
         by_cases hl0 : lx = []
         ·rw [if_pos hl0, hl0]
          simp
          omega
         ·rw [if_neg hl0, Int.zero_add, ← HQ0.out hl0]
          omega) (by have := HLT7.out; have := HKQ.out; omega) (by have := HLT7.out; have := HKQ.out; have := HL12.out; omega)⟩, HS⟩

/-- The map of the ends. -/
structure En (k : Nat) (n : Int) (ring : Bool) (T : Int) (w wr : World) (bE cE : Nat) (esE : List (Lit × DataW Unit)) : Prop where
 own : wr.ownsMap Tryd.prog 56 (plainElem Tryd.prog 3) bE cE (.map esE)
 lo : w.heap.size ≤ bE
 bel : Below w.heap.size w wr
 pos : ∀ p ∈ esE, 0 < vx p.2
 sum : ∀ g, rws g esE = 479001600 * vE k n ring g T
 one : ws (fun _ => 1) esE = 479001600
 key : ∀ p ∈ esE, ∃ x : Int, p.1 = Lit.int .u32 x ∧ 0 ≤ x ∧ x < 4294967296
theorem Fi.en {k : Nat} {n : Int} {ring : Bool} {T : Int} {w0 w wr : World} {bE cE bL cL : Nat} {esE : List (Lit × DataW Unit)} (h : Fi k n ring w wr bE cE esE bL cL [] 0 (fun g => 479001600 * vE k n ring g T) 479001600) (hb : Below w0.heap.size w0 w) : En k n ring T w0 wr bE cE esE :=
 ⟨h.ownE, Nat.le_trans (below_size hb) h.loE, below_step hb h.bel, h.posE, fun g => by have := h.sum g; simp only [rws] at this; grind, by have := h.one; simp only [ws] at this; omega, h.keyE⟩
section
variable {k : Nat} {n : Int} {ring : Bool} {T : Int} {w wr w' : World} {bE cE : Nat} {esE : List (Lit × DataW Unit)}
theorem En.size (h : En k n ring T w wr bE cE esE) : w.heap.size ≤ wr.heap.size := below_size h.bel
theorem En.step (h : En k n ring T w wr bE cE esE) (hb : Below wr.heap.size wr w') : En k n ring T w w' bE cE esE :=
 ⟨h.own.kept (grown_of_below hb none) (by simp), h.lo, below_step h.bel hb, h.pos, h.sum, h.one, h.key⟩
theorem En.low {w0 : World} (h : En k n ring T w wr bE cE esE) (hb : Below w0.heap.size w0 w) : En k n ring T w0 wr bE cE esE :=
 ⟨h.own, Nat.le_trans (below_size hb) h.lo, below_step hb h.bel, h.pos, h.sum, h.one, h.key⟩
theorem En.pair (h : En k n ring T w wr bE cE esE) : esE.Pairwise (fun p q => p.1 ≠ q.1) := by obtain ⟨es', e, h, _⟩ := h.own.entries law56; cases e; exact h
/-- What is looked up is the sum by the weight that asks for the key. -/
theorem ind_sum {F c : Int} : ∀ {l : List (Lit × DataW Unit)}, l.Pairwise (fun p q => p.1 ≠ q.1) → (∀ p ∈ l, ∃ x : Int, p.1 = Lit.int .u32 x ∧ 0 ≤ x ∧ x < 4294967296) → (DataW.map l).atKey (.int .u32 F) (.lit (.int .i64 0)) = .lit (.int .i64 c) → rws (fun s => if s = F then 1 else 0) l = (c : Rat)
 | [], _, _, h => by
  simp [DataW.atKey] at h
  subst h
  simp [rws]
 | p :: r, hp, hk, h => by
  obtain ⟨h1, h2⟩ := List.pairwise_cons.1 hp
  obtain ⟨x, hx, -, -⟩ := hk p (by simp)
  have hz : ∀ {l : List (Lit × DataW Unit)}, (∀ q ∈ l, ∃ x : Int, q.1 = Lit.int .u32 x ∧ 0 ≤ x ∧ x < 4294967296) → (∀ q ∈ l, q.1 ≠ Lit.int .u32 F) → rws (fun s => if s = F then 1 else 0) l = 0 := by
   intro l
   induction l with
   | nil => intro _ _; simp [rws]
   | cons q t ih =>
    intro a b
    obtain ⟨y, hy, -, -⟩ := a q (by simp)
    have hne : y ≠ F := fun e => b q (by simp) (by rw [hy, e])
    simp only [rws, ih (fun z hz => a z (by simp [hz])) (fun z hz => b z (by simp [hz])), hy, kx, if_neg hne]
    grind
  simp only [DataW.atKey, List.find?_cons] at h
  by_cases e : x = F
  ·subst e
   have hs : p.1.sameKey (.int .u32 x) = true := by rw [hx]; exact WideAt.sameKey_self (a := .int .u32 x) trivial
   rw [hs] at h
   simp only at h
   simp only [rws]
   rw [hz (fun q hq => hk q (by simp [hq])) (fun q hq he => h1 q hq (by rw [hx, he])), h, hx]
   simp [kx, vx]
   grind
  ·have hs : p.1.sameKey (.int .u32 F) = false := by
    cases e2 : p.1.sameKey (.int .u32 F) with
    | false => rfl
    | true => exact absurd (by have := WideAt.sameKey_eq e2; rw [hx] at this; injection this) e
   rw [hs] at h
   simp only [rws]
   rw [ind_sum h2 (fun q hq => hk q (by simp [hq])) h, hx]
   simp [kx, e]
   grind
end
theorem ends_calls (k : Nat) (n : Int) (ring : Bool) (A : Option Addr) (c : Nat) (l : List Int) (T : Int) (w : World) (hr : Kd.C (Kd.int .i64) w A l.length l) (hc : l.length ≤ c) (hT : XTab w) (ht : impl_Row_taken.f k n ring l = some T) (hk : fldOk k n ring 13 T) :
  Calls Tryd.prog 29 #[.agg #[.int .i64 n, .bool ring, .slice A l.length c]] w fun e w' => ∃ (bE cE : Nat) (esE : List (Lit × DataW Unit)), e = .returned (.map (some bE)) ∧ En k n ring T w w' bE cE esE := by
 have HR := A_.mk hr
 have HC := A_.mk hc
 have HT := A_.mk hT
 have HTK := A_.mk ht
 have HK := A_.mk hk
 have HBw := A_.mk (Below.refl w.heap.size w)
 clear hr hc hT ht hk
 go_enter Tryd.func29, Tryd.ntmps29
 go_upto_region 1 with ((with_reducible refine gate_dst (N := 1) rfl ?_); refine box_event ?hg (N := 1) ?hd (cs := #[.int .i64 n, .bool ring, .slice A l.length c]) (t := 29) ?hr ?_; (case hd => rfl); (case hg => rfl); (case hr => (go_simp; done)); intro gb hg w1 hbox hb; have BK := A_.mk (blk_drew hbox); have HB1 := A_.mk (below_drew1 (below_step HBw.out hb)); clear hg hbox hb)
 have s0 : w1.drew.cell? ⟨gb, 0, none⟩ = some (.int .i64 n) := (blk_cell BK.out 0).trans rfl
 have s1 : w1.drew.cell? ⟨gb, 1, none⟩ = some (.bool ring) := (blk_cell BK.out 1).trans rfl
 have s2 : w1.drew.cell? ⟨gb, 2, none⟩ = some (.slice A l.length c) := (blk_cell BK.out 2).trans rfl
 refine start_ (n := 7) (S := fun w' => w'.cell? ⟨gb, 0, none⟩ = some (.int .i64 n) ∧ w'.cell? ⟨gb, 1, none⟩ = some (.bool ring) ∧ w'.cell? ⟨gb, 2, none⟩ = some (.slice A l.length c)) (ds := [5]) (m_ 7 0) (by kernel_rfl) rfl rfl ⟨s0, s1, s2⟩ (fun hHeld => ?_)
 generalize w1.drew = wd at *
 refine take_ (i := 0) (N := some 3) (v := ?_) (a' := ?_) (m_ 7 1) rfl rfl (by kernel_rfl) (fun _ _ _ h => h) (Or.inl ⟨by rfl, ?_⟩) hHeld ?_ ?_
 rotate_left
 ·intro w' sh
  obtain ⟨s0, s1, s2⟩ := sh
  go_simp
  with_reducible rfl
 rotate_left
 ·simp only [Act.put, sI_, s0_, s1_, i64_w, i32_w]
  rfl
 refine take_ (i := 2) (N := some 5) (v := ?_) (a' := ?_) (m_ 7 5) rfl rfl (by kernel_rfl) (fun _ _ _ h => h) (Or.inl ⟨by rfl, ?_⟩) hHeld ?_ ?_
 rotate_left
 ·intro w' sh
  obtain ⟨s0, s1, s2⟩ := sh
  go_simp
  with_reducible rfl
 rotate_left
 ·simp only [Act.put, sI_, s0_, s1_, i64_w, i32_w]
  rfl
 refine one_ (i := 1) (N := some 4) (m_ 7 7) rfl rfl (by kernel_rfl) (by decide) (fun K hK => ?_)
 refine goes_ Tryd.func30 (by kernel_rfl) rfl #[.agg #[.int .i64 n, .bool ring, .slice A l.length c]] (by rfl) rfl rfl (by (try simp only [List.map_toArray, List.map_cons, List.map_nil]); (rfl)) ?_
 refine (impl_Row_taken.calls k n ring A c l T wd (Kd.C_below HR.out HB1.out) HC.out HTK.out).mono ?_
 rintro e w2 ⟨rfl, hb⟩
 refine ⟨_, rfl, ?_⟩
 have B2 := A_.mk (below_step HB1.out hb)
 refine hK.out _ _ ⟨(pw_cell_below hb hHeld.1).trans rfl, (pw_cell_below hb hHeld.2.1).trans rfl, (pw_cell_below hb hHeld.2.2).trans rfl⟩ (fun hHeld2 => ?_)
 clear hK K hHeld hb s0 s1 s2
 refine norm_ (a' := ?_) ?_ ?_
 rotate_left
 ·show Act.put _ (some 4) _ = _
  simp only [Act.put, sI_, s0_, s1_, i64_w, i32_w]
  rfl
 refine one_ (i := 3) (N := some 6) (m_ 7 15) rfl rfl (by kernel_rfl) (by decide) (fun K hK => ?_)
 refine goes_ Tryd.func37 (by kernel_rfl) rfl #[.agg #[.int .i64 n, .bool ring, .slice A l.length c]] (by rfl) rfl rfl (by (try simp only [List.map_toArray, List.map_cons, List.map_nil]); (rfl)) ?_
 refine (impl_Row_bench.calls n ring A c l n ring w2 (Kd.C_below HR.out B2.out) HC.out rfl).mono ?_
 rintro e w3 ⟨rfl, hb⟩
 refine ⟨_, rfl, ?_⟩
 have B3 := A_.mk (below_step B2.out hb)
 refine hK.out _ _ ⟨(pw_cell_below hb hHeld2.1).trans rfl, (pw_cell_below hb hHeld2.2.1).trans rfl, (pw_cell_below hb hHeld2.2.2).trans rfl⟩ (fun hHeld3 => ?_)
 clear hK K hHeld2 hb
 refine norm_ (a' := ?_) ?_ ?_
 rotate_left
 ·show Act.put _ (some 6) _ = _
  simp only [Act.put, sI_, s0_, s1_, i64_w, i32_w]
  rfl
 refine pure_ (i := 4) (N := some 7) (v := ?_) (a' := ?_) (m_ 7 31) rfl rfl (by kernel_rfl) (fun _ _ _ h => h) (Or.inl ⟨by rfl, ?_⟩) ?_ ?_
 rotate_left
 ·intro w'
  go_simp
  with_reducible rfl
 rotate_left
 ·simp only [Act.put, sI_, s0_, s1_, i64_w, i32_w]
  rfl
 refine last_ (i := 5) (N := some 8) (m_ 7 63) rfl rfl (by kernel_rfl) (by decide) (fun K hK => ?_)
 refine goes_ Tryd.func57 (by kernel_rfl) rfl #[.int .u32 T, .func (.func 58) #[.agg #[.int .i64 n, .bool ring]] #[]] (by rfl) rfl rfl (by (try simp only [List.map_toArray, List.map_cons, List.map_nil]); (rfl)) ?_
 refine (filled_calls k n ring T w3 (XTab.below HT.out B3.out) HK.out).mono ?_
 rintro e w4 ⟨bE, cE, esE, B, c2, rfl, hF⟩
 refine ⟨_, rfl, ?_⟩
 have EN := A_.mk (hF.en B3.out)
 refine hK.out _ _ ?_
 clear hK K hHeld3 hF
 refine norm_ (a' := ?_) ?_ ?_
 rotate_left
 ·show Act.put _ (some 8) _ = _
  simp only [Act.put, sI_, s0_, s1_, i64_w, i32_w]
  rfl
 refine pure_ (i := 6) (N := some 2) (v := ?_) (a' := ?_) (m_ 7 127) rfl rfl (by kernel_rfl) (fun _ _ _ h => h) (Or.inl ⟨by rfl, ?_⟩) ?_ ?_
 rotate_left
 ·intro w'
  go_simp
  with_reducible rfl
 rotate_left
 ·simp only [Act.put, sI_, s0_, s1_, i64_w, i32_w]
  rfl
 refine done_ (by kernel_rfl) ?_
 try go_wp2
 go_ret
 exact ⟨bE, cE, esE, rfl, EN.out⟩
theorem fld_mono {k : Nat} {n : Int} {ring : Bool} : ∀ (d : Nat) (s : Int), fldOk k n ring d s → fldOk (k + 1) n ring d s ∧ nxF (k + 1) n ring s = nxF k n ring s ∧ ∀ g f, vEd (k + 1) n ring g f s = vEd k n ring g f s
 | 0, _, h => h.elim
 | d + 1, s, h => by
  obtain ⟨hr, l, hl, h12, hm⟩ := h
  have hl2 := impl_bench_singles.mono _ _ _ k _ hl
  have e1 := nx_of hl
  have e2 := nx_of hl2
  refine ⟨⟨hr, l, hl2, h12, fun m hm2 => ?_⟩, e2.trans e1.symm, fun g f => ?_⟩
  ·obtain ⟨h1, h2, -⟩ := fld_mono d (orF s m) (hm m hm2).1
   exact ⟨h1, by rw [h2]; exact (hm m hm2).2⟩
  ·cases f with
   | zero => rfl
   | succ f =>
    simp only [vEd]
    rw [e1, e2]
    by_cases e : l = []
    ·rw [if_pos e, if_pos e]
    ·rw [if_neg e, if_neg e]
     congr 1
     exact rsum_congr fun m hm2 => (fld_mono d (orF s m) (hm m hm2).1).2.2 g f
theorem vE_mono {k : Nat} {n : Int} {ring : Bool} {d : Nat} {s : Int} (h : fldOk k n ring d s) (g : Int → Rat) : vE (k + 1) n ring g s = vE k n ring g s := (fld_mono d s h).2.2 g 13
/-- fldOk, as a test. -/
def fldB (k : Nat) (n : Int) (ring : Bool) : Nat → Int → Bool
 | 0, _ => false
 | d + 1, s => decide (0 ≤ s ∧ s < 4294967296) && (match impl_bench_singles.f k n ring s with
  | some l => decide (l.length ≤ 12) && l.all (fun m => fldB k n ring d (orF s m) && decide ((nxF k n ring (orF s m)).length + 1 ≤ l.length))
  | none => false)
theorem fldB_iff (k : Nat) (n : Int) (ring : Bool) : ∀ (d : Nat) (s : Int), fldB k n ring d s = true ↔ fldOk k n ring d s
 | 0, s => by simp [fldB, fldOk]
 | d + 1, s => by
  simp only [fldB, fldOk, Bool.and_eq_true, decide_eq_true_eq]
  cases e : impl_bench_singles.f k n ring s with
  | none => simp
  | some l =>
   simp only [Bool.and_eq_true, decide_eq_true_eq, List.all_eq_true, fldB_iff k n ring d, Option.some.injEq, exists_eq_left']
def oneF (F s : Int) : Rat := if s = F then 1 else 0

def sortRow_ren : Go.Shelf.Ren := ⟨fun | 6 => 39 | 15 => 65 | 14 => 64 | 28 => 86 | 29 => 87 | 20 => 78 | 21 => 79 | 22 => 80 | 23 => 81 | 24 => 82 | 25 => 83 | 26 => 84 | 27 => 85 | 46 => 96 | 47 => 97 | 48 => 98 | 49 => 99 | 50 => 100 | 57 => 103 | n => n, fun | 22 => 34 | 24 => 29 | 25 => 68 | 3 => 3 | 39 => 85 | 0 => 0 | 53 => 55 | 55 => 103 | 4 => 4 | 46 => 96 | 45 => 95 | 50 => 100 | 5 => 5 | 9 => 9 | 66 => 108 | 70 => 112 | 76 => 115 | 77 => 116 | n => n, fun | n => n⟩
theorem sortRow : Go.Proofs.SlLaysF0.n6 Tryd.prog sortRow_ren := {
 mixed := by kernel_rfl
 f6 := ⟨Tryd.f39.name, by decide, Tryd.func39.trans (congrArg some (by kernel_rfl))⟩
 f14 := ⟨Tryd.f64.name, by decide, Tryd.func64.trans (congrArg some (by kernel_rfl))⟩
 f15 := Tryd.func65.trans (congrArg some (by kernel_rfl))
 f20 := ⟨Tryd.f78.name, by decide, Tryd.func78.trans (congrArg some (by kernel_rfl))⟩
 f21 := ⟨Tryd.f79.name, by decide, Tryd.func79.trans (congrArg some (by kernel_rfl))⟩
 f22 := ⟨Tryd.f80.name, by decide, Tryd.func80.trans (congrArg some (by kernel_rfl))⟩
 f23 := ⟨Tryd.f81.name, by decide, Tryd.func81.trans (congrArg some (by kernel_rfl))⟩
 f24 := ⟨Tryd.f82.name, by decide, Tryd.func82.trans (congrArg some (by kernel_rfl))⟩
 f25 := ⟨Tryd.f83.name, by decide, Tryd.func83.trans (congrArg some (by kernel_rfl))⟩
 f26 := ⟨Tryd.f84.name, by decide, Tryd.func84.trans (congrArg some (by kernel_rfl))⟩
 f27 := ⟨Tryd.f85.name, by decide, Tryd.func85.trans (congrArg some (by kernel_rfl))⟩
 f28 := Tryd.func86.trans (congrArg some (by kernel_rfl))
 f29 := Tryd.func87.trans (congrArg some (by kernel_rfl))
 f46 := ⟨Tryd.f96.name, by decide, Tryd.func96.trans (congrArg some (by kernel_rfl))⟩
 f47 := Tryd.func97.trans (congrArg some (by kernel_rfl))
 f48 := Tryd.func98.trans (congrArg some (by kernel_rfl))
 f49 := ⟨Tryd.f99.name, by decide, Tryd.func99.trans (congrArg some (by kernel_rfl))⟩
 f50 := ⟨Tryd.f100.name, by decide, Tryd.func100.trans (congrArg some (by kernel_rfl))⟩
 f57 := ⟨Tryd.f103.name, by decide, Tryd.func103.trans (congrArg some (by kernel_rfl))⟩
 t0 := Tryd.underlying0
 a0 := Tryd.isAgg0
 z0 := Tryd.sizeOf0
 v0 := Tryd.zeroValue0
 t3 := Tryd.underlying3
 a3 := Tryd.isAgg3
 z3 := Tryd.sizeOf3
 v3 := Tryd.zeroValue3
 t4 := Tryd.underlying4
 a4 := Tryd.isAgg4
 z4 := Tryd.sizeOf4
 v4 := Tryd.zeroValue4
 t5 := Tryd.underlying5
 a5 := Tryd.isAgg5
 z5 := Tryd.sizeOf5
 v5 := Tryd.zeroValue5
 t9 := Tryd.underlying9
 a9 := Tryd.isAgg9
 z9 := Tryd.sizeOf9
 v9 := Tryd.zeroValue9
 t22 := Tryd.underlying34
 a22 := Tryd.isAgg34
 z22 := Tryd.sizeOf34
 v22 := Tryd.zeroValue34
 t25 := Tryd.underlying68
 a25 := Tryd.isAgg68
 z25 := Tryd.sizeOf68
 v25 := Tryd.zeroValue68
 t39 := Tryd.underlying85
 a39 := Tryd.isAgg85
 z39 := Tryd.sizeOf85
 v39 := Tryd.zeroValue85
 t45 := Tryd.underlying95
 a45 := Tryd.isAgg95
 z45 := Tryd.sizeOf95
 v45 := Tryd.zeroValue95
 t46 := Tryd.underlying96
 a46 := Tryd.isAgg96
 z46 := Tryd.sizeOf96
 v46 := Tryd.zeroValue96
 t50 := Tryd.underlying100
 a50 := Tryd.isAgg100
 z50 := Tryd.sizeOf100
 v50 := Tryd.zeroValue100
 t53 := Tryd.underlying55
 a53 := Tryd.isAgg55
 z53 := Tryd.sizeOf55
 v53 := Tryd.zeroValue55
 t55 := Tryd.underlying103
 a55 := Tryd.isAgg103
 z55 := Tryd.sizeOf103
 v55 := Tryd.zeroValue103
 t66 := Tryd.underlying108
 a66 := Tryd.isAgg108
 z66 := Tryd.sizeOf108
 v66 := Tryd.zeroValue108
 t70 := Tryd.underlying112
 a70 := Tryd.isAgg112
 z70 := Tryd.sizeOf112
 v70 := Tryd.zeroValue112
 t76 := Tryd.underlying115
 a76 := Tryd.isAgg115
 z76 := Tryd.sizeOf115
 v76 := Tryd.zeroValue115
 t77 := Tryd.underlying116
 a77 := Tryd.isAgg116
 z77 := Tryd.sizeOf116
 v77 := Tryd.zeroValue116 }
/-! slices.SortFunc over rows: the elements are their indices. -/
def cmpL : List Int → List Int → Int
 | [], [] => 0
 | [], _ :: _ => -1
 | _ :: _, [] => 1
 | a :: l, b :: m => if a < b then -1 else if a > b then 1 else cmpL l m
theorem cmpL_self : ∀ l : List Int, cmpL l l = 0
 | [] => rfl
 | a :: l => by
  unfold cmpL
  rw [if_neg (by omega), if_neg (by omega)]
  exact cmpL_self l
theorem cmpL_trans : ∀ a b c : List Int, cmpL a b < 0 → cmpL b c < 0 → cmpL a c < 0
 | [], [], _, h, _ => by simp [cmpL] at h
 | [], _ :: _, [], _, h => by simp [cmpL] at h
 | [], _ :: _, _ :: _, _, _ => by simp [cmpL]
 | _ :: _, [], _, h, _ => by simp [cmpL] at h
 | _ :: _, _ :: _, [], _, h => by simp [cmpL] at h
 | a :: l, b :: m, c :: n, h, h2 => by
  unfold cmpL at h h2 ⊢
  by_cases c1 : a < b
  ·by_cases c2 : b < c
   ·rw [if_pos (by omega)]; decide
   ·by_cases c3 : b > c
    ·rw [if_neg c2, if_pos c3] at h2; exact absurd h2 (by decide)
    ·rw [if_pos (by omega)]; decide
  ·by_cases c0 : a > b
   ·rw [if_neg c1, if_pos c0] at h; exact absurd h (by decide)
   ·rw [if_neg c1, if_neg c0] at h
    obtain rfl : a = b := by omega
    by_cases c2 : a < c
    ·rw [if_pos c2]; decide
    ·by_cases c3 : a > c
     ·rw [if_neg c2, if_pos c3] at h2; exact absurd h2 (by decide)
     ·rw [if_neg c2, if_neg c3] at h2 ⊢
      exact cmpL_trans l m n h h2
theorem cmpL_ntrans : ∀ a b c : List Int, ¬ cmpL a b < 0 → ¬ cmpL b c < 0 → ¬ cmpL a c < 0
 | [], [], _, _, h => h
 | [], _ :: _, _, h, _ => by simp [cmpL] at h
 | _ :: _, [], [], _, _ => by simp [cmpL]
 | _ :: _, [], _ :: _, _, h => by simp [cmpL] at h
 | _ :: _, _ :: _, [], _, _ => by simp [cmpL]
 | a :: l, b :: m, c :: n, h, h2 => by
  unfold cmpL at h h2 ⊢
  by_cases c1 : a < b
  ·rw [if_pos c1] at h; exact absurd (by decide) h
  ·by_cases c2 : b < c
   ·rw [if_pos c2] at h2; exact absurd (by decide) h2
   ·rw [if_neg (by omega)]
    by_cases c3 : a > c
    ·rw [if_pos c3]; decide
    ·rw [if_neg c3]
     obtain rfl : a = c := by omega
     obtain rfl : a = b := by omega
     rw [if_neg c1, if_neg (by omega)] at h h2
     exact cmpL_ntrans l m n h h2
theorem cmpL_swo (g : Nat → List Int) : Go.Sort.SWO (ltOf fun x y : Nat => cmpL (g x) (g y)) where
 irrefl x := by unfold ltOf; show decide (cmpL (g x) (g x) < 0) = false; rw [cmpL_self]; rfl
 trans x y z h1 h2 := by unfold ltOf at *; rw [decide_eq_true_eq] at *; exact cmpL_trans _ _ _ h1 h2
 ntrans x y z h1 h2 := by unfold ltOf at *; rw [decide_eq_false_iff_not] at *; exact cmpL_ntrans _ _ _ h1 h2
theorem cmpf_calls (k : Nat) (n1 n2 : Int) (b1 b2 : Bool) (A1 A2 : Option Addr) (c1 c2 : Nat) (l1 l2 : List Int) (r : Int) (w : World) (h1 : (Kd.int .i64).C w A1 l1.length l1) (hc1 : l1.length ≤ c1) (h2 : (Kd.int .i64).C w A2 l2.length l2) (hc2 : l2.length ≤ c2) (h : slices_Compare_int_int.f k l1 l2 = some r) :
  Calls Tryd.prog 40 #[.agg #[.int .i64 n1, .bool b1, .slice A1 l1.length c1], .agg #[.int .i64 n2, .bool b2, .slice A2 l2.length c2]] w fun e w' => e = .returned (.int .i64 r) ∧ ∃ q os', w' = Go.Sort.grow (w.drewN q) os' := by
 have H1 := A_.mk h1
 have H2 := A_.mk h2
 have C1 := A_.mk hc1
 have C2 := A_.mk hc2
 have HC := A_.mk h
 clear h1 h2 hc1 hc2 h
 go_enter Tryd.func40, Tryd.ntmps40
 go_wp2_with (go_at_call 41; (with_reducible refine (slices_Compare_int_int.calls k _ _ l1 _ _ l2 r _ (Kd.C_alloc (Kd.C_alloc H1.out _) _) C1.out (Kd.C_alloc (Kd.C_alloc H2.out _) _) C2.out HC.out).mono ?_); rintro e w' ⟨rfl, ⟨m, rfl⟩⟩)
 go_ret
 exact ⟨rfl, m, _, by rw [Go.Sort.alloc_eq_grow, Go.Sort.alloc_eq_grow, Go.Sort.grow_grow]; rfl⟩
section
variable {enc : Nat → List Value} {w : World} {g m : Nat} {dk : Array Nat} {os : Array Obj}
theorem heap_sw {k : Nat} (hk : k < w.heap.size) (hne : k ≠ g) : (sortWorldK enc 3 w g 0 m dk os).heap[k]? = w.heap[k]? := by
 unfold sortWorldK Go.Sort.grow Go.Sort.putRowK Go.Sort.putRow Go.Sort.mapBlock Go.Sort.ahead
 simp only [Array.getElem?_append, Array.size_modify, hk, if_true, Array.getElem?_modify, if_neg (Ne.symm hne)]
theorem heap_swg {cur : Array Value} {e : TypeId} (h : w.heap[g]? = some (.cells cur e (0, 0))) : (sortWorldK enc 3 w g 0 m dk os).heap[g]? = some (.cells (Go.Sort.putCells id 0 (Go.Sort.flatK enc 3 dk) cur) e (0, 0)) := by
 have hg := blk_lt h
 unfold sortWorldK Go.Sort.grow Go.Sort.putRowK Go.Sort.putRow Go.Sort.mapBlock Go.Sort.ahead
 simp only [Array.getElem?_append, Array.size_modify, hg, if_true, Array.getElem?_modify, h, Option.map_some]
 rfl
theorem below_sw (hg : g < w.heap.size) : Below g w (sortWorldK enc 3 w g 0 m dk os) := by
 refine ⟨rfl, rfl, rfl, ?_, fun k hk => heap_sw (by omega) (by omega)⟩
 unfold sortWorldK Go.Sort.grow Go.Sort.putRowK Go.Sort.putRow Go.Sort.mapBlock Go.Sort.ahead
 simp
end
theorem flat_seg (enc : Nat → List Value) (hk : ∀ x, (enc x).length = 3) (d : Array Nat) {j : Nat} (hj : j < d.size) : ((Go.Sort.flatK enc 3 d).toList.drop (j * 3)).take 3 = enc d[j]! := by
 refine List.ext_getElem? fun t => ?_
 rw [List.getElem?_take, List.getElem?_drop]
 by_cases ht : t < 3
 ·have hlt : j * 3 + t < d.size * 3 := by omega
  have e := Go.Sort.get_flatK enc 3 d (j * 3 + t) hlt
  rw [show (j * 3 + t) / 3 = j by omega, show (j * 3 + t) % 3 = t by omega] at e
  rw [if_pos ht, Array.getElem?_toList, Array.getElem?_eq_getElem (by rw [Go.Sort.size_flatK]; exact hlt), List.getElem?_eq_getElem (by rw [hk]; exact ht)]
  rw [getElem!_pos _ _ (by rw [Go.Sort.size_flatK]; exact hlt), getElem!_pos _ _ (by rw [hk]; exact ht)] at e
  rw [e]
 ·rw [if_neg ht, List.getElem?_eq_none (by rw [hk]; omega)]
theorem put_take {N : Nat} (F cur : Array Value) (hF : F.size = N) (hc : N ≤ cur.size) : (Go.Sort.putCells id 0 F cur).toList.take N = F.toList := by
 refine List.ext_getElem? fun t => ?_
 rw [List.getElem?_take]
 by_cases ht : t < N
 ·rw [if_pos ht, Array.getElem?_toList, Array.getElem?_toList]
  unfold Go.Sort.putCells
  rw [Array.getElem?_mapIdx, Array.getElem?_eq_getElem (by omega), Array.getElem?_eq_getElem (by omega), Option.map_some, if_pos (by omega), Nat.sub_zero, getElem!_pos _ _ (by omega)]
  rfl
 ·rw [if_neg ht, List.getElem?_eq_none (by rw [Array.length_toList]; omega)]
def encR (xs : List S29) (F : Nat → Option Addr × Nat) (i : Nat) : List Value :=
 [.int .i64 (xs.getD (i % xs.length) z29).f0, .bool (xs.getD (i % xs.length) z29).f1, .slice (F (i % xs.length)).1 (xs.getD (i % xs.length) z29).f2.length (F (i % xs.length)).2]
theorem range_get {N : Nat} {j : Nat} (hj : j < N) : (Array.range N)[j]! = j := by
 rw [getElem!_pos _ _ (by simpa using hj)]
 simp
set_option maxHeartbeats 4000000 in
theorem sort_calls (k : Nat) (xs : List S29) (v : Value) (base : Nat) (ok : Nat → Prop) (w : World) (hS : Kd.S k29 29 w base ok v xs) (hne : 0 < xs.length) (hsz : xs.length < 4611686018427387904) (hcf : ∀ a ∈ xs, ∀ b ∈ xs, slices_Compare_int_int.f k a.f2 b.f2 = some (cmpL a.f2 b.f2)) :
  Calls Tryd.prog 39 #[v, .func (.func 40) #[] #[]] w fun e w' => e = .returned (.tuple #[]) ∧ ∃ ys : List S29, ys.Perm xs ∧ ys.Pairwise (fun a b => ¬ cmpL b.f2 a.f2 < 0) ∧ Kd.S k29 29 w' base ok v ys ∧ Below base w w' := by
 obtain ⟨f, h0, inner, ho, hr⟩ := hS
 rw [List.length_zipIdx] at ho
 obtain ⟨hil, ho⟩ := ho
 obtain ⟨g, cap, cur, rfl, hbase, hheap, hncap, hmax, hcur, htake⟩ := ho.resolve_left fun h => by omega
 have hglt := blk_lt hheap
 have hil3 : inner.length = xs.length * 3 := hil
 -- the j-th row
 have hj : ∀ j : Nat, ∃ p : Option Addr × Nat, j < xs.length → (inner.drop (j * 3)).take 3 = [.int .i64 (xs.getD j z29).f0, .bool (xs.getD j z29).f1, .slice p.1 (xs.getD j z29).f2.length p.2] ∧ (Kd.int .i64).R 3 w base (fun b => (ok b ∧ b ≠ g) ∧ f b = j) (.slice p.1 (xs.getD j z29).f2.length p.2) (xs.getD j z29).f2 := fun j => by
  by_cases hlt : j < xs.length
  ·have hx : xs[j]? = some (xs.getD j z29) := by rw [List.getD_eq_getElem?_getD, List.getElem?_eq_getElem hlt]; rfl
   have hM := hr.2 j (xs.getD j z29, j) (Kd.zip_at hx)
   obtain ⟨v2, e2, hR⟩ := k29_openM (show k29.M w base (fun b => (ok b ∧ some b ≠ (Value.slice (some ⟨g, 0, none⟩) xs.length cap).ownBlock) ∧ f b = j) (xs.getD j z29) ((inner.drop (j * 3)).take 3) from hM)
   obtain ⟨A, c, rfl⟩ := Kd.R_slice hR
   exact ⟨(A, c), fun _ => ⟨e2, Kd.R_mono hR fun b hb => ⟨⟨hb.1.1, fun e => hb.1.2 (by rw [e]; rfl)⟩, hb.2⟩⟩⟩
  ·exact ⟨(none, 0), fun h => absurd h hlt⟩
 obtain ⟨F, hF⟩ := Classical.axiomOfChoice hj
 have hmod : ∀ x : Nat, x % xs.length < xs.length := fun x => Nat.mod_lt _ hne
 have hk3 : ∀ x, (encR xs F x).length = 3 := fun _ => rfl
 have hen : ∀ j, j < xs.length → encR xs F j = (inner.drop (j * 3)).take 3 := fun j hlt => by
  unfold encR
  rw [Nat.mod_eq_of_lt hlt]
  exact (hF j hlt).1.symm
 have h1 : ∀ x, ∀ u ∈ encR xs F x, u.oneCell' = true := fun x u hu => by
  unfold encR at hu
  simp only [List.mem_cons, List.not_mem_nil, or_false] at hu
  rcases hu with rfl | rfl | rfl <;> rfl
 have hreads : ∀ (m : Nat) (os : Array Obj) (dk : Array Nat) (x : Nat), (Kd.int .i64).R 3 (sortWorldK (encR xs F) 3 w g 0 m dk os) base (fun b => (ok b ∧ b ≠ g) ∧ f b = x % xs.length) (.slice (F (x % xs.length)).1 (xs.getD (x % xs.length) z29).f2.length (F (x % xs.length)).2) (xs.getD (x % xs.length) z29).f2 := fun m os dk x =>
  Kd.R_step (hF _ (hmod x)).2 fun b hb hlt => heap_sw hlt hb.1.2
 have hcmp : CmpLays Tryd.prog 40 #[] (encR xs F) 3 (fun x y : Nat => cmpL (xs.getD (x % xs.length) z29).f2 (xs.getD (y % xs.length) z29).f2) g 0 (Array.range xs.length).size w := fun m os dk hs x y => by
  obtain ⟨-, a1, a2⟩ := Kd.R_reads' (hreads m os dk x)
  obtain ⟨-, b1, b2⟩ := Kd.R_reads' (hreads m os dk y)
  have hmem : ∀ x : Nat, xs.getD (x % xs.length) z29 ∈ xs := fun x => by
   rw [List.getD_eq_getElem?_getD, List.getElem?_eq_getElem (hmod x)]
   exact List.getElem_mem _
  exact cmpf_calls k _ _ _ _ _ _ _ _ _ _ _ _ a2 a1 b2 b1 (hcf _ (hmem x) _ (hmem y))
 have hH : Go.Sort.HoldsK (encR xs F) 3 w g 0 (Array.range xs.length) := fun t ht => by
  have ht3 : t < xs.length * 3 := by simpa using ht
  have hq : t / 3 < xs.length := by omega
  have hseg := hen _ hq
  rw [Go.Sort.get_flatK _ _ _ _ (by simpa using ht3), range_get hq]
  have hct : cur[t]? = some (encR xs F (t / 3))[t % 3]! := by
   have e1 : inner[t]? = (encR xs F (t / 3))[t % 3]? := by
    rw [hseg, List.getElem?_take, if_pos (by omega), List.getElem?_drop, show t / 3 * 3 + t % 3 = t by omega]
   rw [← htake, List.getElem?_take, if_pos (show t < xs.length * (Kd.tag f k29).sz from ht3), Array.getElem?_toList] at e1
   rw [e1, getElem!_pos _ _ (by rw [hk3]; omega), List.getElem?_eq_getElem]
  refine ⟨?_, ?_⟩
  ·rw [Nat.zero_add]
   simp only [World.cell?, hheap, Option.isSome_none, Bool.false_eq_true, if_false, hct, id]
  ·simp [World.frozen?, hheap]
 have hcon := AnyQ.slices_SortFunc sortRow 3 Tryd.isAgg29 Tryd.sizeOf29 (encR xs F) hk3 h1 (fun x y : Nat => cmpL (xs.getD (x % xs.length) z29).f2 (xs.getD (y % xs.length) z29).f2) (cmpL_swo fun x => (xs.getD (x % xs.length) z29).f2) 40 #[] g 0 cap (Array.range xs.length) w (enters_of Tryd.func40 (by kernel_rfl) rfl) hcmp hH hglt (by simpa using hsz)
 rw [Array.size_range] at hcon
 refine Calls.mono hcon ?_
 rintro e w' ⟨he, d', m, os, ⟨p1, -, p3⟩, hs, rfl⟩
 rw [Array.size_range] at p1
 have hpm : d'.toList.Perm (List.range xs.length) := by
  have e1 : d'.extract 0 xs.length = d' := by rw [← p1]; simp
  have e2 : (Array.range xs.length).extract 0 xs.length = Array.range xs.length := by
   have := Array.extract_size (xs := Array.range xs.length)
   rwa [Array.size_range] at this
  rw [e1, e2] at p3
  simpa using p3
 have hlt : ∀ i, i < xs.length → d'[i]! < xs.length := fun i hi => by
  rw [getElem!_pos _ _ (by omega)]
  exact List.mem_range.1 (hpm.mem_iff.1 (Array.getElem_mem_toList _))
 have hnd : ∀ i j, i < xs.length → j < xs.length → d'[i]! = d'[j]! → i = j := fun i j hi hj e => by
  have hn := hpm.nodup_iff.2 List.nodup_range
  rw [getElem!_pos _ _ (by omega), getElem!_pos _ _ (by omega)] at e
  refine Classical.byContradiction fun hij => ?_
  rw [List.nodup_iff_pairwise_ne, List.pairwise_iff_getElem] at hn
  rcases Nat.lt_or_gt_of_ne hij with h | h
  ·exact hn i j (by rw [Array.length_toList]; omega) (by rw [Array.length_toList]; omega) h (by simpa using e)
  ·exact hn j i (by rw [Array.length_toList]; omega) (by rw [Array.length_toList]; omega) h (by simpa using e.symm)
 refine ⟨he, d'.toList.map fun j => xs.getD j z29, ?_, ?_, ?_, ?_⟩
 ·refine (hpm.map _).trans (List.Perm.of_eq (List.ext_getElem? fun i => ?_))
  rw [List.getElem?_map]
  by_cases hi : i < xs.length
  ·rw [List.getElem?_range hi, Option.map_some, List.getD_eq_getElem?_getD, List.getElem?_eq_getElem hi]; rfl
  ·rw [List.getElem?_eq_none (l := xs) (by omega), List.getElem?_eq_none (by rw [List.length_range]; omega)]; rfl
 ·rw [List.pairwise_iff_getElem]
  intro i j hi hj hij
  rw [List.length_map, Array.length_toList] at hi hj
  have h2 := hs i j (Nat.zero_le _) hij (by omega)
  unfold ltOf at h2
  rw [decide_eq_false_iff_not] at h2
  dsimp only at h2
  rw [Nat.mod_eq_of_lt (hlt j (by omega)), Nat.mod_eq_of_lt (hlt i (by omega)), getElem!_pos d' j hj, getElem!_pos d' i hi] at h2
  simpa using h2
 ·obtain ⟨f', hf'⟩ := Kd.reps_tag (d := k29) (w := sortWorldK (encR xs F) 3 w g 0 m d' os) (base := base) (ok := fun b => ok b ∧ some b ≠ (Value.slice (some ⟨g, 0, none⟩) xs.length cap).ownBlock) (xs := d'.toList.map fun j => xs.getD j z29) (inner := (Go.Sort.flatK (encR xs F) 3 d').toList)
   (fun (j b : Nat) => (ok b ∧ some b ≠ (Value.slice (some ⟨g, 0, none⟩) xs.length cap).ownBlock) ∧ j < xs.length ∧ f b = (d'[j]! : Nat)) (fun i j b hi hj => hnd i j hi.2.1 hj.2.1 (hi.2.2.symm.trans hj.2.2)) (fun j b hb => hb.1) (by rw [Array.length_toList, Go.Sort.size_flatK, List.length_map, Array.length_toList]; rfl) (fun j x hx => by
    have hjl : j < d'.size := by
     have := (List.getElem?_eq_some_iff.1 hx).1
     rwa [List.length_map, Array.length_toList] at this
    have ex : x = xs.getD (d'[j]! : Nat) z29 := by
     rw [List.getElem?_map, Array.getElem?_toList, Array.getElem?_eq_getElem hjl, Option.map_some] at hx
     rw [getElem!_pos d' j hjl]
     exact (Option.some.inj hx).symm
    have hd := hlt j (by omega)
    show k29.M _ base _ x (((Go.Sort.flatK (encR xs F) 3 d').toList.drop (j * 3)).take 3)
    rw [flat_seg _ hk3 d' hjl, hen _ hd, ex]
    have hxx : xs[d'[j]!]? = some (xs.getD d'[j]! z29) := by rw [List.getD_eq_getElem?_getD, List.getElem?_eq_getElem hd]; rfl
    have hM : k29.M w base (fun b => (ok b ∧ some b ≠ (Value.slice (some ⟨g, 0, none⟩) xs.length cap).ownBlock) ∧ f b = d'[j]!) (xs.getD d'[j]! z29) ((inner.drop (d'[j]! * 3)).take 3) := hr.2 _ _ (Kd.zip_at hxx)
    exact k29.M_mono (fun b hb => ⟨hb.1, by omega, hb.2⟩) (Kd.M_step hM fun b hb hlt => heap_sw hlt fun e => hb.1.2 (by rw [e]; rfl)))
  refine ⟨f', h0, (Go.Sort.flatK (encR xs F) 3 d').toList, ?_, hf'⟩
  rw [List.length_zipIdx, List.length_map, show d'.toList.length = xs.length from p1]
  refine ⟨by rw [Array.length_toList, Go.Sort.size_flatK, p1]; rfl, .inr ⟨g, cap, _, rfl, hbase, heap_swg hheap, hncap, hmax, ?_, put_take _ _ (by rw [Go.Sort.size_flatK, p1]; rfl) ?_⟩⟩
  ·unfold Go.Sort.putCells
   rw [Array.size_mapIdx]; exact hcur
  ·rw [hcur]; exact Nat.mul_le_mul_right _ hncap
 ·exact (below_sw hglt).mono hbase
/-! impl.FinalRows: the keys of the ends, each as a row, sorted. -/
def rowIs (k : Nat) (n : Int) (ring : Bool) (x : Int) (s : S29) : Prop := impl_bench_row.f k n ring x = some (s.f0, s.f1, s.f2) ∧ impl_Row_taken.f k n ring s.f2 = some x
def rowT (k : Nat) (n : Int) (ring : Bool) (x : Int) (s : S29) : Bool := decide (impl_bench_row.f k n ring x = some (s.f0, s.f1, s.f2)) && decide (impl_Row_taken.f k n ring s.f2 = some x)
def finB (k : Nat) (n : Int) (ring : Bool) (T : Int) (S : List S29) : Bool :=
 (S.all fun s => match impl_Row_taken.f k n ring s.f2 with
  | some F => decide (0 ≤ F ∧ F < 4294967296) && (rowT k n ring F s && decide (0 < vE k n ring (oneF F) T))
  | none => false)
 && (((List.range 4294967296).all fun x : Nat => !decide (0 < vE k n ring (oneF (x : Int)) T) || S.any (rowT k n ring (x : Int)))
 && ((S.all fun a => S.all fun b => decide (slices_Compare_int_int.f k a.f2 b.f2 = some (cmpL a.f2 b.f2)))
 && (decide (S.Pairwise fun a b => cmpL a.f2 b.f2 < 0) && decide (S.length ≤ 1000000))))
structure FinOk (k : Nat) (n : Int) (ring : Bool) (T : Int) (S : List S29) : Prop where
 a1 : ∀ s ∈ S, ∃ F, 0 ≤ F ∧ F < 4294967296 ∧ rowIs k n ring F s ∧ 0 < vE k n ring (oneF F) T
 a2 : ∀ x : Int, 0 ≤ x → x < 4294967296 → 0 < vE k n ring (oneF x) T → ∃ s ∈ S, rowIs k n ring x s
 a3 : ∀ a ∈ S, ∀ b ∈ S, slices_Compare_int_int.f k a.f2 b.f2 = some (cmpL a.f2 b.f2)
 a4 : S.Pairwise fun a b => cmpL a.f2 b.f2 < 0
 a5 : S.length ≤ 1000000
theorem rowT_is {k : Nat} {n : Int} {ring : Bool} {x : Int} {s : S29} : rowT k n ring x s = true ↔ rowIs k n ring x s := by
 unfold rowT rowIs
 rw [Bool.and_eq_true, decide_eq_true_eq, decide_eq_true_eq]
theorem finB_iff {k : Nat} {n : Int} {ring : Bool} {T : Int} {S : List S29} : finB k n ring T S = true ↔ FinOk k n ring T S := by
 unfold finB
 rw [Bool.and_eq_true, Bool.and_eq_true, Bool.and_eq_true, Bool.and_eq_true, decide_eq_true_eq, decide_eq_true_eq, List.all_eq_true, List.all_eq_true, List.all_eq_true]
 constructor
 ·rintro ⟨h1, h2, h3, h4, h5⟩
  refine ⟨fun s hs => ?_, fun x x0 x1 hx => ?_, fun a ha b hb => ?_, h4, h5⟩
  ·have := h1 s hs
   cases e : impl_Row_taken.f k n ring s.f2 with
   | none => rw [e] at this; simp at this
   | some F =>
    rw [e] at this
    simp only [Bool.and_eq_true, decide_eq_true_eq] at this
    exact ⟨F, this.1.1, this.1.2, rowT_is.1 this.2.1, this.2.2⟩
  ·obtain ⟨y, rfl⟩ : ∃ y : Nat, x = y := ⟨x.toNat, by omega⟩
   have := h2 y (List.mem_range.2 (by omega))
   rw [decide_eq_true hx, Bool.not_true, Bool.false_or, List.any_eq_true] at this
   obtain ⟨s, hs, hr⟩ := this
   exact ⟨s, hs, rowT_is.1 hr⟩
  ·have := h3 a ha
   rw [List.all_eq_true] at this
   exact of_decide_eq_true (this b hb)
 ·rintro ⟨h1, h2, h3, h4, h5⟩
  refine ⟨fun s hs => ?_, fun y hy => ?_, fun a ha => List.all_eq_true.2 fun b hb => decide_eq_true (h3 a ha b hb), h4, h5⟩
  ·obtain ⟨F, f0, f1, hr, hv⟩ := h1 s hs
   rw [hr.2]
   simp only [Bool.and_eq_true, decide_eq_true_eq]
   exact ⟨⟨f0, f1⟩, rowT_is.2 hr, hv⟩
  ·have hy' := List.mem_range.1 hy
   by_cases hv : 0 < vE k n ring (oneF (y : Int)) T
   ·obtain ⟨s, hs, hr⟩ := h2 y (by omega) (by omega) hv
    rw [Bool.or_eq_true, List.any_eq_true]
    exact .inr ⟨s, hs, rowT_is.2 hr⟩
   ·rw [decide_eq_false hv]; rfl
def impl_FinalRows.f (k : Nat) (n : Int) (ring : Bool) (l : List Int) (S : List S29) : Option Bool :=
 (impl_isFilled.f k n ring l).bind fun b => if b = true then (impl_Row_taken.f k n ring l).bind fun T => if fldB k n ring 13 T = true ∧ finB k n ring T S = true then some true else none else if S.length = 0 then some false else none
theorem rws_none {F : Int} : ∀ {l : List (Lit × DataW Unit)}, (∀ p ∈ l, kx p.1 ≠ F) → rws (oneF F) l = 0
 | [], _ => rfl
 | p :: r, h => by
  simp only [rws]
  rw [rws_none fun q hq => h q (by simp [hq])]
  unfold oneF
  rw [if_neg (h p (by simp))]
  grind
section
variable {k : Nat} {n : Int} {ring : Bool} {T : Int} {w wr : World} {bE cE : Nat} {es : List (Lit × DataW Unit)}
theorem En.pos_of (h : En k n ring T w wr bE cE es) {x c : Int} (hat : (Lit.int .u32 x, DataW.lit (Lit.int .i64 c)) ∈ es) (ha : ∀ zd, (DataW.map es).atKey (.int .u32 x) zd = .lit (.int .i64 c)) : 0 < vE k n ring (oneF x) T := by
 have h1 := h.sum (oneF x)
 have h2 : rws (oneF x) es = (c : Rat) := ind_sum h.pair h.key (ha _)
 have h3 : 0 < c := h.pos _ hat
 rw [h2] at h1
 have h4 : (0 : Rat) < (c : Rat) := by exact_mod_cast h3
 grind
theorem En.key_of (h : En k n ring T w wr bE cE es) {F : Int} (hv : 0 < vE k n ring (oneF F) T) : ∃ p ∈ es, p.1 = Lit.int .u32 F := by
 refine Classical.byContradiction fun hc => ?_
 have h1 := h.sum (oneF F)
 rw [rws_none fun p hp e => hc ⟨p, hp, by obtain ⟨x, hx, _⟩ := h.key p hp; rw [hx] at e ⊢; rw [← e]; rfl⟩] at h1
 grind
/-- What the rounds have made so far. -/
structure Rw (k : Nat) (n : Int) (ring : Bool) (S : List S29) (es : List (Lit × DataW Unit)) (left : Lit → Bool) (xs : List S29) : Prop where
 i1 : ∀ s ∈ xs, s ∈ S ∧ ∃ x, left (.int .u32 x) = false ∧ impl_Row_taken.f k n ring s.f2 = some x
 i2 : xs.Nodup
 i3 : ∀ p ∈ es, left p.1 = false → ∃ s ∈ xs, rowIs k n ring (kx p.1) s
theorem Rw.start {S : List S29} (hk : ∀ p ∈ es, WideAt.IsKeyLit p.1) : Rw k n ring S es (Maps.has (.map es)) [] :=
 ⟨fun s hs => by simp at hs, List.nodup_nil, fun p hp hl => by
  have h1 : Maps.has (.map es) p.1 = true := List.any_eq_true.2 ⟨p, hp, WideAt.sameKey_self (hk p hp)⟩
  rw [h1] at hl; cases hl⟩
theorem Rw.step {S xs : List S29} {left : Lit → Bool} {x : Int} {s : S29} (h : Rw k n ring S es left xs) (hl : left (.int .u32 x) = true) (hs : s ∈ S) (hr : rowIs k n ring x s) : Rw k n ring S es (fun z => left z && !z.sameKey (.int .u32 x)) (xs ++ [s]) := by
 refine ⟨fun z hz => ?_, ?_, fun p hp hp2 => ?_⟩
 ·rcases List.mem_append.1 hz with hz | hz
  ·obtain ⟨z1, y, hy, hy2⟩ := h.i1 z hz
   exact ⟨z1, y, by rw [hy]; rfl, hy2⟩
  ·rw [List.mem_singleton] at hz
   subst hz
   have hself : (Lit.int .u32 x).sameKey (Lit.int .u32 x) = true := WideAt.sameKey_self (a := .int .u32 x) trivial
   exact ⟨hs, x, by rw [hself]; simp, hr.2⟩
 ·rw [List.nodup_append]
  refine ⟨h.i2, by simp, fun a ha b hb e => ?_⟩
  rw [List.mem_singleton] at hb
  subst hb; subst e
  obtain ⟨-, y, hy, hy2⟩ := h.i1 a ha
  rw [hr.2] at hy2
  injection hy2 with hy2
  subst hy2
  rw [hl] at hy; cases hy
 ·by_cases c : left p.1 = true
  ·rw [c, Bool.true_and, Bool.not_eq_false'] at hp2
   have e := WideAt.sameKey_eq hp2
   rw [e]
   exact ⟨s, by simp, hr⟩
  ·obtain ⟨z, hz, hz2⟩ := h.i3 p hp (by simpa using c)
   exact ⟨z, List.mem_append.2 (.inl hz), hz2⟩
theorem Rw.done {S xs : List S29} {left : Lit → Bool} (h : Rw k n ring S es left xs) (hl : ∀ z, left z = false) (hE : En k n ring T w wr bE cE es) (hF : FinOk k n ring T S) : xs.Perm S ∧ 0 < xs.length := by
 have hne : 0 < xs.length := by
  cases e : es with
  | nil => have := hE.one; rw [e] at this; simp [ws] at this
  | cons p r =>
   obtain ⟨s, hs, _⟩ := h.i3 p (by rw [e]; simp) (hl _)
   exact List.length_pos_of_mem hs
 refine ⟨(List.perm_ext_iff_of_nodup h.i2 (hF.a4.imp fun {a b} hab e => by subst e; rw [cmpL_self] at hab; exact absurd hab (by decide))).2 fun s => ⟨fun hs => (h.i1 s hs).1, fun hs => ?_⟩, hne⟩
 obtain ⟨F, f0, f1, hr, hv⟩ := hF.a1 s hs
 obtain ⟨p, hp, e⟩ := hE.key_of hv
 obtain ⟨z, hz, hz2⟩ := h.i3 p hp (hl _)
 rw [e] at hz2
 have h1 := hr.1.symm.trans hz2.1
 injection h1 with h1
 have h2 : s = z := by
  cases s; cases z
  simp only [Prod.mk.injEq] at h1
  obtain ⟨rfl, rfl, rfl⟩ := h1
  rfl
 rw [h2]
 exact hz
theorem sorted_one {S ys : List S29} (hp : ys.Perm S) (hs : ys.Pairwise fun a b => ¬ cmpL b.f2 a.f2 < 0) (hF : FinOk k n ring T S) : ys = S := by
 have key : ∀ a ∈ S, ∀ b ∈ S, ¬ cmpL a.f2 b.f2 < 0 → ¬ cmpL b.f2 a.f2 < 0 → a = b := fun a ha b hb h1 h2 => by
  obtain ⟨i, hi, rfl⟩ := List.getElem_of_mem ha
  obtain ⟨j, hj, rfl⟩ := List.getElem_of_mem hb
  have h4 := List.pairwise_iff_getElem.1 hF.a4
  rcases Nat.lt_trichotomy i j with h | h | h
  ·exact absurd (h4 i j hi hj h) h1
  ·subst h; rfl
  ·exact absurd (h4 j i hj hi h) h2
 refine List.Perm.eq_of_pairwise (le := fun a b : S29 => ¬ cmpL b.f2 a.f2 < 0) (fun a b ha hb h1 h2 => key a (hp.mem_iff.1 ha) b hb h2 h1) hs (hF.a4.imp fun {a b} hab hba => ?_) hp
 have := cmpL_trans _ _ _ hab hba
 rw [cmpL_self] at this
 exact absurd this (by decide)
end
theorem nodup_len {α : Type} : ∀ {l m : List α}, l.Nodup → (∀ x ∈ l, x ∈ m) → l.length ≤ m.length
 | [], _, _, _ => Nat.zero_le _
 | x :: l, m, h, hs => by
  obtain ⟨s, t, rfl⟩ := List.append_of_mem (hs x (by simp))
  obtain ⟨h1, h2⟩ := List.nodup_cons.1 h
  have ih := nodup_len (m := s ++ t) h2 fun y hy => by
   rcases List.mem_append.1 (hs y (by simp [hy])) with h | h
   ·exact List.mem_append.2 (.inl h)
   ·rcases List.mem_cons.1 h with h | h
    ·subst h; exact absurd hy h1
    ·exact List.mem_append.2 (.inr h)
  simp only [List.length_append, List.length_cons] at ih ⊢
  omega
theorem inf29b : (Tryd.prog.info? 29).map (fun i => (i.zero, i.size, i.bytes)) = some (some (.agg #[(.int .i64 0), (.bool false), (.slice none 0 0)]), 3, 40) := by kernel_rfl
theorem zero29b : ((Value.agg #[(.int .i64 0), (.bool false), (.slice none 0 0)] : Value).cells).size = 3 := by kernel_rfl
theorem S_empty29 (w : World) (base g : Nat) (hb : base ≤ g) (h : w.heap[g]? = some (.cells #[] 29 (0, 0))) : Kd.S k29 29 w base (fun b => b = g) (.slice (some ⟨g, 0, none⟩) 0 0) [] :=
 ⟨fun _ => 0, fun b hb => by simp only [Value.ownBlock, Option.some.injEq] at hb; exact hb.symm, [], ⟨rfl, .inr ⟨g, 0, #[], rfl, hb, h, Nat.le_refl _, Nat.zero_le _, rfl, rfl⟩⟩, Reps.none _ _⟩
theorem final_yes (k : Nat) (n : Int) (ring : Bool) (A : Option Addr) (c : Nat) (l : List Int) (T : Int) (S : List S29) (w : World) (hr : Kd.C (Kd.int .i64) w A l.length l) (hc : l.length ≤ c) (hT : XTab w) (hi : impl_isFilled.f k n ring l = some true) (ht : impl_Row_taken.f k n ring l = some T) (hk : fldOk k n ring 13 T) (hF : FinOk k n ring T S) :
  Calls Tryd.prog 14 #[.agg #[.int .i64 n, .bool ring, .slice A l.length c]] w fun e w' => ∃ v, e = .returned (.tuple #[v, .bool true]) ∧ Kd.S k29 29 w' w.heap.size (fun _ => True) v S ∧ Below w.heap.size w w' := by
 have hu29 := Tryd.underlying29
 have hu34 := Tryd.underlying34
 have HR := A_.mk hr
 have HC := A_.mk hc
 have HT := A_.mk hT
 have HI := A_.mk hi
 have HTK := A_.mk ht
 have HK := A_.mk hk
 have HF := A_.mk hF
 have HBw := A_.mk (Below.refl w.heap.size w)
 clear hr hc hT hi ht hk hF
 go_enter Tryd.func14, Tryd.ntmps14
 go_upto_region 1 with (first
  | ((with_reducible refine gate_dst (N := 1) rfl ?_); refine box_event ?hg (N := 1) ?hd (cs := #[.int .i64 n, .bool ring, .slice A l.length c]) (t := 29) ?hr ?_; (case hd => rfl); (case hg => rfl); (case hr => (go_simp; done)); intro ga hg w1 hbox hb; have BA1 := A_.mk hbox; have B1 := A_.mk (below_step HBw.out hb); have GA := A_.mk (show w.heap.size ≤ ga by rw [hg]; exact below_size HBw.out); clear hg hbox hb))
 have s0 : w1.cell? ⟨ga, 0, none⟩ = some (.int .i64 n) := (blk_cell BA1.out 0).trans rfl
 have s1 : w1.cell? ⟨ga, 1, none⟩ = some (.bool ring) := (blk_cell BA1.out 1).trans rfl
 have s2 : w1.cell? ⟨ga, 2, none⟩ = some (.slice A l.length c) := (blk_cell BA1.out 2).trans rfl
 go_upto_region 3 with (first
  | (go_at_call 36; (with_reducible refine (impl_isFilled.calls k n ring A c l true _ (Kd.C_below HR.out B1.out) HC.out HI.out).mono ?_); rintro e w2 ⟨rfl, hb⟩; have B2 := A_.mk (below_step B1.out hb); have BA2 := A_.mk (blk_below (g := ga) (o := .cells #[.int .i64 n, .bool ring, .slice A l.length c] 29 (0, 0)) BA1.out hb); clear hb s0 s1 s2))
 clear B1 BA1
 have s0 : w2.cell? ⟨ga, 0, none⟩ = some (.int .i64 n) := (blk_cell BA2.out 0).trans rfl
 have s1 : w2.cell? ⟨ga, 1, none⟩ = some (.bool ring) := (blk_cell BA2.out 1).trans rfl
 have s2 : w2.cell? ⟨ga, 2, none⟩ = some (.slice A l.length c) := (blk_cell BA2.out 2).trans rfl
 have E3 := A_.mk (show (w2.alloc (.cells #[] 29)).heap[w2.heap.size]? = some (.cells #[] 29 (0, 0)) from blk_new w2 _)
 have B3 := A_.mk (below_alloc B2.out (.cells #[] 29))
 have BA3 := A_.mk (blk_alloc BA2.out (.cells #[] 29))
 have G0 := A_.mk (below_size B2.out)
 have GL := A_.mk (show ga < w2.heap.size from blk_lt BA2.out)
 obtain ⟨g0, hg0⟩ : ∃ g, g = w2.heap.size := ⟨_, rfl⟩
 clear s0 s1 s2 B2 BA2
 go_upto_region 4 with fail
 rw [← hg0] at E3 G0 GL ⊢
 clear hg0
 generalize w2.alloc (.cells #[] 29) = w3 at E3 B3 BA3 ⊢
 have s0 : w3.cell? ⟨ga, 0, none⟩ = some (.int .i64 n) := (blk_cell BA3.out 0).trans rfl
 have s1 : w3.cell? ⟨ga, 1, none⟩ = some (.bool ring) := (blk_cell BA3.out 1).trans rfl
 have s2 : w3.cell? ⟨ga, 2, none⟩ = some (.slice A l.length c) := (blk_cell BA3.out 2).trans rfl
 have S3 := A_.mk (S_empty29 w3 w.heap.size g0 G0.out E3.out)
 have L3 := A_.mk (blk_lt E3.out)
 have LA := A_.mk (blk_lt BA3.out)
 go_wp2_with (first
  | (go_at_call 29; (with_reducible refine (ends_calls k n ring A c l T _ (Kd.C_below HR.out B3.out) HC.out (XTab.below HT.out B3.out) HTK.out HK.out).mono ?_); rintro e w4 ⟨bE, cE, es, rfl, hE⟩; have EN := A_.mk (hE.low B3.out); have LO := A_.mk hE.lo; have S4 := A_.mk (Kd.S_below S3.out hE.bel); have BA4 := A_.mk (blk_below (g := ga) (o := .cells #[.int .i64 n, .bool ring, .slice A l.length c] 29 (0, 0)) BA3.out hE.bel); have ZZ4 := A_.mk (below_size hE.bel); clear hE s0 s1 s2)
  | (at_range; refine wpList_range_own _ rfl _ 53 rfl 56 3 law56 Tryd.underlying53 _ bE cE _ rfl EN.out.own ?_; intro w6 hrg6 hg6 hs6)
  | go_in)
 go_frame
 have hkl : ∀ p ∈ es, WideAt.IsKeyLit p.1 := by obtain ⟨es', e, _, h⟩ := EN.out.own.entries law56; cases e; exact h
 have HKL := A_.mk hkl
 have ELT := A_.mk EN.out.own.lt
 have hsz4 := below_size EN.out.bel
 obtain ⟨r, hrr⟩ : ∃ r, r = w4.heap.size := ⟨_, rfl⟩
 rw [← hrr] at hrg6 hsz4 ⊢
 have RG6 := A_.mk hrg6
 have B6 := A_.mk (EN.out.bel.grown hg6 (by rw [← hrr]; exact hsz4) (fun j hj => by cases hj))
 have BA6 := A_.mk ((hg6.block ga (by have := LA.out; have := ZZ4.out; omega) (by simp)).trans BA4.out)
 have S6 := A_.mk (Kd.S_mono (ok' := fun b => w.heap.size ≤ b ∧ b ≠ bE ∧ b ≠ r ∧ b ≠ ga) (Kd.S_grown S4.out hg6 (fun _ _ => by simp)) (fun b hb => ⟨by rw [hb]; exact G0.out, by have := LO.out; have := L3.out; omega, by have := ZZ4.out; have := L3.out; omega, by have := GL.out; omega⟩))
 have HS6 := A_.mk (show bE < w6.heap.size ∧ r < w6.heap.size from ⟨by have := ELT.out; rw [hs6]; omega, by rw [hs6]; omega⟩)
 have HAR := A_.mk (show ga ≠ r ∧ ga < r from by have := LA.out; have := ZZ4.out; omega)
 clear hkl hsz4 hrg6 hg6 hs6 S3 S4 BA3 BA4 B3 E3 hrr
 go_loopg [4] (Maps.size (.map es)) (fun kq v4 w' => ∃ (left : Lit → Bool) (xs : List S29), A_ (w'.ranges Tryd.prog 56 (plainElem (H := Unit) Tryd.prog 3) bE r cE (.map es) left kq) ∧ A_ (Rw k n ring S es left xs) ∧ A_ (Kd.S k29 29 w' w.heap.size (fun b => w.heap.size ≤ b ∧ b ≠ bE ∧ b ≠ r ∧ b ≠ ga) v4 xs) ∧ A_ (Below w.heap.size w w') ∧ A_ (w'.heap[ga]? = some (.cells #[.int .i64 n, .bool ring, .slice A l.length c] 29 (0, 0))) ∧ A_ (bE < w'.heap.size ∧ r < w'.heap.size))
 case atStart => exact ⟨_, [], RG6, ⟨Rw.start HKL.out⟩, S6, B6, BA6, HS6⟩
 case round =>
  clear RG6 S6 B6 BA6 HS6
  obtain ⟨left, xs, RG, RW, SS, HBq, BAq, HSq⟩ := hrel
  go_wp2_with (first
   | (at_next; refine wpList_next_ranges_ii _ rfl _ rfl 56 3 .u32 .i64 law56 Tryd.underlying56 Tryd.underlying3 bE r cE _ _ _ rfl RG.out ?_ ?_)
   | go_in)
  ·intro hc0 hl0
   obtain ⟨hp, hne⟩ := RW.out.done hl0 EN.out HF.out
   have hlen := hp.length_eq
   have HP := A_.mk hp
   have HNE := A_.mk hne
   have HSZ := A_.mk (show xs.length < 4611686018427387904 by have := HF.out.a5; omega)
   clear hc0 hl0 hp hne hlen
   go_wp2_with (go_at_call 39; (with_reducible refine (sort_calls k xs _ w.heap.size _ _ SS.out HNE.out HSZ.out (fun a ha b hb => HF.out.a3 a (HP.out.mem_iff.1 ha) b (HP.out.mem_iff.1 hb))).mono ?_); rintro e w8 ⟨rfl, ys, hy1, hy2, hy3, hy4⟩; have Y1 := A_.mk hy1; have Y2 := A_.mk hy2; have Y3 := A_.mk hy3; have B8 := A_.mk (HBq.out.trans hy4); clear hy1 hy2 hy3 hy4)
   go_ret2
   refine ⟨_, rfl, ?_, B8.out⟩
   have e := sorted_one (Y1.out.trans HP.out) (Y2.out.imp fun {a b} h => Int.not_lt.mpr h) HF.out
   rw [← e]
   exact Kd.S_mono Y3.out fun _ _ => trivial
  ·intro x cx w7 cnt7 hwx hwc hlx hat hrg7 hlt7 hg7 hs7 hen
   have hmem := at_mem hat
   have hx : 0 ≤ x ∧ x < 4294967296 := by
    obtain ⟨x', e, h0, h1⟩ := EN.out.key _ hmem
    cases e
    exact ⟨h0, h1⟩
   obtain ⟨s, hs, hrow⟩ := HF.out.a2 x hx.1 hx.2 (EN.out.pos_of hmem hat)
   have HSM := A_.mk hs
   have HRW := A_.mk hrow.1
   have RG7 := A_.mk hrg7
   have HLT7 := A_.mk hlt7
   have HLX := A_.mk hlx
   have B7 := A_.mk (HBq.out.grown hg7 (below_size HBq.out) (fun j hj => by cases hj; have := HAR.out; have := GA.out; omega))
   have BA7 := A_.mk ((hg7.block ga (by have := HAR.out; have := HSq.out; omega) (by have := HAR.out; intro e; exact this.1 (Option.some.inj e))).trans BAq.out)
   have SS7 := A_.mk (Kd.S_grown SS.out hg7 (fun b hb e => hb.2.2.1 (Option.some.inj e)))
   have HS7 := A_.mk (show bE < w7.heap.size ∧ r < w7.heap.size by rw [hs7]; exact HSq.out)
   have RWn := A_.mk (RW.out.step hlx hs hrow)
   have LEN := A_.mk (show (xs.length + 1) * 40 ≤ 140737488355328 from by
    have h1 := nodup_len RW.out.i2 fun z hz => (RW.out.i1 z hz).1
    have h2 := HF.out.a5
    omega)
   obtain ⟨f7, h07, -⟩ := SS7.out
   have H07 := A_.mk h07
   have s0 : w7.cell? ⟨ga, 0, none⟩ = some (.int .i64 n) := (blk_cell BA7.out 0).trans rfl
   have s1 : w7.cell? ⟨ga, 1, none⟩ = some (.bool ring) := (blk_cell BA7.out 1).trans rfl
   have s2 : w7.cell? ⟨ga, 2, none⟩ = some (.slice A l.length c) := (blk_cell BA7.out 2).trans rfl
   clear hmem hx hs hrow hwx hwc hlx hat hrg7 hlt7 hg7 hs7 h07 RG HBq BAq SS HSq RW
   go_wp2_with (first
    | (go_at_call 37; (with_reducible refine (impl_Row_bench.calls n ring A c l n ring _ (Kd.C_below HR.out B7.out) HC.out rfl).mono ?_); rintro e w8 ⟨rfl, hb⟩; have RG8 := A_.mk (RG7.out.kept (grown_of_below hb none) (by simp) (by simp)); have B8 := A_.mk (below_step B7.out hb); have BA8 := A_.mk (blk_below (g := ga) (o := .cells #[.int .i64 n, .bool ring, .slice A l.length c] 29 (0, 0)) BA7.out hb); have SS8 := A_.mk (Kd.S_below SS7.out hb); have HS8 := A_.mk (show bE < w8.heap.size ∧ r < w8.heap.size from ⟨Nat.lt_of_lt_of_le HS7.out.1 hb.size, Nat.lt_of_lt_of_le HS7.out.2 hb.size⟩); clear hb s0 s1 s2)
    | (go_at_call 38; (with_reducible refine (impl_bench_row.calls k n ring x s.f0 s.f1 s.f2 _ (XTab.below HT.out B8.out) HRW.out).mono ?_); rintro e w9 ⟨v2, rfl, hr2, hb⟩; have RG9 := A_.mk (RG8.out.kept (grown_of_below hb none) (by simp) (by simp)); have B9 := A_.mk (below_step B8.out hb); have BA9 := A_.mk (blk_below (g := ga) (o := .cells #[.int .i64 n, .bool ring, .slice A l.length c] 29 (0, 0)) BA8.out hb); have SS9 := A_.mk (Kd.S_old SS8.out hb); have R9 := A_.mk (Kd.R_mono (ok' := fun b => w8.heap.size ≤ b) (Kd.R_lower (Kd.R_bound hr2) (below_size B8.out)) (fun b hb => hb.2.1)); have HS9 := A_.mk (show bE < w9.heap.size ∧ r < w9.heap.size ∧ ga < w9.heap.size from ⟨Nat.lt_of_lt_of_le HS8.out.1 hb.size, Nat.lt_of_lt_of_le HS8.out.2 hb.size, Nat.lt_of_lt_of_le (blk_lt BA8.out) hb.size⟩); clear hb hr2)
    | ((with_reducible refine gate_builtin (b := .append) (xs := #[.tmp 17, .tmp 22]) rfl ?_); at_builtin; refine Kd.S_append k29 (w0 := w) w.heap.size rfl (.tmp 17) (.tmp 22) 34 29 (.agg #[(.int .i64 0), (.bool false), (.slice none 0 0)]) 40 rfl Tryd.underlying34 inf29b zero29b (by decide) (by omega) _ xs s [.int .i64 s.f0, .bool s.f1, v2] (fun b => w.heap.size ≤ b ∧ b ≠ bE ∧ b ≠ r ∧ b ≠ ga) (fun b => w8.heap.size ≤ b) rfl rfl ?aP ?aK ?aF ?aO ?aB ?aS ?aL ?_; (case aP => exact k29_mkM _ _ _ s R9.out); (case aK => exact fun b hb => ⟨⟨by have := below_size B8.out; omega, by have := HS8.out; omega, by have := HS8.out; omega, by have := blk_lt BA8.out; omega⟩, fun e => by have := Kd.S_lt SS8.out b e.symm; omega⟩); (case aF => exact fun b hb => ⟨by have := below_size B9.out; omega, by have := HS9.out; omega, by have := HS9.out; omega, by have := HS9.out; omega⟩); (case aO => exact Kd.S_mono SS9.out fun b hb => ⟨hb.1, by omega⟩); (case aB => exact B9.out); (case aS => exact below_size B9.out); (case aL => exact LEN.out); intro v1 w10 hs1 hb1 hg1 hat1; have S10 := A_.mk hs1; have B10 := A_.mk hb1; have RG10 := A_.mk (RG9.out.kept hg1 (fun e => (H07.out bE e.symm).2.1 rfl) (fun e => (H07.out r e.symm).2.2.1 rfl)); have BA10 := A_.mk ((hg1.block ga HS9.out.2.2 (fun e => (H07.out ga e.symm).2.2.2 rfl)).trans BA9.out); have HS10 := A_.mk (show bE < w10.heap.size ∧ r < w10.heap.size from ⟨Nat.lt_of_lt_of_le HS9.out.1 hg1.size, Nat.lt_of_lt_of_le HS9.out.2.1 hg1.size⟩); clear hs1 hb1 hg1 hat1))
   have h7 := HLT7.out
   go_roundg cnt7
   case measure => exact h7
   case rel => exact ⟨_, xs ++ [s], RG10, RWn, S10, B10, BA10, HS10⟩
theorem final_no (k : Nat) (n : Int) (ring : Bool) (A : Option Addr) (c : Nat) (l : List Int) (w : World) (hr : Kd.C (Kd.int .i64) w A l.length l) (hc : l.length ≤ c) (hi : impl_isFilled.f k n ring l = some false) :
  Calls Tryd.prog 14 #[.agg #[.int .i64 n, .bool ring, .slice A l.length c]] w fun e w' => e = .returned (.tuple #[.slice none 0 0, .bool false]) ∧ Below w.heap.size w w' := by
 have HR := A_.mk hr
 have HC := A_.mk hc
 have HI := A_.mk hi
 have HBw := A_.mk (Below.refl w.heap.size w)
 clear hr hc hi
 go_enter Tryd.func14, Tryd.ntmps14
 go_upto_region 1 with (first
  | ((with_reducible refine gate_dst (N := 1) rfl ?_); refine box_event ?hg (N := 1) ?hd (cs := #[.int .i64 n, .bool ring, .slice A l.length c]) (t := 29) ?hr ?_; (case hd => rfl); (case hg => rfl); (case hr => (go_simp; done)); intro ga hg w1 hbox hb; have BA1 := A_.mk hbox; have B1 := A_.mk (below_step HBw.out hb); clear hg hbox hb))
 have s0 : w1.cell? ⟨ga, 0, none⟩ = some (.int .i64 n) := (blk_cell BA1.out 0).trans rfl
 have s1 : w1.cell? ⟨ga, 1, none⟩ = some (.bool ring) := (blk_cell BA1.out 1).trans rfl
 have s2 : w1.cell? ⟨ga, 2, none⟩ = some (.slice A l.length c) := (blk_cell BA1.out 2).trans rfl
 go_wp2_with (go_at_call 36; (with_reducible refine (impl_isFilled.calls k n ring A c l false _ (Kd.C_below HR.out B1.out) HC.out HI.out).mono ?_); rintro e w2 ⟨rfl, hb⟩; have B2 := A_.mk (below_step B1.out hb); clear hb s0 s1 s2)
 go_ret2
 exact ⟨rfl, B2.out⟩
theorem impl_FinalRows.calls (k : Nat) (n : Int) (ring : Bool) (A : Option Addr) (c : Nat) (l : List Int) (S : List S29) (b : Bool) (w : World) (hr : Kd.C (Kd.int .i64) w A l.length l) (hc : l.length ≤ c) (hT : XTab w) (h : impl_FinalRows.f k n ring l S = some b) :
  Calls Tryd.prog 14 #[.agg #[.int .i64 n, .bool ring, .slice A l.length c]] w fun e w' => ∃ v, e = .returned (.tuple #[v, .bool b]) ∧ Kd.S k29 29 w' w.heap.size (fun _ => True) v S ∧ Below w.heap.size w w' := by
 unfold impl_FinalRows.f at h
 obtain ⟨b0, hi, h⟩ := Option.bind_eq_some_iff.mp h
 cases b0 with
 | false =>
  rw [if_neg (by decide)] at h
  by_cases c0 : S.length = 0
  ·rw [if_pos c0] at h
   obtain rfl := Option.some.inj h
   obtain rfl := List.eq_nil_of_length_eq_zero c0
   refine (final_no k n ring A c l w hr hc hi).mono ?_
   rintro e w' ⟨rfl, hb⟩
   exact ⟨_, rfl, Kd.S_nil _ _ _ _ _, hb⟩
  ·rw [if_neg c0] at h; cases h
 | true =>
  rw [if_pos rfl] at h
  obtain ⟨T, ht, h⟩ := Option.bind_eq_some_iff.mp h
  by_cases c0 : fldB k n ring 13 T = true ∧ finB k n ring T S = true
  ·rw [if_pos c0] at h
   obtain rfl := Option.some.inj h
   exact final_yes k n ring A c l T S w hr hc hT hi ht ((fldB_iff _ _ _ _ _).1 c0.1) (finB_iff.1 c0.2)
  ·rw [if_neg c0] at h; cases h

end Go.Proofs.YtihifglmnjocfaaDoor.PFnExactFinalRows
