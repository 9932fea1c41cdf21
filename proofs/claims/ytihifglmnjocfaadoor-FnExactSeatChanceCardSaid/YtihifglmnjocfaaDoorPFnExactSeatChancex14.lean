/- Given functions as plain Lean functions, and that their calls answer these. -/
import Derived.Test.YtihifglmnjocfaaDoorPFnExactSeatChancex0
import Derived.Test.YtihifglmnjocfaaDoorPFnExactSeatChancex9
import Derived.Test.YtihifglmnjocfaaDoorPFnExactSeatChancex11
import Derived.Test.YtihifglmnjocfaaDoorPFnExactSeatChancex12
import Derived.Test.YtihifglmnjocfaaDoorPFnExactSeatChancex13
namespace Go.Proofs.YtihifglmnjocfaaDoor.PFnExactSeatChance
open Go.RowKit Go.Proofs.YtihifglmnjocfaaDoorW.PrintWords Go.Proofs.YtihifglmnjocfaaDoorW.PrintLast Go.Proofs.YtihifglmnjocfaaDoorW.PrintMore
attribute [local go_sem] max2_int min2_int max_two min_two max_three min_three max_four min_four
set_option maxHeartbeats 8000000
set_option maxRecDepth 100000
set_option linter.unusedVariables false
set_option linter.unusedSimpArgs false

/-! ### impl_SeatChance: function 22 -/
set_option linter.unnecessarySimpa false
open Go.Maps
/-! What a map of numbers comes to: the sum over its entries of the element times a weight of the key. -/
section
variable {H : Type}
def kx : Lit → Int
 | .int _ x => x
 | _ => 0
def vx {H : Type} : DataW H → Int
 | .lit (.int _ c) => c
 | _ => 0
def ents {H : Type} : DataW H → List (Lit × DataW H)
 | .map es => es
 | _ => []
def ws {H : Type} (g : Int → Int) : List (Lit × DataW H) → Int
 | [] => 0
 | p :: r => vx p.2 * g (kx p.1) + ws g r
/-- .. over those that are no longer to come. -/
def wl {H : Type} (g : Int → Int) (left : Lit → Bool) : List (Lit × DataW H) → Int
 | [] => 0
 | p :: r => (if left p.1 = true then 0 else vx p.2 * g (kx p.1)) + wl g left r
theorem ws_insert (g : Int → Int) (x : Lit × DataW H) : ∀ l : List (Lit × DataW H), ws g (DataW.insert x l) = vx x.2 * g (kx x.1) + ws g l
 | [] => by simp [DataW.insert, ws]
 | y :: r => by
  unfold DataW.insert
  by_cases c : x.1.before y.1 = true
  ·rw [if_pos c]; rfl
  ·rw [if_neg c]
   simp only [ws]
   rw [ws_insert g x r]
   omega
theorem mem_insert {x p : Lit × DataW H} : ∀ {l : List (Lit × DataW H)}, p ∈ DataW.insert x l → p = x ∨ p ∈ l
 | [], h => by simp [DataW.insert] at h; exact .inl h
 | y :: r, h => by
  unfold DataW.insert at h
  by_cases c : x.1.before y.1 = true
  ·rw [if_pos c] at h
   exact List.mem_cons.1 h
  ·rw [if_neg c] at h
   rcases List.mem_cons.1 h with h | h
   ·exact .inr (by simp [h])
   ·rcases mem_insert h with h | h
    ·exact .inl h
    ·exact .inr (by simp [h])
theorem filter_none {k : Lit} : ∀ {l : List (Lit × DataW H)}, (∀ p ∈ l, p.1 ≠ k) → l.filter (fun p => !p.1.sameKey k) = l
 | [], _ => rfl
 | p :: r, h => by
  have h1 : p.1.sameKey k = false := by
   cases e : p.1.sameKey k with
   | false => rfl
   | true => exact absurd (WideAt.sameKey_eq e) (h p (by simp))
  rw [List.filter_cons, if_pos (by simp [h1]), filter_none fun q hq => h q (by simp [hq])]
theorem ws_filter (g : Int → Int) {k : Lit} : ∀ {l : List (Lit × DataW H)}, l.Pairwise (fun p q => p.1 ≠ q.1) → ws g (l.filter fun p => !p.1.sameKey k) = ws g l - (match l.find? (fun p => p.1.sameKey k) with | some p => vx p.2 * g (kx p.1) | none => 0)
 | [], _ => by simp [ws]
 | p :: r, h => by
  obtain ⟨h1, h2⟩ := List.pairwise_cons.1 h
  rw [List.filter_cons, List.find?_cons]
  by_cases c : p.1.sameKey k = true
  ·have e := WideAt.sameKey_eq c
   rw [if_neg (by simp [c]), filter_none fun q hq he => h1 q hq (e.trans he.symm)]
   simp only [c, ws]
   omega
  ·have c' : p.1.sameKey k = false := by simpa using c
   rw [if_pos (by simp [c'])]
   simp only [c', ws]
   rw [ws_filter g h2]
   omega
theorem ws_put (g : Int → Int) {q q' : IntKind} {x c v : Int} {l : List (Lit × DataW H)} (hp : l.Pairwise (fun p q => p.1 ≠ q.1)) (hat : (DataW.map l).atKey (.int q x) (.lit (.int q' 0)) = .lit (.int q' c)) :
  ws g (ents ((DataW.map l).put (.int q x) (.lit (.int q' (c + v))))) = ws g l + v * g x := by
 simp only [DataW.put, ents, ws_insert, ws_filter g hp]
 simp only [DataW.atKey] at hat
 cases e : l.find? (fun p => p.1.sameKey (.int q x)) with
 | none =>
  rw [e] at hat
  simp only [DataW.lit.injEq, Lit.int.injEq, true_and] at hat
  subst hat
  simp [vx, kx]
  omega
 | some p =>
  rw [e] at hat
  have hk := WideAt.sameKey_eq (by simpa using List.find?_some e)
  simp only at hat
  simp only [vx, kx, hat, hk, Int.add_mul]
  omega
theorem mem_put {k : Lit} {d : DataW H} {l : List (Lit × DataW H)} {p : Lit × DataW H} (h : p ∈ ents ((DataW.map l).put k d)) : p = (k, d) ∨ p ∈ l := by
 simp only [DataW.put, ents] at h
 rcases mem_insert h with h | h
 ·exact .inl h
 ·exact .inr (List.mem_filter.1 h).1
theorem at_mem {q : IntKind} {k : Lit} {c : Int} {l : List (Lit × DataW H)} (hat : ∀ zd, (DataW.map l).atKey k zd = .lit (.int q c)) : (k, .lit (.int q c)) ∈ l := by
 have h := hat .nil
 simp only [DataW.atKey] at h
 cases e : l.find? (fun p => p.1.sameKey k) with
 | none => rw [e] at h; cases h
 | some p =>
  rw [e] at h
  have hk := WideAt.sameKey_eq (by simpa using List.find?_some e)
  have hm := List.mem_of_find?_eq_some e
  simp only at h
  rw [← hk, ← h]
  exact hm
theorem wl_same (g : Int → Int) (left : Lit → Bool) {k : Lit} : ∀ {l : List (Lit × DataW H)}, (∀ p ∈ l, p.1 ≠ k) → wl g (fun z => left z && !z.sameKey k) l = wl g left l
 | [], _ => rfl
 | p :: r, h => by
  have h1 : p.1.sameKey k = false := by
   cases e : p.1.sameKey k with
   | false => rfl
   | true => exact absurd (WideAt.sameKey_eq e) (h p (by simp))
  simp only [wl, h1, Bool.not_false, Bool.and_true]
  rw [wl_same g left fun q hq => h q (by simp [hq])]
theorem wl_step (g : Int → Int) (left : Lit → Bool) {q : IntKind} {k : Lit} {c : Int} (hk : WideAt.IsKeyLit k) (hl : left k = true) : ∀ {l : List (Lit × DataW H)}, l.Pairwise (fun p q => p.1 ≠ q.1) → (k, .lit (.int q c)) ∈ l → wl g (fun z => left z && !z.sameKey k) l = wl g left l + c * g (kx k)
 | [], _, h => by simp at h
 | p :: r, hp, h => by
  obtain ⟨h1, h2⟩ := List.pairwise_cons.1 hp
  rcases List.mem_cons.1 h with e | h
  ·subst e
   simp only [wl]
   rw [wl_same g left fun q hq => fun he => h1 q hq he.symm]
   simp [hl, WideAt.sameKey_self hk, vx]
   omega
  ·have hne : p.1 ≠ k := h1 _ h
   have h3 : p.1.sameKey k = false := by
    cases e : p.1.sameKey k with
    | false => rfl
    | true => exact absurd (WideAt.sameKey_eq e) hne
   simp only [wl, h3, Bool.not_false, Bool.and_true]
   rw [wl_step g left hk hl h2 h]
   omega
theorem wl_start (g : Int → Int) (l0 : List (Lit × DataW H)) : ∀ l : List (Lit × DataW H), (∀ p ∈ l, p ∈ l0 ∧ WideAt.IsKeyLit p.1) → wl g (Maps.has (.map l0)) l = 0
 | [], _ => rfl
 | p :: r, h => by
  have hp := h p (by simp)
  have h1 : Maps.has (.map l0) p.1 = true := List.any_eq_true.2 ⟨p, hp.1, WideAt.sameKey_self hp.2⟩
  simp only [wl]
  rw [if_pos h1, wl_start g l0 r fun q hq => h q (by simp [hq])]
  rfl
theorem wl_end (g : Int → Int) {left : Lit → Bool} (h : ∀ k, left k = false) : ∀ l : List (Lit × DataW H), wl g left l = ws g l
 | [] => rfl
 | p :: r => by
  simp only [wl, ws, h]
  rw [wl_end g h r]
  simp
theorem wl_le (g : Int → Int) {left : Lit → Bool} : ∀ l : List (Lit × DataW H), (∀ p ∈ l, 0 ≤ vx p.2 * g (kx p.1)) → 0 ≤ wl g left l ∧ wl g left l ≤ ws g l
 | [], _ => by simp [wl, ws]
 | p :: r, h => by
  have h1 := h p (by simp)
  have h2 := wl_le g (left := left) r fun q hq => h q (by simp [hq])
  simp only [wl, ws]
  by_cases c : left p.1 = true
  ·rw [if_pos c]; omega
  ·rw [if_neg c]; omega
end

/-! The same, with weights that are fractions. -/
section
variable {H : Type}
def rws {H : Type} (g : Int → Rat) : List (Lit × DataW H) → Rat
 | [] => 0
 | p :: r => (vx p.2 : Rat) * g (kx p.1) + rws g r
def rwl {H : Type} (g : Int → Rat) (left : Lit → Bool) : List (Lit × DataW H) → Rat
 | [] => 0
 | p :: r => (if left p.1 = true then 0 else (vx p.2 : Rat) * g (kx p.1)) + rwl g left r
theorem rws_insert (g : Int → Rat) (x : Lit × DataW H) : ∀ l : List (Lit × DataW H), rws g (DataW.insert x l) = (vx x.2 : Rat) * g (kx x.1) + rws g l
 | [] => by simp [DataW.insert, rws]
 | y :: r => by
  unfold DataW.insert
  by_cases c : x.1.before y.1 = true
  ·rw [if_pos c]; rfl
  ·rw [if_neg c]
   simp only [rws]
   rw [rws_insert g x r]
   grind
theorem rws_filter (g : Int → Rat) {k : Lit} : ∀ {l : List (Lit × DataW H)}, l.Pairwise (fun p q => p.1 ≠ q.1) → rws g (l.filter fun p => !p.1.sameKey k) = rws g l - (match l.find? (fun p => p.1.sameKey k) with | some p => (vx p.2 : Rat) * g (kx p.1) | none => 0)
 | [], _ => by simp [rws]; grind
 | p :: r, h => by
  obtain ⟨h1, h2⟩ := List.pairwise_cons.1 h
  rw [List.filter_cons, List.find?_cons]
  by_cases c : p.1.sameKey k = true
  ·have e := WideAt.sameKey_eq c
   rw [if_neg (by simp [c]), filter_none fun q hq he => h1 q hq (e.trans he.symm)]
   simp only [c, rws]
   grind
  ·have c' : p.1.sameKey k = false := by simpa using c
   rw [if_pos (by simp [c'])]
   simp only [c', rws]
   rw [rws_filter g h2]
   grind
theorem rws_put (g : Int → Rat) {q q' : IntKind} {x c v : Int} {l : List (Lit × DataW H)} (hp : l.Pairwise (fun p q => p.1 ≠ q.1)) (hat : (DataW.map l).atKey (.int q x) (.lit (.int q' 0)) = .lit (.int q' c)) :
  rws g (ents ((DataW.map l).put (.int q x) (.lit (.int q' (c + v))))) = rws g l + (v : Rat) * g x := by
 simp only [DataW.put, ents, rws_insert, rws_filter g hp]
 simp only [DataW.atKey] at hat
 cases e : l.find? (fun p => p.1.sameKey (.int q x)) with
 | none =>
  rw [e] at hat
  simp only [DataW.lit.injEq, Lit.int.injEq, true_and] at hat
  subst hat
  simp only [vx, kx, Int.zero_add]
  grind
 | some p =>
  rw [e] at hat
  have hk := WideAt.sameKey_eq (by simpa using List.find?_some e)
  simp only at hat
  simp only [vx, kx, hat, hk, Rat.intCast_add]
  grind
theorem rwl_same (g : Int → Rat) (left : Lit → Bool) {k : Lit} : ∀ {l : List (Lit × DataW H)}, (∀ p ∈ l, p.1 ≠ k) → rwl g (fun z => left z && !z.sameKey k) l = rwl g left l
 | [], _ => rfl
 | p :: r, h => by
  have h1 : p.1.sameKey k = false := by
   cases e : p.1.sameKey k with
   | false => rfl
   | true => exact absurd (WideAt.sameKey_eq e) (h p (by simp))
  simp only [rwl, h1, Bool.not_false, Bool.and_true]
  rw [rwl_same g left fun q hq => h q (by simp [hq])]
theorem rwl_step (g : Int → Rat) (left : Lit → Bool) {q : IntKind} {k : Lit} {c : Int} (hk : WideAt.IsKeyLit k) (hl : left k = true) : ∀ {l : List (Lit × DataW H)}, l.Pairwise (fun p q => p.1 ≠ q.1) → (k, .lit (.int q c)) ∈ l → rwl g (fun z => left z && !z.sameKey k) l = rwl g left l + (c : Rat) * g (kx k)
 | [], _, h => by simp at h
 | p :: r, hp, h => by
  obtain ⟨h1, h2⟩ := List.pairwise_cons.1 hp
  rcases List.mem_cons.1 h with e | h
  ·subst e
   simp only [rwl]
   rw [rwl_same g left fun q hq => fun he => h1 q hq he.symm]
   simp only [hl, WideAt.sameKey_self hk, vx, Bool.not_true, Bool.and_false, if_true, Bool.false_eq_true, if_false]
   grind
  ·have hne : p.1 ≠ k := h1 _ h
   have h3 : p.1.sameKey k = false := by
    cases e : p.1.sameKey k with
    | false => rfl
    | true => exact absurd (WideAt.sameKey_eq e) hne
   simp only [rwl, h3, Bool.not_false, Bool.and_true]
   rw [rwl_step g left hk hl h2 h]
   grind
theorem rwl_start (g : Int → Rat) (l0 : List (Lit × DataW H)) : ∀ l : List (Lit × DataW H), (∀ p ∈ l, p ∈ l0 ∧ WideAt.IsKeyLit p.1) → rwl g (Maps.has (.map l0)) l = 0
 | [], _ => rfl
 | p :: r, h => by
  have hp := h p (by simp)
  have h1 : Maps.has (.map l0) p.1 = true := List.any_eq_true.2 ⟨p, hp.1, WideAt.sameKey_self hp.2⟩
  simp only [rwl]
  rw [if_pos h1, rwl_start g l0 r fun q hq => h q (by simp [hq])]
  grind
theorem rwl_end (g : Int → Rat) {left : Lit → Bool} (h : ∀ k, left k = false) : ∀ l : List (Lit × DataW H), rwl g left l = rws g l
 | [] => rfl
 | p :: r => by
  simp only [rwl, rws, h]
  rw [rwl_end g h r]
  simp
end
theorem law56 : Keyed Tryd.prog 56 := int_keyed Tryd.underlying56
theorem zero3 (w : World) : (zeroValue 3).run Tryd.prog w = .ok (.int .i64 0) w := by kernel_rfl
theorem wf32 {x : Int} (h0 : 0 ≤ x) (h1 : x < 4294967296) : (Lit.int .u32 x).wf = true := by
 simp [Lit.wf, IntKind.min, IntKind.max, IntKind.signed, IntKind.bits]; omega
theorem wf64 {x : Int} (h0 : 0 ≤ x) (h1 : x < 9223372036854775808) : (Lit.int .i64 x).wf = true := by
 simp [Lit.wf, IntKind.min, IntKind.max, IntKind.signed, IntKind.bits]; omega
theorem wpList_insert_own {H : Type} {P : Program} (w : World) {ops : Array Oper} {rest : List Oper} {o : Oper} {a : Act} {Q : Exit → Act → World → Prop}
  (hg : o.guard = none) (m x v : Operand) (t : TypeId) (hop : o.op = Op.insert t m x v)
  (k e : TypeId) (K : Keyed P k) (ht : P.underlying t = some (.map k e)) (R : Value → Option (DataW H × List MemPlace)) (b n : Nat) (D : DataW H)
  (hm : a.eval m = .map (some b)) (hown : w.ownsMap P k R b n D) (hn : n < maxLen) (key val : Value) (kl : Lit) (hx : a.eval x = key) (hv : a.eval v = val) (hkey : keyOf P k key = some kl)
  (d : DataW H) (ps : List MemPlace) (hval : R val = some (d, ps))
  (hK : ∀ w', w'.ownsMap P k R b (n + 1) (D.put kl d) → w.grownBy w' (some b) → wpList P ops Q rest (a.put o.dst undef) w') :
  wpList P ops Q (o :: rest) a w := by
 refine wpList_plain hg fun K' hK' => ?_
 obtain ⟨w', hrun, r1, r2⟩ := hown.update K ht hn hkey hval
 unfold Oper.wp
 simp [execOp, hop, hm, hx, hv, hrun, Result.andThen]
 exact hK' _ _ (hK w' r1 r2)
theorem at_le {q q' : IntKind} {x c : Int} : ∀ {l : List (Lit × DataW Unit)}, (∀ p ∈ l, 0 ≤ vx p.2) → (DataW.map l).atKey (.int q x) (.lit (.int q' 0)) = .lit (.int q' c) → 0 ≤ c ∧ c ≤ ws (fun _ => 1) l
 | [], _, h => by
  simp [DataW.atKey] at h
  subst h
  simp [ws]
 | p :: r, hp, h => by
  have h0 := hp p (by simp)
  have hr : 0 ≤ ws (fun _ => 1) r := by
   have : ∀ l : List (Lit × DataW Unit), (∀ p ∈ l, 0 ≤ vx p.2) → 0 ≤ ws (fun _ => 1) l := by
    intro l
    induction l with
    | nil => intro _; simp [ws]
    | cons y t ih => intro hh; have := ih fun q hq => hh q (by simp [hq]); have := hh y (by simp); simp only [ws]; omega
   exact this r fun q hq => hp q (by simp [hq])
  simp only [DataW.atKey, List.find?_cons] at h
  simp only [ws]
  cases e : p.1.sameKey (.int q x) with
  | true =>
   rw [e] at h
   simp only at h
   rw [h] at h0 ⊢
   simp only [vx] at h0 ⊢
   omega
  | false =>
   rw [e] at h
   have := at_le (l := r) (fun q hq => hp q (by simp [hq])) h
   omega

/-- The singles of a set as numbers, none where the function does not come to an answer. -/
def nxF (k : Nat) (n : Int) (ring : Bool) (s : Int) : List Int := (impl_bench_singles.f k n ring s).getD []
def orF (s m : Int) : Int := Go.bits .or .u32 s m
/-- From s on all comes to an end within d levels. -/
def fldOk (k : Nat) (n : Int) (ring : Bool) : Nat → Int → Prop
 | 0, _ => False
 | d + 1, s => (0 ≤ s ∧ s < 4294967296) ∧ ∃ l, impl_bench_singles.f k n ring s = some l ∧ l.length ≤ 12 ∧ ∀ m ∈ l, fldOk k n ring d (orF s m) ∧ (nxF k n ring (orF s m)).length + 1 ≤ l.length
/-- The sum over a list. -/
def rsum {α : Type} (f : α → Rat) : List α → Rat
 | [] => 0
 | a :: l => f a + rsum f l
/-- The mean of g over the ends, from s on. -/
def vEd (k : Nat) (n : Int) (ring : Bool) (g : Int → Rat) : Nat → Int → Rat
 | 0, s => g s
 | f + 1, s => if nxF k n ring s = [] then g s else rsum (fun m => vEd k n ring g f (orF s m)) (nxF k n ring s) / ((nxF k n ring s).length : Rat)
def vE (k : Nat) (n : Int) (ring : Bool) (g : Int → Rat) (s : Int) : Rat := vEd k n ring g 13 s
theorem rsum_congr {α : Type} {f g : α → Rat} : ∀ {l : List α}, (∀ a ∈ l, f a = g a) → rsum f l = rsum g l
 | [], _ => rfl
 | a :: l, h => by
  simp only [rsum]
  rw [h a (by simp), rsum_congr fun b hb => h b (by simp [hb])]
theorem rsum_append {α : Type} (f : α → Rat) : ∀ (l r : List α), rsum f (l ++ r) = rsum f l + rsum f r
 | [], r => by simp [rsum]; grind
 | a :: l, r => by
  simp only [List.cons_append, rsum]
  rw [rsum_append f l r]
  grind
theorem rsum_mul {α : Type} (f : α → Rat) (c : Rat) : ∀ (l : List α), rsum (fun a => c * f a) l = c * rsum f l
 | [] => by simp [rsum]
 | a :: l => by
  simp only [rsum]
  rw [rsum_mul f c l]
  grind
section
variable {k : Nat} {n : Int} {ring : Bool}
theorem nx_of {s : Int} {l : List Int} (h : impl_bench_singles.f k n ring s = some l) : nxF k n ring s = l := by unfold nxF; rw [h]; rfl
theorem vEd_fuel (g : Int → Rat) : ∀ (d f : Nat) (s : Int), fldOk k n ring (d + 1) s → d ≤ f → vEd k n ring g (f + 1) s = vEd k n ring g f s
 | 0, f, s, h, _ => by
  obtain ⟨-, l, hl, -, hm⟩ := h
  have e : nxF k n ring s = [] := by
   rw [nx_of hl]
   cases l with
   | nil => rfl
   | cons m _ => exact absurd (hm m (by simp)).1 (by simp [fldOk])
  cases f with
  | zero => simp only [vEd]; rw [if_pos e]
  | succ f => simp only [vEd]; rw [if_pos e, if_pos e]
 | d + 1, 0, s, h, hf => by omega
 | d + 1, f + 1, s, h, hf => by
  obtain ⟨-, l, hl, -, hm⟩ := h
  simp only [vEd]
  by_cases e : nxF k n ring s = []
  ·rw [if_pos e, if_pos e]
  ·rw [if_neg e, if_neg e]
   congr 1
   refine rsum_congr fun m hm' => ?_
   rw [nx_of hl] at hm'
   have h1 := vEd_fuel g d f (orF s m) (hm m hm').1 (by omega)
   simp only [vEd] at h1
   exact h1
/-- What is the mean over the ends is the mean over the next ones. -/
theorem vE_step (g : Int → Rat) {d : Nat} {s : Int} (h : fldOk k n ring (d + 1) s) (hd : d ≤ 12) {l : List Int} (hl : impl_bench_singles.f k n ring s = some l) :
  (l = [] → vE k n ring g s = g s) ∧ (l ≠ [] → (l.length : Rat) * vE k n ring g s = rsum (fun m => vE k n ring g (orF s m)) l) := by
 have e := nx_of hl
 obtain ⟨-, l', hl', -, hm⟩ := h
 rw [hl] at hl'
 cases hl'
 constructor
 ·intro h0
  unfold vE
  simp only [vEd]
  rw [e, if_pos h0]
 ·intro h0
  have hne : (l.length : Rat) ≠ 0 := by
   intro hz
   have : ((l.length : Nat) : Rat) = ((0 : Nat) : Rat) := hz
   rw [Rat.natCast_inj] at this
   exact h0 (List.eq_nil_of_length_eq_zero this)
  have e1 : vE k n ring g s = rsum (fun m => vEd k n ring g 12 (orF s m)) l / (l.length : Rat) := by
   unfold vE
   simp only [vEd]
   rw [e, if_neg h0]
  have e2 : rsum (fun m => vE k n ring g (orF s m)) l = rsum (fun m => vEd k n ring g 12 (orF s m)) l := by
   refine rsum_congr fun m hmm => ?_
   obtain ⟨e3, rfl⟩ : ∃ e3, d = e3 + 1 := by
    cases d with
    | zero => exact absurd (hm m hmm).1 (by simp [fldOk])
    | succ e3 => exact ⟨e3, rfl⟩
   exact vEd_fuel g e3 12 (orF s m) (hm m hmm).1 (by omega)
  rw [e1, e2]
  generalize rsum (fun m => vEd k n ring g 12 (orF s m)) l = z
  grind
end
/-- A call through a function value, in a plain region. -/
theorem callL_ {P : Program} {ops : Array Oper} {rest : List Oper} {oi : Oper} {a : Act} {w : World} {Q : Exit → Act → World → Prop} (N : Option Tmp) (hd : oi.dst = N) (hg : oi.guard = none) (f : FuncId) (args : Array Value)
  (hrun : (execOp a.eval oi).run P w = .ok (.enter f args) w)
  (h : Calls P f args w fun e w' => ∃ v, e = .returned v ∧ wpList P ops Q rest (a.put N v) w') : wpList P ops Q (oi :: rest) a w := by
 refine wpList_plain hg fun K hK => ?_
 unfold Oper.wp
 rw [hrun, Oper.upon_enter]
 refine h.mono fun e w'' hh => ?_
 obtain ⟨v, rfl, hk⟩ := hh
 subst hd
 exact hK _ _ hk
/-- The factorial. -/
def fct : Nat → Nat
 | 0 => 1
 | n + 1 => (n + 1) * fct n
theorem fct_dvd : ∀ {a b : Nat}, a ≤ b → fct a ∣ fct b
 | a, 0, h => by
  obtain rfl : a = 0 := by omega
  exact Nat.dvd_refl _
 | a, b + 1, h => by
  by_cases e : a = b + 1
  ·subst e; exact Nat.dvd_refl _
  ·exact Nat.dvd_trans (fct_dvd (b := b) (by omega)) ⟨b + 1, by rw [fct, Nat.mul_comm]⟩
/-- An entry on its way: more than nothing, to be parted among the next ones without rest. -/
def Okp (k : Nat) (n : Int) (ring : Bool) (d : Nat) (p : Lit × DataW Unit) : Prop := 0 < vx p.2 ∧ fldOk k n ring d (kx p.1) ∧ ∃ c : Int, vx p.2 = c * ((fct (nxF k n ring (kx p.1)).length : Nat) : Int)
/-- The two maps that grow: the ends' (block bE) and the next one (block bL); what they come to is X (by a weight) and Y. -/
structure Fi (k : Nat) (n : Int) (ring : Bool) (w wr : World) (bE cE : Nat) (esE : List (Lit × DataW Unit)) (bL cL : Nat) (esL : List (Lit × DataW Unit)) (d : Nat) (X : (Int → Rat) → Rat) (Y : Int) : Prop where
 ownE : wr.ownsMap Tryd.prog 56 (plainElem Tryd.prog 3) bE cE (.map esE)
 ownL : wr.ownsMap Tryd.prog 56 (plainElem Tryd.prog 3) bL cL (.map esL)
 ne : bE ≠ bL
 loE : w.heap.size ≤ bE
 loL : w.heap.size ≤ bL
 bel : Below w.heap.size w wr
 posE : ∀ p ∈ esE, 0 < vx p.2
 okL : ∀ p ∈ esL, Okp k n ring d p
 sum : ∀ g, rws (vE k n ring g) esL + rws g esE = X g
 one : ws (fun _ => 1) esL + ws (fun _ => 1) esE = Y
 keyE : ∀ p ∈ esE, ∃ x : Int, p.1 = Lit.int .u32 x ∧ 0 ≤ x ∧ x < 4294967296
section
variable {k : Nat} {n : Int} {ring : Bool} {w wr w' : World} {bE cE bL cL d : Nat} {esE esL : List (Lit × DataW Unit)} {X : (Int → Rat) → Rat} {Y : Int}
theorem Fi.size (h : Fi k n ring w wr bE cE esE bL cL esL d X Y) : w.heap.size ≤ wr.heap.size := below_size h.bel
theorem Fi.step (h : Fi k n ring w wr bE cE esE bL cL esL d X Y) (hb : Below wr.heap.size wr w') : Fi k n ring w w' bE cE esE bL cL esL d X Y :=
 ⟨h.ownE.kept (grown_of_below hb none) (by simp), h.ownL.kept (grown_of_below hb none) (by simp), h.ne, h.loE, h.loL, below_step h.bel hb, h.posE, h.okL, h.sum, h.one, h.keyE⟩
theorem Fi.keep (h : Fi k n ring w wr bE cE esE bL cL esL d X Y) {row : Option Nat} (hg : wr.grownBy w' row) (hE : some bE ≠ row) (hL : some bL ≠ row) (hr : ∀ j, row = some j → w.heap.size ≤ j) : Fi k n ring w w' bE cE esE bL cL esL d X Y :=
 ⟨h.ownE.kept hg hE, h.ownL.kept hg hL, h.ne, h.loE, h.loL, h.bel.grown hg h.size hr, h.posE, h.okL, h.sum, h.one, h.keyE⟩
theorem Fi.to (h : Fi k n ring w wr bE cE esE bL cL esL d X Y) {X' : (Int → Rat) → Rat} {Y' : Int} {cE' cL' : Nat} (hX : ∀ g, X g = X' g) (hY : Y = Y') (h1 : cE ≤ cE') (h2 : cL ≤ cL') : Fi k n ring w wr bE cE' esE bL cL' esL d X' Y' :=
 ⟨h.ownE.mono h1, h.ownL.mono h2, h.ne, h.loE, h.loL, h.bel, h.posE, h.okL, fun g => (h.sum g).trans (hX g), h.one.trans hY, h.keyE⟩
theorem Fi.pairE (h : Fi k n ring w wr bE cE esE bL cL esL d X Y) : esE.Pairwise (fun p q => p.1 ≠ q.1) := by obtain ⟨es', e, h, _⟩ := h.ownE.entries law56; cases e; exact h
theorem Fi.pairL (h : Fi k n ring w wr bE cE esE bL cL esL d X Y) : esL.Pairwise (fun p q => p.1 ≠ q.1) := by obtain ⟨es', e, h, _⟩ := h.ownL.entries law56; cases e; exact h
theorem ws_nonneg : ∀ {l : List (Lit × DataW Unit)}, (∀ p ∈ l, 0 < vx p.2) → 0 ≤ ws (fun _ => 1) l
 | [], _ => by simp [ws]
 | p :: r, h => by
  have h1 := h p (by simp)
  have h2 := ws_nonneg (l := r) fun q hq => h q (by simp [hq])
  simp only [ws]
  omega
/-- What is looked up is within the sum. -/
theorem Fi.atE (h : Fi k n ring w wr bE cE esE bL cL esL d X Y) {x c : Int} (hat : (DataW.map esE).atKey (.int .u32 x) (.lit (.int .i64 0)) = .lit (.int .i64 c)) : 0 ≤ c ∧ c ≤ Y := by
 have h1 := at_le (fun p hp => Int.le_of_lt (h.posE p hp)) hat
 have h2 := ws_nonneg (fun p hp => (h.okL p hp).1)
 have h3 := h.one
 omega
theorem Fi.atL (h : Fi k n ring w wr bE cE esE bL cL esL d X Y) {x c : Int} (hat : (DataW.map esL).atKey (.int .u32 x) (.lit (.int .i64 0)) = .lit (.int .i64 c)) : 0 ≤ c ∧ c ≤ Y := by
 have h1 := at_le (fun p hp => Int.le_of_lt (h.okL p hp).1) hat
 have h2 := ws_nonneg h.posE
 have h3 := h.one
 omega
theorem Fi.putE (h : Fi k n ring w wr bE cE esE bL cL esL d X Y) {x c v : Int} (hx : 0 ≤ x ∧ x < 4294967296) (hat : (DataW.map esE).atKey (.int .u32 x) (.lit (.int .i64 0)) = .lit (.int .i64 c)) (hv : 0 < v) (hm : w'.ownsMap Tryd.prog 56 (plainElem Tryd.prog 3) bE (cE + 1) ((DataW.map esE).put (.int .u32 x) (.lit (.int .i64 (c + v))))) (hg : wr.grownBy w' (some bE)) :
  Fi k n ring w w' bE (cE + 1) (ents ((DataW.map esE).put (.int .u32 x) (.lit (.int .i64 (c + v))))) bL cL esL d (fun g => X g + (v : Rat) * g x) (Y + v) := by
 have hc := (h.atE hat).1
 refine ⟨hm, h.ownL.kept hg (fun e => h.ne (Option.some.inj e).symm), h.ne, h.loE, h.loL, h.bel.grown hg h.size (fun j hj => by cases hj; exact h.loE), fun p hp => ?_, h.okL, fun g => ?_, ?_, fun p hp => ?_⟩
 ·rcases mem_put hp with rfl | hp
  ·show 0 < c + v
   omega
  ·exact h.posE p hp
 ·rw [rws_put g h.pairE hat, ← h.sum g]
  grind
 ·rw [ws_put (fun _ => 1) h.pairE hat]
  have := h.one
  omega
 ·rcases mem_put hp with rfl | hp
  ·exact ⟨x, rfl, hx⟩
  ·exact h.keyE p hp
theorem Fi.putL (h : Fi k n ring w wr bE cE esE bL cL esL d X Y) {x c v : Int} (hat : (DataW.map esL).atKey (.int .u32 x) (.lit (.int .i64 0)) = .lit (.int .i64 c)) (hv : 0 < v) (hk : fldOk k n ring d x) (hd : ∃ q : Int, v = q * ((fct (nxF k n ring x).length : Nat) : Int)) (hm : w'.ownsMap Tryd.prog 56 (plainElem Tryd.prog 3) bL (cL + 1) ((DataW.map esL).put (.int .u32 x) (.lit (.int .i64 (c + v))))) (hg : wr.grownBy w' (some bL)) :
  Fi k n ring w w' bE cE esE bL (cL + 1) (ents ((DataW.map esL).put (.int .u32 x) (.lit (.int .i64 (c + v))))) d (fun g => X g + (v : Rat) * vE k n ring g x) (Y + v) := by
 have hc := (h.atL hat).1
 refine ⟨h.ownE.kept hg (fun e => h.ne (Option.some.inj e)), hm, h.ne, h.loE, h.loL, h.bel.grown hg h.size (fun j hj => by cases hj; exact h.loL), h.posE, fun p hp => ?_, fun g => ?_, ?_, h.keyE⟩
 ·rcases mem_put hp with rfl | hp
  ·refine ⟨by show 0 < c + v; omega, hk, ?_⟩
   show ∃ q : Int, c + v = q * ((fct (nxF k n ring x).length : Nat) : Int)
   obtain ⟨q, hq⟩ := hd
   have hc2 : ∃ q2 : Int, c = q2 * ((fct (nxF k n ring x).length : Nat) : Int) := by
    simp only [DataW.atKey] at hat
    cases e : esL.find? (fun p => p.1.sameKey (.int .u32 x)) with
    | none =>
     rw [e] at hat
     simp only [DataW.lit.injEq, Lit.int.injEq, true_and] at hat
     exact ⟨0, by omega⟩
    | some p =>
     rw [e] at hat
     have hkk := WideAt.sameKey_eq (by simpa using List.find?_some e)
     have hmem := List.mem_of_find?_eq_some e
     obtain ⟨-, -, q2, hq2⟩ := h.okL p hmem
     simp only at hat
     rw [hkk, hat] at hq2
     exact ⟨q2, hq2⟩
   obtain ⟨q2, hq2⟩ := hc2
   exact ⟨q2 + q, by rw [Int.add_mul, ← hq, ← hq2]⟩
  ·exact h.okL p hp
 ·rw [rws_put (vE k n ring g) h.pairL hat, ← h.sum g]
  grind
 ·rw [ws_put (fun _ => 1) h.pairL hat]
  have := h.one
  omega
end
/-- The maps ahead of a level. -/
structure Fo (k : Nat) (n : Int) (ring : Bool) (T : Int) (w wr : World) (bE cE : Nat) (esE : List (Lit × DataW Unit)) (B c : Nat) (es : List (Lit × DataW Unit)) (d : Nat) : Prop where
 fi : Fi k n ring w wr bE cE esE B c es d (fun g => 479001600 * vE k n ring g T) 479001600
theorem Fi.empty {k : Nat} {n : Int} {ring : Bool} {w wr : World} {bE cE bL cL d : Nat} {esE : List (Lit × DataW Unit)} {X : (Int → Rat) → Rat} {Y : Int} (h : Fi k n ring w wr bE cE esE bL cL [] d X Y) : Fi k n ring w wr bE cE esE bL cL [] 0 X Y :=
 ⟨h.ownE, h.ownL, h.ne, h.loE, h.loL, h.bel, h.posE, fun p hp => (by cases hp), h.sum, h.one, h.keyE⟩
theorem pow14 {j : Nat} (h : j ≤ 13) : 14 ^ j ≤ 793714773254144 := by
 have h1 : 14 ^ j ≤ 14 ^ 13 := Nat.pow_le_pow_right (by omega) h
 have e : 14 ^ 13 = 793714773254144 := by decide
 omega
theorem filled_calls (k : Nat) (n : Int) (ring : Bool) (T : Int) (w : World) (hT : XTab w) (hk : fldOk k n ring 13 T) :
  Calls Tryd.prog 57 #[.int .u32 T, .func (.func 58) #[.agg #[.int .i64 n, .bool ring]] #[]] w fun e w' => ∃ (bE cE : Nat) (esE : List (Lit × DataW Unit)) (B c : Nat), e = .returned (.map (some bE)) ∧ Fi k n ring w w' bE cE esE B c [] 0 (fun g => 479001600 * vE k n ring g T) 479001600 := by
 have hmm := @run_makeMap Tryd.prog
 have hTr : 0 ≤ T ∧ T < 4294967296 := hk.1
 have hcn : (nxF k n ring T).length ≤ 12 := by
  obtain ⟨-, l, hl, h12, -⟩ := hk
  rw [nx_of hl]
  exact h12
 have HT := A_.mk hT
 have HK := A_.mk hk
 have HTr := A_.mk hTr
 have HCN := A_.mk hcn
 have HB := A_.mk (Below.refl w.heap.size w)
 clear hT hk hTr hcn
 have E0 := A_.mk (show (w.alloc (.map #[] 0)).ownsMap Tryd.prog 56 (plainElem (H := Unit) Tryd.prog 3) w.heap.size 0 (.map []) from World.ownsMap_made _ _ _ _)
 have E1 := A_.mk (E0.out.alloc (.map #[] 0))
 have M0 := A_.mk (show ((w.alloc (.map #[] 0)).alloc (.map #[] 0)).ownsMap Tryd.prog 56 (plainElem (H := Unit) Tryd.prog 3) (w.alloc (.map #[] 0)).heap.size 0 (.map []) from World.ownsMap_made _ _ _ _)
 have BA := A_.mk (below_alloc (below_alloc HB.out (.map #[] 0)) (.map #[] 0))
 have e1 : (w.alloc (.map #[] 0)).heap.size = w.heap.size + 1 := by simp
 rw [e1] at M0
 go_enter Tryd.func57, Tryd.ntmps57
 go_wp2_with (refine wpList_insert_own _ rfl _ _ _ 53 rfl 56 3 law56 Tryd.underlying53 _ (w.heap.size + 1) _ _ (by first | rfl | (simp; rfl)) M0.out (by decide) _ _ _ rfl rfl (keyOf_int_mk Tryd.underlying56 (wf32 HTr.out.1 HTr.out.2)) _ [] (plainElem_int Tryd.underlying3 (wf64 (by omega) (by omega))) ?_; intro w5 hm5 hg5; have M5 := A_.mk hm5; have G5 := A_.mk hg5; clear hm5 hg5)
 have F0 := A_.mk (show Fi k n ring w w5 w.heap.size 0 [] (w.heap.size + 1) 1 [(.int .u32 T, .lit (.int .i64 479001600))] 13 (fun g => 479001600 * vE k n ring g T) 479001600 from by
  have hg := G5.out
  refine ⟨E1.out.kept hg (fun e => by have := Option.some.inj e; omega), M5.out, by omega, Nat.le_refl _, Nat.le_succ _, BA.out.grown hg (below_size BA.out) (fun j hj => by cases hj; omega), fun p hp => (by cases hp), fun p hp => ?_, fun g => ?_, ?_, fun p hp => (by cases hp)⟩
  ·rw [List.mem_singleton] at hp
   subst hp
   refine ⟨by simp [vx], HK.out, ?_⟩
   obtain ⟨q, hq⟩ := fct_dvd HCN.out
   exact ⟨(q : Int), by
    show (479001600 : Int) = (q : Int) * ((fct (nxF k n ring T).length : Nat) : Int)
    have h12 : fct 12 = 479001600 := by decide
    rw [h12, Nat.mul_comm] at hq
    have := congrArg (fun z : Nat => (z : Int)) hq
    rw [Int.natCast_mul] at this
    exact this⟩
  ·simp only [rws, vx, kx]
   grind
  ·simp [ws, vx])
 clear E0 E1 M0 BA M5 G5 e1
 obtain ⟨bE, hbE⟩ : ∃ b, b = w.heap.size := ⟨_, rfl⟩
 have F1 := F0.out
 generalize w.heap.size + 1 = B0 at F1 ⊢
 have F2 := A_.mk (show Fi k n ring w w5 bE 0 [] B0 1 [(.int .u32 T, .lit (.int .i64 479001600))] 13 (fun g => 479001600 * vE k n ring g T) 479001600 from hbE ▸ F1)
 clear F0 F1
 rw [← hbE]
 clear hbE
 go_wp2
 go_loopg [6] 15 (fun kq v6 w' => ∃ (j B c cE : Nat) (es esE : List (Lit × DataW Unit)), v6 = .map (some B) ∧ A_ (j + kq = 15) ∧ A_ (j ≤ 13) ∧ A_ (Fi k n ring w w' bE cE esE B c es (13 - j) (fun g => 479001600 * vE k n ring g T) 479001600) ∧ A_ (cE ≤ 14 ^ j ∧ c ≤ 14 ^ j))
 case atStart => exact ⟨0, B0, 1, 0, _, _, rfl, ⟨rfl⟩, ⟨by omega⟩, F2, ⟨by omega, by omega⟩⟩
 case round =>
  clear F2
  rename World => wo
  obtain ⟨j, B, c, cE, es, esE, rfl, hjk, hj, HF, HC⟩ := hrel
  obtain ⟨kj, hkj⟩ : ∃ kj, kj = gk := ⟨_, rfl⟩
  subst hkj
  by_cases hes : es = []
  ·subst hes
   have hsz : Maps.size (DataW.map ([] : List (Lit × DataW Unit))) = 0 := rfl
   go_wp2_with (first
    | (at_len; refine wpList_len_own _ rfl _ 53 rfl 56 3 Tryd.underlying53 _ B c _ rfl HF.out.ownL ?_)
    | go_in)
   go_ret
   exact ⟨_, _, _, _, _, rfl, HF.out.empty⟩
  ·obtain ⟨d, hd⟩ : ∃ d, 13 - j = d + 1 := by
    rcases Nat.eq_zero_or_pos (13 - j) with h0 | h0
    ·exfalso
     cases es with
     | nil => exact hes rfl
     | cons p r =>
      have := (HF.out.okL p (by simp)).2.1
      rw [h0] at this
      exact this
    ·exact ⟨13 - j - 1, by omega⟩
   have hj12 : j ≤ 12 := by omega
   have Hd := A_.mk hd
   have Hj := A_.mk hj12
   have HF2 := HF.out
   rw [hd] at HF2
   have HFd := A_.mk HF2
   have hpos : 0 < Maps.size (DataW.map es) := by
    cases es with
    | nil => exact absurd rfl hes
    | cons p r => simp [Maps.size]
   have c5 : decide (0 < Maps.size (DataW.map es)) = true := decide_eq_true hpos
   have NX0 := A_.mk (show (wo.alloc (.map #[] 0)).ownsMap Tryd.prog 56 (plainElem (H := Unit) Tryd.prog 3) wo.heap.size 0 (.map []) from World.ownsMap_made _ _ _ _)
   have NW0 := A_.mk (HFd.out.ownL.alloc (.map #[] 0))
   have NE0 := A_.mk (HFd.out.ownE.alloc (.map #[] 0))
   have HB0 := A_.mk (below_alloc HFd.out.bel (.map #[] 0))
   have e1 : (wo.alloc (.map #[] 0)).heap.size = wo.heap.size + 1 := by simp
   clear hes hd hj12 HF2 HF
   go_wp2_with (first
    | (at_len; refine wpList_len_own _ rfl _ 53 rfl 56 3 Tryd.underlying53 _ B c _ rfl HFd.out.ownL ?_)
    | (at_range; refine wpList_range_own _ rfl _ 53 rfl 56 3 law56 Tryd.underlying53 _ B c _ rfl NW0.out ?_; intro w6 hrg6 hg6 hs6)
    | go_in)
   go_frame
   rw [e1] at hrg6 hs6 ⊢
   have hpw := HFd.out.pairL
   have hkl : ∀ p ∈ es, WideAt.IsKeyLit p.1 := by obtain ⟨es', e, _, h⟩ := HFd.out.ownL.entries law56; cases e; exact h
   have HPW := A_.mk hpw
   have HKL := A_.mk hkl
   have HSZ := A_.mk HFd.out.ownL.size_le
   have HBlt := A_.mk HFd.out.ownL.lt
   have HElt := A_.mk HFd.out.ownE.lt
   have hwr := A_.mk HFd.out.size
   have hd13 : d ≤ 12 := by have := Hd.out; omega
   have Hd13 := A_.mk hd13
   have X6 : A_ (Fi k n ring w w6 bE (cE + (Maps.size (.map es) - Maps.size (.map es))) esE wo.heap.size (12 * (Maps.size (.map es) - Maps.size (.map es))) [] d (fun g => rws g esE + rwl (vE k n ring g) (Maps.has (.map es)) es) (ws (fun _ => 1) esE + wl (fun _ => 1) (Maps.has (.map es)) es)) := ⟨⟨(NE0.out.kept hg6 (by simp)).mono (Nat.le_add_right _ _), (NX0.out.kept hg6 (by simp)).mono (Nat.zero_le _), by have := HElt.out; omega, HFd.out.loE, hwr.out, HB0.out.grown hg6 (below_size HB0.out) (fun j hj => by cases hj), HFd.out.posE, fun p hp => (by cases hp), fun g => by
    rw [rwl_start _ es es fun p hp => ⟨hp, hkl p hp⟩]
    simp only [rws]
    grind, by
    rw [wl_start _ es es fun p hp => ⟨hp, hkl p hp⟩]
    simp only [ws]
    omega, HFd.out.keyE⟩⟩
   have RG6 := A_.mk hrg6
   have hs6' : wo.heap.size + 1 < w6.heap.size := by omega
   have HS6 := A_.mk hs6'
   clear hpw hkl hrg6 hs6 hg6 NX0 NW0 NE0 HB0 hs6' e1 hd13 hpos
   go_loopg [8] (Maps.size (.map es)) (fun kq v8 w' => ∃ (left : Lit → Bool) (esE2 esL : List (Lit × DataW Unit)), A_ (w'.ranges Tryd.prog 56 (plainElem Tryd.prog 3) B (wo.heap.size + 1) c (.map es) left kq) ∧ A_ (kq ≤ Maps.size (.map es)) ∧ A_ (Fi k n ring w w' bE (cE + (Maps.size (.map es) - kq)) esE2 wo.heap.size (12 * (Maps.size (.map es) - kq)) esL d (fun g => rws g esE + rwl (vE k n ring g) left es) (ws (fun _ => 1) esE + wl (fun _ => 1) left es)) ∧ A_ (wo.heap.size + 1 < w'.heap.size))
   case atStart => exact ⟨_, esE, [], RG6, ⟨Nat.le_refl _⟩, X6, HS6⟩
   case round =>
    clear RG6 X6 HS6
    obtain ⟨left, esE2, esL, RG, HKQ, HX, HSq⟩ := hrel
    go_wp2_with (first
     | (at_next; refine wpList_next_ranges_ii _ rfl _ rfl 56 3 .u32 .i64 law56 Tryd.underlying56 Tryd.underlying3 B (wo.heap.size + 1) c _ _ _ rfl RG.out ?_ ?_)
     | go_in)
    ·intro hc0 hl0
     have HL0 := A_.mk hl0
     clear hc0 hl0
     go_wp2
     go_roundg (kj - 1)
     case measure => have := hjk.out; have := Hj.out; omega
     case rel => exact ⟨j + 1, wo.heap.size, 12 * (Maps.size (.map es) - gk), cE + (Maps.size (.map es) - gk), esL, esE2, rfl, ⟨by have := hjk.out; have := Hj.out; omega⟩, ⟨by have := Hj.out; omega⟩, ⟨by
       have e13 : 13 - (j + 1) = d := by have := Hd.out; omega
       rw [e13]
       refine HX.out.to (fun g => ?_) ?_ (Nat.le_refl _) (Nat.le_refl _)
       ·have h1 := HFd.out.sum g
        rw [rwl_end _ HL0.out es]
        grind
       ·have h1 := HFd.out.one
        rw [wl_end _ HL0.out es]
        omega⟩, ⟨by have h1 := HC.out; have h2 := HSZ.out; rw [Nat.pow_succ]; omega⟩⟩
    ·intro x cx w7 cnt7 hwx hwc hlx hat hrg7 hlt7 hg7 hs7 hen
     have HLX := A_.mk hlx
     have HAT := A_.mk (at_mem hat)
     have RG7 := A_.mk hrg7
     have HLT7 := A_.mk hlt7
     have X7 := A_.mk (HX.out.keep hg7 (by have := HElt.out; intro e; have := Option.some.inj e; omega) (by intro e; have := Option.some.inj e; omega) (fun j hj => by cases hj; have := hwr.out; omega))
     have HS7 := A_.mk (show wo.heap.size + 1 < w7.heap.size by rw [hs7]; exact HSq.out)
     obtain ⟨hcx, hfx, qx, hqx⟩ := HFd.out.okL _ HAT.out
     simp only [vx, kx] at hcx hfx hqx
     have hfx2 := hfx
     obtain ⟨hxr, lx, hlx2, hl12, hmx⟩ := hfx2
     rw [nx_of hlx2] at hqx
     have HCX := A_.mk hcx
     have HFX := A_.mk hfx
     have HQX := A_.mk hqx
     have HXR := A_.mk hxr
     have HLX2 := A_.mk hlx2
     have HL12 := A_.mk hl12
     have HMX := A_.mk hmx
     have HXT := A_.mk (XTab.below HT.out X7.out.bel)
     have HST := A_.mk (fun g => rwl_step g left (q := .i64) (c := cx) (k := .int .u32 x) trivial HLX.out HPW.out HAT.out)
     have HST1 := A_.mk (wl_step (fun _ => 1) left (q := .i64) (c := cx) (k := .int .u32 x) trivial HLX.out HPW.out HAT.out)
     have HTOT := A_.mk (show ws (fun _ => 1) esE + wl (fun _ => 1) left es + cx ≤ 479001600 from by
      have h1 := HFd.out.one
      have h2 := (wl_le (fun _ => 1) (left := fun z => left z && !z.sameKey (.int .u32 x)) es (fun p hp => by have := (HFd.out.okL p hp).1; omega)).2
      have h3 := HST1.out
      omega)
     obtain ⟨ki, hki⟩ : ∃ ki, ki = gk := ⟨_, rfl⟩
     subst hki
     clear hwx hwc hlx hat hrg7 hlt7 hg7 hs7 hcx hfx hqx hxr hlx2 hl12 hmx HX RG HSq
     go_upto_region 8 with (((with_reducible refine gate_dst (N := 30) rfl ?_); refine callL_ (some 30) rfl rfl 58 #[.agg #[.int .i64 n, .bool ring], .int .u32 x] ?hrun ?_; (case hrun => (have he := enters_ (P := Tryd.prog) Tryd.func58 (by kernel_rfl) rfl #[.agg #[.int .i64 n, .bool ring], .int .u32 x] w7); unfold execOp; simp [resolve, Deferred.ofValue, invoke, Act.eval, he]); (with_reducible refine (impl_bench_singles.calls k n ring x lx w7 HXT.out HLX2.out).mono ?_); rintro e w8 ⟨v8, rfl, hr, hb⟩; refine ⟨_, rfl, ?_⟩; have R8 := A_.mk (Kd.R_mono (ok' := fun k_ => w7.heap.size ≤ k_) (Kd.R_bound hr) (fun k_ hk => hk.2.1)); have X8 := A_.mk (X7.out.step hb); have RG8 := A_.mk (RG7.out.kept (grown_of_below hb none) (by simp) (by simp)); have HS8 := A_.mk (Nat.lt_of_lt_of_le HS7.out hb.size); clear hr hb))
     obtain ⟨A8, d8, e8⟩ := Kd.R_slice R8.out
     subst e8
     have HSZ8 := A_.mk (show cE + (Maps.size (.map es) - ki) < maxLen ∧ 12 * (Maps.size (.map es) - ki) + 13 < maxLen from by
      have h1 := HC.out
      have h2 := HSZ.out
      have h3 := pow14 (Nat.le_trans Hj.out (by omega : 12 ≤ 13))
      unfold maxLen
      omega)
     have hHE := A_.mk (show some bE ≠ some B ∧ some bE ≠ some (wo.heap.size + 1) from ⟨fun e => HFd.out.ne (Option.some.inj e), fun e => by have := Option.some.inj e; have := HElt.out; omega⟩)
     clear X7 RG7
     go_upto_if 33 with fail
     go_cut [34] (fun v34 wc => ∃ esE3 : List (Lit × DataW Unit), A_ (Fi k n ring w wc bE (cE + (Maps.size (.map es) - ki) + 1) esE3 wo.heap.size (12 * (Maps.size (.map es) - ki)) esL d (fun g => rws g esE + rwl (vE k n ring g) left es + (if lx = [] then (cx : Rat) * g x else 0)) (ws (fun _ => 1) esE + wl (fun _ => 1) left es + (if lx = [] then cx else 0))) ∧ A_ (wc.ranges Tryd.prog 56 (plainElem (H := Unit) Tryd.prog 3) B (wo.heap.size + 1) c (.map es) (fun z => left z && !z.sameKey (.int .u32 x)) cnt7) ∧ A_ (wo.heap.size + 1 < wc.heap.size) ∧ A_ (Kd.R (Kd.int .u32) 56 wc w7.heap.size (fun k_ => w7.heap.size ≤ k_) (.slice A8 lx.length d8) lx))
     case first =>
      by_cases hlx0 : lx = []
      ·have c7 : ((lx.length : Int) == 0) = true := by rw [hlx0]; rfl
       have HLX0 := A_.mk hlx0
       clear hlx0
       go_wp2_with (first
        | (at_lookup; refine wpList_lookup_own_int _ rfl _ _ 53 rfl 56 3 .i64 law56 Tryd.underlying53 Tryd.underlying3 (zero3 _) bE _ _ rfl X8.out.ownE _ _ rfl (keyOf_int_mk Tryd.underlying56 (wf32 HXR.out.1 HXR.out.2)) ?_; intro c0 hat0 hwc0; have HAT0 := A_.mk hat0; have HC0 := A_.mk (X8.out.atE hat0); have hw0 : IntKind.i64.wrap (c0 + cx) = c0 + cx := (by rw [IntKind.wrap_i64]; have := HC0.out; have := HTOT.out; have := HCX.out; omega); clear hat0 hwc0)
        | (at_mapUpdate; refine wpList_mapUpdate_own _ rfl _ _ _ 53 rfl 56 3 law56 Tryd.underlying53 _ bE _ _ rfl X8.out.ownE HSZ8.out.1 _ _ _ rfl rfl (keyOf_int_mk Tryd.underlying56 (wf32 HXR.out.1 HXR.out.2)) _ [] (plainElem_int Tryd.underlying3 (wf64 (by have := HC0.out; have := HCX.out; omega) (by have := HC0.out; have := HTOT.out; have := HCX.out; omega))) ?_; intro w9 hm9 hg9; have X9 := A_.mk (X8.out.putE HXR.out HAT0.out HCX.out hm9 hg9); have RG9 := A_.mk (RG8.out.kept hg9 hHE.out.1.symm hHE.out.2.symm); have HS9 := A_.mk (Nat.lt_of_lt_of_le HS8.out hg9.size); have R9 := A_.mk (Kd.R_grown R8.out hg9 (fun k_ hk e => by have := Option.some.inj e; have := HElt.out; have := HS7.out; omega)); clear hm9 hg9)
        | go_in)
       go_meet
       case rel => exact ⟨_, ⟨X9.out.to (fun g => by rw [if_pos HLX0.out]) (by rw [if_pos HLX0.out]) (Nat.le_refl _) (Nat.le_refl _)⟩, RG9, HS9, R9⟩
      ·have c7 : ((lx.length : Int) == 0) = false := beq_eq_false_iff_ne.mpr (fun e => hlx0 (List.eq_nil_of_length_eq_zero (by omega)))
       have HLX0 := A_.mk hlx0
       clear hlx0
       go_wp2
       go_meet
       case rel => exact ⟨_, ⟨X8.out.to (fun g => by rw [if_neg HLX0.out]; grind) (by rw [if_neg HLX0.out, Int.add_zero]) (Nat.le_succ _) (Nat.le_refl _)⟩, RG8, HS8, R8⟩
     case rest =>
     obtain ⟨esE3, X9, RG9, HS9, R9⟩ := hcut
     clear X8 RG8 HS8 R8
     rename World => w9
     -- the list
     obtain ⟨q, hq0, hq1, hq2⟩ : ∃ q : Int, (lx ≠ [] → cx = q * (lx.length : Int)) ∧ (lx ≠ [] → 0 < q) ∧ (∀ m ∈ lx, ∃ r : Int, q = r * ((fct (nxF k n ring (orF x m)).length : Nat) : Int)) := by
      by_cases hl0 : lx = []
      ·exact ⟨0, fun h => absurd hl0 h, fun h => absurd hl0 h, fun m hm => by rw [hl0] at hm; cases hm⟩
      ·obtain ⟨L, hL⟩ : ∃ L, lx.length = L + 1 := ⟨lx.length - 1, by have := List.length_pos_iff.2 hl0; omega⟩
       have h1 := HQX.out
       rw [hL, fct] at h1
       have h2 : cx = (qx * ((fct L : Nat) : Int)) * (lx.length : Int) := by
        rw [h1, hL, Int.natCast_mul, Int.mul_assoc, Int.mul_comm ((L + 1 : Nat) : Int)]
       refine ⟨qx * ((fct L : Nat) : Int), fun _ => h2, fun _ => ?_, fun m hm => ?_⟩
       ·have h3 := HCX.out
        rw [h2] at h3
        exact Int.pos_of_mul_pos_left h3 (by omega)
       ·obtain ⟨r, hr⟩ := fct_dvd (show (nxF k n ring (orF x m)).length ≤ L by have := (HMX.out m hm).2; omega)
        exact ⟨qx * (r : Int), by rw [hr, Int.natCast_mul, Int.mul_assoc, Int.mul_comm (r : Int)]⟩
     have HQ0 := A_.mk hq0
     have HQ1 := A_.mk hq1
     have HQ2 := A_.mk hq2
     have X10 := A_.mk (X9.out.to (X' := fun g => rws g esE + rwl (vE k n ring g) left es + ((if lx = [] then (cx : Rat) * g x else 0) + rsum (fun m => (q : Rat) * vE k n ring g (orF x m)) (lx.take 0))) (Y' := ws (fun _ => 1) esE + wl (fun _ => 1) left es + ((if lx = [] then cx else 0) + q * ((0 : Nat) : Int))) (cE' := cE + (Maps.size (.map es) - ki) + 1) (cL' := 12 * (Maps.size (.map es) - ki) + 0) (fun g => by simp only [List.take_zero, rsum]; grind) (by omega) (Nat.le_refl _) (Nat.le_refl _))
     clear hq0 hq1 hq2 X9
     go_wp2
     go_loopg [41] (lx.length + 1) (fun kq v41 w' => ∃ (t : Nat) (esL2 : List (Lit × DataW Unit)), v41 = .int .i64 (t : Int) ∧ A_ (t + kq = lx.length + 1) ∧ A_ (t ≤ lx.length) ∧ A_ (Fi k n ring w w' bE (cE + (Maps.size (.map es) - ki) + 1) esE3 wo.heap.size (12 * (Maps.size (.map es) - ki) + t) esL2 d (fun g => rws g esE + rwl (vE k n ring g) left es + ((if lx = [] then (cx : Rat) * g x else 0) + rsum (fun m => (q : Rat) * vE k n ring g (orF x m)) (lx.take t))) (ws (fun _ => 1) esE + wl (fun _ => 1) left es + ((if lx = [] then cx else 0) + q * (t : Int)))) ∧ A_ (w'.ranges Tryd.prog 56 (plainElem (H := Unit) Tryd.prog 3) B (wo.heap.size + 1) c (.map es) (fun z => left z && !z.sameKey (.int .u32 x)) cnt7) ∧ A_ (wo.heap.size + 1 < w'.heap.size) ∧ A_ (Kd.R (Kd.int .u32) 56 w' w7.heap.size (fun k_ => w7.heap.size ≤ k_) (.slice A8 lx.length d8) lx))
     case atStart => exact ⟨0, esL, rfl, ⟨by omega⟩, ⟨by omega⟩, X10, RG9, HS9, R9⟩
     case round =>
      clear X10 RG9 HS9 R9
      obtain ⟨t, esL2, rfl, htk, htl, X, RG, HS, RR⟩ := hrel
      rename World => wt
      obtain ⟨kt, hkt⟩ : ∃ kt, kt = gk := ⟨_, rfl⟩
      subst hkt
      by_cases hlt : t < lx.length
      ·have c6 : decide (t < lx.length) = true := decide_eq_true hlt
       have hl0 : lx ≠ [] := fun e => by rw [e] at hlt; exact absurd hlt (Nat.not_lt_zero _)
       have Hl0 := A_.mk hl0
       obtain ⟨ad, e, hcell⟩ := Kd.at_int (Kd.R_reads' RR.out).2.2 (t : Int) (by omega) (by omega)
       cases e
       rw [Int.toNat_natCast] at hcell
       obtain ⟨m, hm⟩ : ∃ m, lx[t] = m := ⟨_, rfl⟩
       have hrd : rd lx (t : Int) = m := by rw [← hm]; simp [rd, List.getD, hlt]
       rw [hrd] at hcell
       have Hm := A_.mk (show m ∈ lx from hm ▸ List.getElem_mem hlt)
       have Htake := A_.mk (show lx.take (t + 1) = lx.take t ++ [m] by rw [← hm]; simp)
       have hq := HQ0.out hl0
       have HQ := A_.mk hq
       have hlen : 0 < lx.length := by omega
       have hquo : Int.tdiv cx (lx.length : Int) = q := by rw [hq, Int.mul_tdiv_cancel _ (by omega)]
       have hqb : 0 < q ∧ q ≤ 479001600 := by
        have h1 := HQ1.out hl0
        have h2 := HTOT.out
        have h3 := ws_nonneg HFd.out.posE
        have h4 := (wl_le (fun _ => 1) (left := left) es (fun p hp => by have := (HFd.out.okL p hp).1; omega)).1
        have h5 : q * 1 ≤ q * (lx.length : Int) := Int.mul_le_mul_of_nonneg_left (by omega) (by omega)
        omega
       have HQB := A_.mk hqb
       have hwq : wrap64 q = q := by unfold wrap64; omega
       have hnz : ((lx.length : Int) = 0) = False := eq_false (by omega)
       have hnz2 : (lx.length = 0) = False := eq_false (by omega)
       have hnz3 : ((lx.length : Int) == 0) = false := beq_eq_false_iff_ne.mpr (by omega)
       have hfm := (HMX.out m Hm.out).1
       have hmr : 0 ≤ orF x m ∧ orF x m < 4294967296 := by
        obtain ⟨d2, rfl⟩ : ∃ d2, d = d2 + 1 := by
         cases d with
         | zero => exact absurd hfm (by simp [fldOk])
         | succ d2 => exact ⟨d2, rfl⟩
        exact hfm.1
       have HFM := A_.mk hfm
       have HMR := A_.mk hmr
       clear hl0 hm hrd hq hqb hfm hmr
       have hor : ∀ z, Go.bits .or .u32 x m = z → orF x m = z := fun z h => h
       go_wp2
       have Xd := A_.mk (show Fi k n ring w wt.drew bE (cE + (Maps.size (.map es) - ki) + 1) esE3 wo.heap.size (12 * (Maps.size (.map es) - ki) + t) esL2 d _ _ from X.out.step (below_drew1 (Below.refl _ _)))
       have RGd := A_.mk (RG.out.kept (w' := wt.drew) (grown_of_below (below_drew1 (Below.refl _ _)) none) (by simp) (by simp))
       have RRd := A_.mk (Kd.R_drew RR.out)
       have HSd := A_.mk (show wo.heap.size + 1 < wt.drew.heap.size from HS.out)
       obtain ⟨c0, -, hat0, -⟩ := Xd.out.ownL.lookup_int law56 Tryd.underlying53 Tryd.underlying3 (zero3 _) (keyOf_int_mk Tryd.underlying56 (wf32 HMR.out.1 HMR.out.2))
       have HAT0 := A_.mk hat0
       have HC0 := A_.mk (Xd.out.atL hat0)
       have HTB := A_.mk (show ws (fun _ => 1) esE + wl (fun _ => 1) left es + ((if lx = [] then cx else 0) + q * (t : Int)) + q ≤ 479001600 from by
        rw [if_neg Hl0.out, Int.zero_add]
        have h1 : q * ((t + 1 : Nat) : Int) ≤ q * (lx.length : Int) := Int.mul_le_mul_of_nonneg_left (by omega) (by have := HQB.out; omega)
        rw [show ((t + 1 : Nat) : Int) = (t : Int) + 1 by omega, Int.mul_add, Int.mul_one] at h1
        have h2 := HTOT.out
        have h3 := HQ.out
        omega)
       have hw0 : wrap64 (c0 + q) = c0 + q := by
        have h1 := HC0.out
        have h2 := HTB.out
        have h3 := HQB.out
        unfold wrap64
        omega
       have O := Xd.out.ownL
       clear X RG HS RR hat0
       refine start_ (n := 11) (S := fun w' => w'.ownsMap Tryd.prog 56 (plainElem (H := Unit) Tryd.prog 3) wo.heap.size (12 * (Maps.size (.map es) - ki) + t) (.map esL2)) (ds := [10]) (m_ 11 0) (by kernel_rfl) rfl rfl O (fun hHeld => ?_)
       generalize wt.drew = wd at *
       refine pure_ (i := 0) (N := some 45) (v := ?_) (a' := ?_) (m_ 11 1) rfl rfl (by kernel_rfl) (fun _ _ _ h => h) (Or.inl ⟨by rfl, ?_⟩) ?_ ?_
       rotate_left
       ·intro w'
        go_simp
        with_reducible rfl
       rotate_left
       ·simp only [Act.put, sI_, s0_, s1_, i64_w, i32_w]
        rfl
       refine pure_ (i := 1) (N := some 46) (v := ?_) (a' := ?_) (m_ 11 3) rfl rfl (by kernel_rfl) (fun _ _ _ h => h) (Or.inl ⟨by rfl, ?_⟩) ?_ ?_
       rotate_left
       ·intro w'
        go_simp
        with_reducible rfl
       rotate_left
       ·simp only [Act.put, sI_, s0_, s1_, i64_w, i32_w]
        rfl
       refine pure_ (i := 2) (N := some 47) (v := ?_) (a' := ?_) (m_ 11 7) rfl rfl (by kernel_rfl) (fun _ _ _ h => h) (Or.inl ⟨by rfl, ?_⟩) ?_ ?_
       rotate_left
       ·intro w'
        go_simp
        with_reducible rfl
       rotate_left
       ·simp only [Act.put, sI_, s0_, s1_, i64_w, i32_w]
        rfl
       refine pure_ (i := 3) (N := some 48) (v := ?_) (a' := ?_) (m_ 11 15) rfl rfl (by kernel_rfl) (fun _ _ _ h => h) (Or.inl ⟨by rfl, ?_⟩) ?_ ?_
       rotate_left
       ·intro w'
        go_simp
        with_reducible rfl
       rotate_left
       ·simp only [Act.put, sI_, s0_, s1_, i64_w, i32_w]
        rfl
       refine pure_ (i := 5) (N := some 50) (v := ?_) (a' := ?_) (m_ 11 47) rfl rfl (by kernel_rfl) (fun _ _ _ h => h) (Or.inl ⟨by rfl, ?_⟩) ?_ ?_
       rotate_left
       ·intro w'
        go_simp
        with_reducible rfl
       rotate_left
       ·simp only [Act.put, sI_, s0_, s1_, i64_w, i32_w]
        rfl
       refine pure_ (i := 6) (N := some 51) (v := ?_) (a' := ?_) (m_ 11 111) rfl rfl (by kernel_rfl) (fun _ _ _ h => h) (Or.inl ⟨by rfl, ?_⟩) ?_ ?_
       rotate_left
       ·intro w'
        go_simp
        with_reducible rfl
       rotate_left
       ·simp only [Act.put, sI_, s0_, s1_, i64_w, i32_w]
        rfl
       refine pure_ (i := 7) (N := some 52) (v := ?_) (a' := ?_) (m_ 11 239) rfl rfl (by kernel_rfl) (fun _ _ _ h => h) (Or.inl ⟨by rfl, ?_⟩) ?_ ?_
       rotate_left
       ·intro w'
        go_simp
        with_reducible rfl
       rotate_left
       ·simp only [Act.put, sI_, s0_, s1_, i64_w, i32_w]
        rfl
       refine pure_ (i := 8) (N := some 53) (v := ?_) (a' := ?_) (m_ 11 495) rfl rfl (by kernel_rfl) (fun _ _ _ h => h) (Or.inl ⟨by rfl, ?_⟩) ?_ ?_
       rotate_left
       ·intro w'
        go_simp
        with_reducible rfl
       rotate_left
       ·simp only [Act.put, sI_, s0_, s1_, i64_w, i32_w]
        rfl
       refine take_ (i := 4) (N := some 49) (v := .int .i64 c0) (a' := ?_) (m_ 11 511) rfl rfl (by kernel_rfl) (fun _ _ _ h => h) (Or.inl ⟨by rfl, ?_⟩) hHeld ?_ ?_
       ·intro w' sh
        obtain ⟨c1, hrun, hat1, -⟩ := World.ownsMap.lookup_int sh law56 Tryd.underlying53 Tryd.underlying3 (zero3 _) (keyOf_int_mk Tryd.underlying56 (wf32 HMR.out.1 HMR.out.2))
        obtain rfl : c1 = c0 := by
         have h := hat1.symm.trans HAT0.out
         simpa using h
        simp only [orF] at hrun
        go_simp
        try with_reducible rfl
       rotate_left
       ·simp only [Act.put, sI_, s0_, s1_, i64_w, i32_w]
        rfl
       refine pure_ (i := 9) (N := some 54) (v := ?_) (a' := ?_) (m_ 11 1023) rfl rfl (by kernel_rfl) (fun _ _ _ h => h) (Or.inl ⟨by rfl, ?_⟩) ?_ ?_
       rotate_left
       ·intro w'
        go_simp
        with_reducible rfl
       rotate_left
       ·simp only [Act.put, sI_, s0_, s1_, i64_w, i32_w]
        rfl
       refine last_ (i := 10) (N := none) (m_ 11 2047) rfl rfl (by kernel_rfl) (by decide) (fun K hK => ?_)
       obtain ⟨w12, hrun, hm12, hg12⟩ := World.ownsMap.update O law56 Tryd.underlying53 (by have := HSZ8.out.2; have := HL12.out; omega) (keyOf_int_mk Tryd.underlying56 (wf32 HMR.out.1 HMR.out.2)) (plainElem_int Tryd.underlying3 (wf64 (x := c0 + q) (by have := HC0.out; have := HQB.out; omega) (by have := HC0.out; have := HTB.out; have := HQB.out; omega)))
       refine skip_ (w1 := w12) (by rfl) rfl ?_ ?_
       ·simp only [orF] at hrun
        unfold execOp
        simp [Act.eval, hw0, hrun]
       have X12 := A_.mk (Xd.out.putL HAT0.out HQB.out.1 HFM.out (HQ2.out m Hm.out) hm12 hg12)
       have RG12 := A_.mk (RGd.out.kept hg12 (fun e => by have := Option.some.inj e; have := HBlt.out; omega) (fun e => by have := Option.some.inj e; omega))
       have HS12 := A_.mk (Nat.lt_of_lt_of_le HSd.out hg12.size)
       have RR12 := A_.mk (Kd.R_grown RRd.out hg12 (fun k_ hk e => by have := Option.some.inj e; have := HS7.out; omega))
       refine hK.out _ _ ?_
       clear hK K hHeld hrun hm12 hg12 O Xd RGd HSd RRd
       refine done_ (by kernel_rfl) ?_
       try go_wp2
       have hw : wrap64 ((t : Int) + 1) = ((t + 1 : Nat) : Int) := w_next (Nat.lt_of_lt_of_le hlt (Nat.le_trans HL12.out (by decide)))
       go_roundg (kt - 1)
       case measure => exact k_less htk.out (Nat.le_of_lt hlt)
       case rel => exact ⟨t + 1, ents ((DataW.map esL2).put (.int .u32 (orF x m)) (.lit (.int .i64 (c0 + q)))), by rw [hw], ⟨k_next htk.out hlt⟩, ⟨hlt⟩, ⟨X12.out.to (fun g => by
         rw [Htake.out, rsum_append]
         simp only [rsum]
         grind) (by rw [show ((t + 1 : Nat) : Int) = (t : Int) + 1 by omega, Int.mul_add, Int.mul_one]; omega) (Nat.le_refl _) (Nat.le_refl _)⟩, RG12, HS12, RR12⟩
      ·obtain rfl : t = lx.length := by have := htl.out; omega
       have c6 : decide (lx.length < lx.length) = false := decide_eq_false (by omega)
       go_wp2
       have h7 := HLT7.out
       go_roundg cnt7
       case measure => exact h7
       case rel => exact ⟨_, esE3, esL2, RG, ⟨by have := HKQ.out; omega⟩, ⟨X.out.to (fun g => by
         rw [HST.out (vE k n ring g), List.take_length, rsum_mul]
         show _ = rws g esE + (rwl (vE k n ring g) left es + (cx : Rat) * vE k n ring g x)
         obtain ⟨v0, v1⟩ := vE_step g HFX.out Hd13.out HLX2.out
         by_cases hl0 : lx = []
         ·rw [if_pos hl0, v0 hl0, hl0]
          simp only [rsum]
          grind
         ·rw [if_neg hl0, ← v1 hl0]
          have h1 := HQ0.out hl0
          have h2 : (cx : Rat) = (q : Rat) * ((lx.length : Nat) : Rat) := by
           rw [h1, Rat.intCast_mul, Rat.intCast_natCast]
          rw [h2]
          grind) (by
         have h1 := HST1.out
         rw [h1]
         by_cases hl0 : lx = []
         ·rw [if_pos hl0, hl0]
          simp
          omega
         ·rw [if_neg hl0, Int.zero_add, ← HQ0.out hl0]
          omega) (by have := HLT7.out; have := HKQ.out; omega) (by have := HLT7.out; have := HKQ.out; have := HL12.out; omega)⟩, HS⟩

/-- The map of the ends. -/
structure En (k : Nat) (n : Int) (ring : Bool) (T : Int) (w wr : World) (bE cE : Nat) (esE : List (Lit × DataW Unit)) : Prop where
 own : wr.ownsMap Tryd.prog 56 (plainElem Tryd.prog 3) bE cE (.map esE)
 lo : w.heap.size ≤ bE
 bel : Below w.heap.size w wr
 pos : ∀ p ∈ esE, 0 < vx p.2
 sum : ∀ g, rws g esE = 479001600 * vE k n ring g T
 one : ws (fun _ => 1) esE = 479001600
 key : ∀ p ∈ esE, ∃ x : Int, p.1 = Lit.int .u32 x ∧ 0 ≤ x ∧ x < 4294967296
theorem Fi.en {k : Nat} {n : Int} {ring : Bool} {T : Int} {w0 w wr : World} {bE cE bL cL : Nat} {esE : List (Lit × DataW Unit)} (h : Fi k n ring w wr bE cE esE bL cL [] 0 (fun g => 479001600 * vE k n ring g T) 479001600) (hb : Below w0.heap.size w0 w) : En k n ring T w0 wr bE cE esE :=
 ⟨h.ownE, Nat.le_trans (below_size hb) h.loE, below_step hb h.bel, h.posE, fun g => by have := h.sum g; simp only [rws] at this; grind, by have := h.one; simp only [ws] at this; omega, h.keyE⟩
section
variable {k : Nat} {n : Int} {ring : Bool} {T : Int} {w wr w' : World} {bE cE : Nat} {esE : List (Lit × DataW Unit)}
theorem En.size (h : En k n ring T w wr bE cE esE) : w.heap.size ≤ wr.heap.size := below_size h.bel
theorem En.step (h : En k n ring T w wr bE cE esE) (hb : Below wr.heap.size wr w') : En k n ring T w w' bE cE esE :=
 ⟨h.own.kept (grown_of_below hb none) (by simp), h.lo, below_step h.bel hb, h.pos, h.sum, h.one, h.key⟩
theorem En.low {w0 : World} (h : En k n ring T w wr bE cE esE) (hb : Below w0.heap.size w0 w) : En k n ring T w0 wr bE cE esE :=
 ⟨h.own, Nat.le_trans (below_size hb) h.lo, below_step hb h.bel, h.pos, h.sum, h.one, h.key⟩
theorem En.pair (h : En k n ring T w wr bE cE esE) : esE.Pairwise (fun p q => p.1 ≠ q.1) := by obtain ⟨es', e, h, _⟩ := h.own.entries law56; cases e; exact h
/-- What is looked up is the sum by the weight that asks for the key. -/
theorem ind_sum {F c : Int} : ∀ {l : List (Lit × DataW Unit)}, l.Pairwise (fun p q => p.1 ≠ q.1) → (∀ p ∈ l, ∃ x : Int, p.1 = Lit.int .u32 x ∧ 0 ≤ x ∧ x < 4294967296) → (DataW.map l).atKey (.int .u32 F) (.lit (.int .i64 0)) = .lit (.int .i64 c) → rws (fun s => if s = F then 1 else 0) l = (c : Rat)
 | [], _, _, h => by
  simp [DataW.atKey] at h
  subst h
  simp [rws]
 | p :: r, hp, hk, h => by
  obtain ⟨h1, h2⟩ := List.pairwise_cons.1 hp
  obtain ⟨x, hx, -, -⟩ := hk p (by simp)
  have hz : ∀ {l : List (Lit × DataW Unit)}, (∀ q ∈ l, ∃ x : Int, q.1 = Lit.int .u32 x ∧ 0 ≤ x ∧ x < 4294967296) → (∀ q ∈ l, q.1 ≠ Lit.int .u32 F) → rws (fun s => if s = F then 1 else 0) l = 0 := by
   intro l
   induction l with
   | nil => intro _ _; simp [rws]
   | cons q t ih =>
    intro a b
    obtain ⟨y, hy, -, -⟩ := a q (by simp)
    have hne : y ≠ F := fun e => b q (by simp) (by rw [hy, e])
    simp only [rws, ih (fun z hz => a z (by simp [hz])) (fun z hz => b z (by simp [hz])), hy, kx, if_neg hne]
    grind
  simp only [DataW.atKey, List.find?_cons] at h
  by_cases e : x = F
  ·subst e
   have hs : p.1.sameKey (.int .u32 x) = true := by rw [hx]; exact WideAt.sameKey_self (a := .int .u32 x) trivial
   rw [hs] at h
   simp only at h
   simp only [rws]
   rw [hz (fun q hq => hk q (by simp [hq])) (fun q hq he => h1 q hq (by rw [hx, he])), h, hx]
   simp [kx, vx]
   grind
  ·have hs : p.1.sameKey (.int .u32 F) = false := by
    cases e2 : p.1.sameKey (.int .u32 F) with
    | false => rfl
    | true => exact absurd (by have := WideAt.sameKey_eq e2; rw [hx] at this; injection this) e
   rw [hs] at h
   simp only [rws]
   rw [ind_sum h2 (fun q hq => hk q (by simp [hq])) h, hx]
   simp [kx, e]
   grind
end
theorem ends_calls (k : Nat) (n : Int) (ring : Bool) (A : Option Addr) (c : Nat) (l : List Int) (T : Int) (w : World) (hr : Kd.C (Kd.int .i64) w A l.length l) (hc : l.length ≤ c) (hT : XTab w) (ht : impl_Row_taken.f k n ring l = some T) (hk : fldOk k n ring 13 T) :
  Calls Tryd.prog 29 #[.agg #[.int .i64 n, .bool ring, .slice A l.length c]] w fun e w' => ∃ (bE cE : Nat) (esE : List (Lit × DataW Unit)), e = .returned (.map (some bE)) ∧ En k n ring T w w' bE cE esE := by
 have HR := A_.mk hr
 have HC := A_.mk hc
 have HT := A_.mk hT
 have HTK := A_.mk ht
 have HK := A_.mk hk
 have HBw := A_.mk (Below.refl w.heap.size w)
 clear hr hc hT ht hk
 go_enter Tryd.func29, Tryd.ntmps29
 go_upto_region 1 with (first | ((with_reducible refine gate_dst (N := 1) rfl ?_); refine box_event ?hg (N := 1) ?hd (cs := #[.int .i64 n, .bool ring, .slice A l.length c]) (t := 29) ?hr ?_; (case hd => rfl); (case hg => rfl); (case hr => first | (go_simp; done) | (go_simp; rfl)); intro gb hg w1 hbox hb; have BK := A_.mk (blk_drew hbox); have HB1 := A_.mk (below_drew1 (below_step HBw.out hb)); clear hg hbox hb))
 have s0 : w1.drew.cell? ⟨gb, 0, none⟩ = some (.int .i64 n) := (blk_cell BK.out 0).trans rfl
 have s1 : w1.drew.cell? ⟨gb, 1, none⟩ = some (.bool ring) := (blk_cell BK.out 1).trans rfl
 have s2 : w1.drew.cell? ⟨gb, 2, none⟩ = some (.slice A l.length c) := (blk_cell BK.out 2).trans rfl
 refine start_ (n := 7) (S := fun w' => w'.cell? ⟨gb, 0, none⟩ = some (.int .i64 n) ∧ w'.cell? ⟨gb, 1, none⟩ = some (.bool ring) ∧ w'.cell? ⟨gb, 2, none⟩ = some (.slice A l.length c)) (ds := [5]) (m_ 7 0) (by kernel_rfl) rfl rfl ⟨s0, s1, s2⟩ (fun hHeld => ?_)
 generalize w1.drew = wd at *
 refine take_ (i := 0) (N := some 3) (v := ?_) (a' := ?_) (m_ 7 1) rfl rfl (by kernel_rfl) (fun _ _ _ h => h) (Or.inl ⟨by rfl, ?_⟩) hHeld ?_ ?_
 rotate_left
 ·intro w' sh
  obtain ⟨s0, s1, s2⟩ := sh
  go_simp
  with_reducible rfl
 rotate_left
 ·simp only [Act.put, sI_, s0_, s1_, i64_w, i32_w]
  rfl
 refine take_ (i := 2) (N := some 5) (v := ?_) (a' := ?_) (m_ 7 5) rfl rfl (by kernel_rfl) (fun _ _ _ h => h) (Or.inl ⟨by rfl, ?_⟩) hHeld ?_ ?_
 rotate_left
 ·intro w' sh
  obtain ⟨s0, s1, s2⟩ := sh
  go_simp
  with_reducible rfl
 rotate_left
 ·simp only [Act.put, sI_, s0_, s1_, i64_w, i32_w]
  rfl
 refine one_ (i := 1) (N := some 4) (m_ 7 7) rfl rfl (by kernel_rfl) (by decide) (fun K hK => ?_)
 refine goes_ Tryd.func30 (by kernel_rfl) rfl #[.agg #[.int .i64 n, .bool ring, .slice A l.length c]] (by rfl) rfl rfl (by (try simp only [List.map_toArray, List.map_cons, List.map_nil]); first | done | rfl) ?_
 refine (impl_Row_taken.calls k n ring A c l T wd (Kd.C_below HR.out HB1.out) HC.out HTK.out).mono ?_
 rintro e w2 ⟨rfl, hb⟩
 refine ⟨_, rfl, ?_⟩
 have B2 := A_.mk (below_step HB1.out hb)
 refine hK.out _ _ ⟨(pw_cell_below hb hHeld.1).trans rfl, (pw_cell_below hb hHeld.2.1).trans rfl, (pw_cell_below hb hHeld.2.2).trans rfl⟩ (fun hHeld2 => ?_)
 clear hK K hHeld hb s0 s1 s2
 refine norm_ (a' := ?_) ?_ ?_
 rotate_left
 ·show Act.put _ (some 4) _ = _
  simp only [Act.put, sI_, s0_, s1_, i64_w, i32_w]
  rfl
 refine one_ (i := 3) (N := some 6) (m_ 7 15) rfl rfl (by kernel_rfl) (by decide) (fun K hK => ?_)
 refine goes_ Tryd.func37 (by kernel_rfl) rfl #[.agg #[.int .i64 n, .bool ring, .slice A l.length c]] (by rfl) rfl rfl (by (try simp only [List.map_toArray, List.map_cons, List.map_nil]); first | done | rfl) ?_
 refine (impl_Row_bench.calls n ring A c l n ring w2 (Kd.C_below HR.out B2.out) HC.out rfl).mono ?_
 rintro e w3 ⟨rfl, hb⟩
 refine ⟨_, rfl, ?_⟩
 have B3 := A_.mk (below_step B2.out hb)
 refine hK.out _ _ ⟨(pw_cell_below hb hHeld2.1).trans rfl, (pw_cell_below hb hHeld2.2.1).trans rfl, (pw_cell_below hb hHeld2.2.2).trans rfl⟩ (fun hHeld3 => ?_)
 clear hK K hHeld2 hb
 refine norm_ (a' := ?_) ?_ ?_
 rotate_left
 ·show Act.put _ (some 6) _ = _
  simp only [Act.put, sI_, s0_, s1_, i64_w, i32_w]
  rfl
 refine pure_ (i := 4) (N := some 7) (v := ?_) (a' := ?_) (m_ 7 31) rfl rfl (by kernel_rfl) (fun _ _ _ h => h) (Or.inl ⟨by rfl, ?_⟩) ?_ ?_
 rotate_left
 ·intro w'
  go_simp
  with_reducible rfl
 rotate_left
 ·simp only [Act.put, sI_, s0_, s1_, i64_w, i32_w]
  rfl
 refine last_ (i := 5) (N := some 8) (m_ 7 63) rfl rfl (by kernel_rfl) (by decide) (fun K hK => ?_)
 refine goes_ Tryd.func57 (by kernel_rfl) rfl #[.int .u32 T, .func (.func 58) #[.agg #[.int .i64 n, .bool ring]] #[]] (by rfl) rfl rfl (by (try simp only [List.map_toArray, List.map_cons, List.map_nil]); first | done | rfl) ?_
 refine (filled_calls k n ring T w3 (XTab.below HT.out B3.out) HK.out).mono ?_
 rintro e w4 ⟨bE, cE, esE, B, c2, rfl, hF⟩
 refine ⟨_, rfl, ?_⟩
 have EN := A_.mk (hF.en B3.out)
 refine hK.out _ _ ?_
 clear hK K hHeld3 hF
 refine norm_ (a' := ?_) ?_ ?_
 rotate_left
 ·show Act.put _ (some 8) _ = _
  simp only [Act.put, sI_, s0_, s1_, i64_w, i32_w]
  rfl
 refine pure_ (i := 6) (N := some 2) (v := ?_) (a' := ?_) (m_ 7 127) rfl rfl (by kernel_rfl) (fun _ _ _ h => h) (Or.inl ⟨by rfl, ?_⟩) ?_ ?_
 rotate_left
 ·intro w'
  go_simp
  with_reducible rfl
 rotate_left
 ·simp only [Act.put, sI_, s0_, s1_, i64_w, i32_w]
  rfl
 refine done_ (by kernel_rfl) ?_
 try go_wp2
 go_ret
 exact ⟨bE, cE, esE, rfl, EN.out⟩
theorem fld_mono {k : Nat} {n : Int} {ring : Bool} : ∀ (d : Nat) (s : Int), fldOk k n ring d s → fldOk (k + 1) n ring d s ∧ nxF (k + 1) n ring s = nxF k n ring s ∧ ∀ g f, vEd (k + 1) n ring g f s = vEd k n ring g f s
 | 0, _, h => h.elim
 | d + 1, s, h => by
  obtain ⟨hr, l, hl, h12, hm⟩ := h
  have hl2 := impl_bench_singles.mono _ _ _ k _ hl
  have e1 := nx_of hl
  have e2 := nx_of hl2
  refine ⟨⟨hr, l, hl2, h12, fun m hm2 => ?_⟩, e2.trans e1.symm, fun g f => ?_⟩
  ·obtain ⟨h1, h2, -⟩ := fld_mono d (orF s m) (hm m hm2).1
   exact ⟨h1, by rw [h2]; exact (hm m hm2).2⟩
  ·cases f with
   | zero => rfl
   | succ f =>
    simp only [vEd]
    rw [e1, e2]
    by_cases e : l = []
    ·rw [if_pos e, if_pos e]
    ·rw [if_neg e, if_neg e]
     congr 1
     exact rsum_congr fun m hm2 => (fld_mono d (orF s m) (hm m hm2).1).2.2 g f
theorem vE_mono {k : Nat} {n : Int} {ring : Bool} {d : Nat} {s : Int} (h : fldOk k n ring d s) (g : Int → Rat) : vE (k + 1) n ring g s = vE k n ring g s := (fld_mono d s h).2.2 g 13
/-- fldOk, as a test. -/
def fldB (k : Nat) (n : Int) (ring : Bool) : Nat → Int → Bool
 | 0, _ => false
 | d + 1, s => decide (0 ≤ s ∧ s < 4294967296) && (match impl_bench_singles.f k n ring s with
  | some l => decide (l.length ≤ 12) && l.all (fun m => fldB k n ring d (orF s m) && decide ((nxF k n ring (orF s m)).length + 1 ≤ l.length))
  | none => false)
theorem fldB_iff (k : Nat) (n : Int) (ring : Bool) : ∀ (d : Nat) (s : Int), fldB k n ring d s = true ↔ fldOk k n ring d s
 | 0, s => by simp [fldB, fldOk]
 | d + 1, s => by
  simp only [fldB, fldOk, Bool.and_eq_true, decide_eq_true_eq]
  cases e : impl_bench_singles.f k n ring s with
  | none => simp
  | some l =>
   simp only [Bool.and_eq_true, decide_eq_true_eq, List.all_eq_true, fldB_iff k n ring d, Option.some.injEq, exists_eq_left']
def oneF (F s : Int) : Rat := if s = F then 1 else 0

theorem zero_iff {c : Int} {v : Rat} (h : (c : Rat) = 479001600 * v) : c = (479001600 * v).num := by rw [← h]; simp

/-! The closure of SeatChance: a seat's bit. -/
def bitI (p x : Int) : Int := Go.bits .and .u32 (shr .u32 x p) 1
theorem bitI_eq {p x : Int} (h0 : 0 ≤ x) (h1 : x < 4294967296) : bitI p x = x / 2 ^ min p.toNat 32 % 2 := by
 obtain ⟨n, rfl⟩ : ∃ n : Nat, x = n := ⟨x.toNat, by omega⟩
 unfold bitI shr
 show Go.bits .and .u32 ((n : Int) / 2 ^ min p.toNat 32) 1 = _
 have e : ((n : Int) / 2 ^ min p.toNat 32) = ((n / 2 ^ min p.toNat 32 : Nat) : Int) := by rw [Int.natCast_ediv, Int.natCast_pow]; rfl
 have hl : n / 2 ^ min p.toNat 32 ≤ n := Nat.div_le_self _ _
 have hb := (bits_nat .u32 32 (by decide) (fun z h0 h1 => by rw [IntKind.wrap_u32]; omega) (n / 2 ^ min p.toNat 32) 1 (by omega) (by decide)).1
 rw [e]
 refine hb.trans ?_
 rw [Nat.and_one_is_mod]
 omega
theorem bitI_01 {p x : Int} (h0 : 0 ≤ x) (h1 : x < 4294967296) : 0 ≤ bitI p x ∧ bitI p x ≤ 1 := by
 rw [bitI_eq h0 h1]
 omega
theorem rws_ws (f : Int → Int) : ∀ l : List (Lit × DataW Unit), rws (fun s => (f s : Rat)) l = ((ws f l : Int) : Rat)
 | [] => by simp [rws, ws]
 | p :: r => by simp only [rws, ws]; rw [rws_ws f r]; simp
theorem bit_calls (p x : Int) (gp : Nat) (w : World) (hp : 0 ≤ p) (hx0 : 0 ≤ x) (hx1 : x < 4294967296) (hbox : w.heap[gp]? = some (.cells #[.int .i64 p] 3 (0, 0))) :
  Calls Tryd.prog 49 #[.int .u32 x, .pointer (some ⟨gp, 0, none⟩)] w fun e w' => e = .returned (.int .i64 (bitI p x)) ∧ Below w.heap.size w w' := by
 have HB := A_.mk (Below.refl w.heap.size w)
 have hcz : w.cell? ⟨gp, 0, none⟩ = some (.int .i64 p) := (blk_cell hbox 0).trans rfl
 have HX := A_.mk (bitI_01 (p := p) hx0 hx1)
 have c3b0 := eq_true hp
 have c3b1 : decide (0 ≤ p) = true := decide_eq_true hp
 obtain ⟨ji, hji⟩ : ∃ j : Int, (shr .u32 x p) = j := ⟨_, rfl⟩
 have hji_ : (x / 2 ^ min p.toNat 32) = ji := hji
 have hjz : p ≤ 32 → (x / 2 ^ p.toNat) = ji := shr_small hji
 have hwr : IntKind.i64.wrap (Go.bits .and .u32 ji 1) = Go.bits .and .u32 ji 1 := by
  have := HX.out
  unfold bitI at this
  rw [hji] at this
  rw [IntKind.wrap_i64]
  omega
 clear hbox
 go_enter Tryd.func49, Tryd.ntmps49
 go_wp2
 go_ret
 exact ⟨by unfold bitI; rw [hji]; rfl, by repeat (first | (with_reducible first | exact HB.out | apply below_alloc | apply pw_below_drewN | apply below_drew1) | exact HB.out)⟩
theorem mean_calls (k : Nat) (p : Int) (gp bE cE : Nat) (es : List (Lit × DataW Unit)) (q1 q2 : Int) (w : World) (hp : 0 ≤ p) (hbox : w.heap[gp]? = some (.cells #[.int .i64 p] 3 (0, 0))) (hown : w.ownsMap Tryd.prog 56 (plainElem Tryd.prog 3) bE cE (.map es)) (hpos : ∀ q ∈ es, 0 < vx q.2) (hone : ws (fun _ => 1) es = 479001600) (hkey : ∀ q ∈ es, ∃ x : Int, q.1 = Lit.int .u32 x ∧ 0 ≤ x ∧ x < 4294967296) (hf : impl_fraction.f k (ws (bitI p) es) 479001600 = some (q1, q2)) :
  Calls Tryd.prog 48 #[.map (some bE), .func (.func 49) #[] #[.pointer (some ⟨gp, 0, none⟩)]] w fun e w' => e = .returned (.agg #[.int .i64 q1, .int .i64 q2]) ∧ Below w.heap.size w w' := by
 have hu26 := Tryd.underlying26
 have hpw : es.Pairwise (fun p q => p.1 ≠ q.1) := by obtain ⟨es', e, h, _⟩ := hown.entries law56; cases e; exact h
 have hkl : ∀ p ∈ es, WideAt.IsKeyLit p.1 := by obtain ⟨es', e, _, h⟩ := hown.entries law56; cases e; exact h
 have HPW := A_.mk hpw
 have HKL := A_.mk hkl
 have HB := A_.mk (Below.refl w.heap.size w)
 have HP := A_.mk hp
 have BP := A_.mk hbox
 have OWN := A_.mk hown
 have POS := A_.mk hpos
 have ONE := A_.mk hone
 have KEY := A_.mk hkey
 have HF := A_.mk hf
 have HNN := A_.mk (show ∀ q ∈ es, 0 ≤ vx q.2 * (fun _ => (1 : Int)) (kx q.1) from fun q hq => by have := hpos q hq; simp only []; omega)
 have HNB := A_.mk (show ∀ q ∈ es, 0 ≤ vx q.2 * bitI p (kx q.1) from fun q hq => by
  obtain ⟨x, e, h0, h1⟩ := hkey q hq
  rw [e]
  exact Int.mul_nonneg (by have := hpos q hq; omega) (bitI_01 h0 h1).1)
 have HLE := A_.mk (show ws (bitI p) es ≤ ws (fun _ => 1) es from by
  clear hpw hkl hown hone hf HPW HKL OWN ONE HF HNN HNB POS KEY
  induction es with
  | nil => simp [ws]
  | cons q r ih =>
   simp only [ws]
   obtain ⟨x, e, h0, h1⟩ := hkey q (by simp)
   have h2 := ih (fun z hz => hpos z (by simp [hz])) (fun z hz => hkey z (by simp [hz]))
   have h3 := hpos q (by simp)
   have h4 := bitI_01 (p := p) h0 h1
   rw [e]
   show vx q.2 * bitI p x + _ ≤ _
   have h5 : vx q.2 * bitI p x ≤ vx q.2 * 1 := Int.mul_le_mul_of_nonneg_left h4.2 (by omega)
   omega)
 have HLT := A_.mk (show gp < w.heap.size from blk_lt hbox)
 clear hpw hkl hp hbox hown hpos hone hkey hf
 go_enter Tryd.func48, Tryd.ntmps48
 go_upto_region 1 with (first
  | ((with_reducible refine gate_dst (N := 4) rfl ?_); refine box_event ?hg (N := 4) ?hd (cs := #[.int .i64 0, .int .i64 0]) (t := 26) ?hr ?_; (case hd => rfl); (case hg => rfl); (case hr => first | (go_simp; done) | (go_simp; rfl)); intro gc hg wc hbox hb; have BC := A_.mk hbox; have OWc := A_.mk (OWN.out.kept (grown_of_below hb none) (by simp)); have Bc := A_.mk (below_step HB.out hb); have GC := A_.mk (by rw [hg]; exact below_size HB.out : w.heap.size ≤ gc); have GC2 := A_.mk (blk_lt hbox); clear hg hbox hb))
 clear HB OWN
 go_wp2_with (first
  | (at_range; refine wpList_range_own _ rfl _ 53 rfl 56 3 law56 Tryd.underlying53 _ bE cE _ rfl OWc.out ?_; intro w6 hrg6 hg6 hs6)
  | go_in)
 have RG6 := A_.mk hrg6
 have HB6 := A_.mk (Bc.out.grown hg6 (below_size Bc.out) (fun j hj => by cases hj))
 have BC6 := A_.mk ((hg6.block gc GC2.out (by simp)).trans BC.out)
 have hwr := A_.mk (below_size Bc.out)
 have HS6 := A_.mk (show wc.heap.size < w6.heap.size by rw [hs6]; omega)
 clear hrg6 hs6 hg6
 go_loopg [5] (Maps.size (.map es)) (fun kq v5 w' => ∃ (left : Lit → Bool), v5 = .int .i64 (wl (bitI p) left es) ∧ A_ (w'.ranges Tryd.prog 56 (plainElem (H := Unit) Tryd.prog 3) bE wc.heap.size cE (.map es) left kq) ∧ A_ (Below w.heap.size w w') ∧ A_ (w'.heap[gc]? = some (.cells #[.int .i64 0, .int .i64 0] 26 (0, 0))) ∧ A_ (wc.heap.size < w'.heap.size))
 case atStart => exact ⟨_, by rw [wl_start _ es es fun p hp => ⟨hp, HKL.out p hp⟩], RG6, HB6, BC6, HS6⟩
 case round =>
  clear RG6 HB6 BC6 HS6
  obtain ⟨left, rfl, RG, HBq, BCq, HSq⟩ := hrel
  go_wp2_with (first
   | (at_next; refine wpList_next_ranges_ii _ rfl _ rfl 56 3 .u32 .i64 law56 Tryd.underlying56 Tryd.underlying3 bE wc.heap.size cE _ _ _ rfl RG.out ?_ ?_)
   | go_in)
  ·intro hc0 hl0
   have HF2 := HF.out
   rw [← wl_end (bitI p) hl0 es] at HF2
   have HFA := A_.mk HF2
   clear hc0 hl0 HF2
   go_wp2_with (go_at_call 31; (with_reducible refine (impl_fraction.calls k _ 479001600 q1 q2 _ HFA.out).mono ?_); rintro e w6 ⟨rfl, hb⟩; have B6 := A_.mk (below_step HBq.out hb); have BC6 := A_.mk (blk_below (g := gc) (o := .cells #[.int .i64 0, .int .i64 0] 26 (0, 0)) BCq.out hb); clear hb; have hcz0 : w6.cell? ⟨gc, 0, none⟩ = some (.int .i64 0) := (blk_cell BC6.out 0).trans rfl; have hcz1 : w6.cell? ⟨gc, 1, none⟩ = some (.int .i64 0) := (blk_cell BC6.out 1).trans rfl; have hfz0 := blk_frozen BC6.out 0; have hfz1 := blk_frozen BC6.out 1)
   refine bodyPost_ret (results_cell_row rfl _ _ gc 26 #[.int .i64 q1, .int .i64 q2] (0, 0) _ rfl (by (with_reducible repeat (first | refine blk_drewN ?_ _ | refine blk_drew ?_ | refine blk_alloc ?_ _)); refine blk_put (cs := #[.int .i64 q1, .int .i64 0]) ?_ 1 _ rfl; (with_reducible repeat (first | refine blk_drewN ?_ _ | refine blk_drew ?_ | refine blk_alloc ?_ _)); refine blk_put (cs := #[.int .i64 0, .int .i64 0]) ?_ 0 _ rfl; (with_reducible repeat (first | refine blk_drewN ?_ _ | refine blk_drew ?_ | refine blk_alloc ?_ _)); exact BC6.out) Tryd.underlying26 rfl (by kernel_rfl)) rfl ?_
   exact ⟨rfl, by repeat (first | (with_reducible first | exact B6.out | apply below_alloc | apply pw_below_drewN | apply below_drew1 | refine below_set ?_ GC.out) | exact B6.out)⟩
  ·intro x cx w7 cnt7 hwx hwc hlx hat hrg7 hlt7 hg7 hs7 hen
   have HAT := A_.mk (at_mem hat)
   have RG7 := A_.mk hrg7
   have HLT7 := A_.mk hlt7
   have HB7 := A_.mk (HBq.out.grown hg7 (below_size HBq.out) (fun j hj => by cases hj; have := hwr.out; omega))
   have BC7 := A_.mk ((hg7.block gc (by have := GC2.out; have := HSq.out; omega) (by have := GC2.out; intro e; have := Option.some.inj e; omega)).trans BCq.out)
   have HS7 := A_.mk (show wc.heap.size < w7.heap.size by rw [hs7]; exact HSq.out)
   have BP7 := A_.mk (blk_below (g := gp) (o := .cells #[.int .i64 p] 3 (0, 0)) BP.out HB7.out)
   have hst := wl_step (bitI p) left (q := .i64) (c := cx) (k := .int .u32 x) trivial hlx HPW.out HAT.out
   simp only [kx] at hst
   have HST := A_.mk hst
   have hle := wl_le (bitI p) (left := fun z => left z && !z.sameKey (.int .u32 x)) es HNB.out
   have hle1 := wl_le (bitI p) (left := left) es HNB.out
   have hx : 0 ≤ x ∧ x < 4294967296 := by
    obtain ⟨x', e, h0, h1⟩ := KEY.out _ HAT.out
    cases e
    exact ⟨h0, h1⟩
   have HX := A_.mk hx
   have hb01 := bitI_01 (p := p) hx.1 hx.2
   have hcx : 0 < cx := POS.out _ HAT.out
   have hcle : cx ≤ 479001600 := by
    have h1 := wl_step (fun _ => 1) left (q := .i64) (c := cx) (k := .int .u32 x) trivial hlx HPW.out HAT.out
    have h2 := wl_le (fun _ => 1) (left := fun z => left z && !z.sameKey (.int .u32 x)) es HNN.out
    have h3 := wl_le (fun _ => 1) (left := left) es HNN.out
    have h4 := ONE.out
    rw [Int.mul_one] at h1
    omega
   have hm1 : cx * bitI p x ≤ cx * 1 := Int.mul_le_mul_of_nonneg_left hb01.2 (by omega)
   have hm0 : 0 ≤ cx * bitI p x := Int.mul_nonneg (by omega) hb01.1
   have hw1 : IntKind.i64.wrap (cx * bitI p x) = cx * bitI p x := by rw [IntKind.wrap_i64]; omega
   have hw0 : IntKind.i64.wrap (wl (bitI p) left es + cx * bitI p x) = wl (bitI p) left es + cx * bitI p x := by
    have h1 := HLE.out
    have h2 := ONE.out
    rw [IntKind.wrap_i64]
    omega
   clear hwx hwc hlx hat hrg7 hlt7 hg7 hs7 hst hle hle1 hx hb01 hcx hcle hm0 hm1 RG HBq BCq HSq
   go_wp2_with (((with_reducible refine gate_dst (N := 19) rfl ?_); refine callL_ (some 19) rfl rfl 49 #[.int .u32 x, .pointer (some ⟨gp, 0, none⟩)] ?hrun ?_; (case hrun => (have he := enters_ (P := Tryd.prog) Tryd.func49 (by kernel_rfl) rfl #[.int .u32 x, .pointer (some ⟨gp, 0, none⟩)] w7); unfold execOp; simp [resolve, Deferred.ofValue, invoke, Act.eval, he]); (with_reducible refine (bit_calls p x gp w7 HP.out HX.out.1 HX.out.2 BP7.out).mono ?_); rintro e w8 ⟨rfl, hb⟩; refine ⟨_, rfl, ?_⟩; have RG8 := A_.mk (RG7.out.kept (grown_of_below hb none) (by simp) (by simp)); have HB8 := A_.mk (below_step HB7.out hb); have BC8 := A_.mk (blk_below (g := gc) (o := .cells #[.int .i64 0, .int .i64 0] 26 (0, 0)) BC7.out hb); have HS8 := A_.mk (Nat.lt_of_lt_of_le HS7.out hb.size); clear hb))
   have h7 := HLT7.out
   go_roundg cnt7
   case measure => exact h7
   case rel => exact ⟨_, by rw [HST.out], RG8, HB8, BC8, HS8⟩

/-- What stands behind each step of SeatChance: its three boxes. -/
structure Bx (n : Int) (ring : Bool) (A : Option Addr) (c : Nat) (l : List Int) (p : Int) (w : World) (ga gp gc : Nat) (w' : World) : Prop where
 bel : Below w.heap.size w w'
 ba : w'.heap[ga]? = some (.cells #[.int .i64 n, .bool ring, .slice A l.length c] 29 (0, 0))
 bp : w'.heap[gp]? = some (.cells #[.int .i64 p] 3 (0, 0))
 bc : w'.heap[gc]? = some (.cells #[.int .i64 0, .int .i64 0] 26 (0, 0))
section
variable {n : Int} {ring : Bool} {A : Option Addr} {c : Nat} {l : List Int} {p : Int} {w wx w' : World} {ga gp gc : Nat}
theorem Bx.step (h : Bx n ring A c l p w ga gp gc wx) (hb : Below wx.heap.size wx w') : Bx n ring A c l p w ga gp gc w' := ⟨below_step h.bel hb, blk_below h.ba hb, blk_below h.bp hb, blk_below h.bc hb⟩
theorem Bx.drew (h : Bx n ring A c l p w ga gp gc wx) : Bx n ring A c l p w ga gp gc wx.drew := h.step (below_drew1 (Below.refl _ _))
theorem Bx.alloc (h : Bx n ring A c l p w ga gp gc wx) (o : Obj) : Bx n ring A c l p w ga gp gc (wx.alloc o) := h.step (below_alloc (Below.refl _ _) _)
theorem Bx.sa (h : Bx n ring A c l p w ga gp gc wx) : wx.cell? ⟨ga, 0, none⟩ = some (.int .i64 n) ∧ wx.cell? ⟨ga, 1, none⟩ = some (.bool ring) ∧ wx.cell? ⟨ga, 2, none⟩ = some (.slice A l.length c) ∧ wx.cell? ⟨gp, 0, none⟩ = some (.int .i64 p) := ⟨(blk_cell h.ba 0).trans rfl, (blk_cell h.ba 1).trans rfl, (blk_cell h.ba 2).trans rfl, (blk_cell h.bp 0).trans rfl⟩
theorem lit_one (p : Int) (wx : World) : (Kd.int .i64).C (wx.alloc (.cells #[.int .i64 p] 3)) (some ⟨wx.heap.size, 0, none⟩) 1 [p] :=
 Kd.C_of_reads (d := (0 : Int)) (h1 := fun _ => rfl) ⟨rfl, by omega, fun _ => ⟨_, rfl, fun j hj => by
  obtain rfl : j = 0 := by omega
  exact (blk_cell (blk_new wx (.cells #[.int .i64 p] 3)) 0).trans rfl⟩⟩
end
def impl_SeatChance.f (k : Nat) (a0_0 : Int) (a0_1 : Bool) (l0_2 : List Int) (a1 : Int) : Option (Int × Int × Bool) :=
 (impl_isFilled.f k a0_0 a0_1 l0_2).bind fun b => if b = true then (impl_bench_has.f k a0_0 a0_1 [a1]).bind fun b2 => if b2 = true then (impl_Row_taken.f k a0_0 a0_1 l0_2).bind fun T =>
  if fldB k a0_0 a0_1 13 T = true ∧ 0 ≤ a1 then (impl_fraction.f k (479001600 * vE k a0_0 a0_1 (fun s => (bitI a1 s : Rat)) T).num 479001600).bind fun q => some (q.1, q.2, true) else none
  else some (0, 0, false) else some (0, 0, false)
theorem impl_SeatChance.calls (k : Nat) (a0_0 : Int) (a0_1 : Bool) (A0_2 : Option Addr) (c0_2 : Nat) (l0_2 : List Int) (a1 : Int) (r1 r2 : Int) (r3 : Bool) (w : World) (hr0_2 : Kd.C (Kd.int .i64) w A0_2 l0_2.length l0_2) (hc0_2 : l0_2.length ≤ c0_2) (hT : XTab w) (h : impl_SeatChance.f k a0_0 a0_1 l0_2 a1 = some (r1, r2, r3)) :
  Calls Tryd.prog 22 #[.agg #[.int .i64 a0_0, .bool a0_1, .slice A0_2 l0_2.length c0_2], .int .i64 a1] w fun e w' => e = .returned (.tuple #[.agg #[.int .i64 r1, .int .i64 r2], .bool r3]) ∧ Below w.heap.size w w' := by
 have hu26 := Tryd.underlying26
 have hmf : ∀ (fn : Fn) (first cap : Array Value) (w : World), (Instr.makeFunc fn first cap).run Tryd.prog w = .ok (.func fn first cap) w := fun _ _ _ _ => rfl
 unfold impl_SeatChance.f at h
 obtain ⟨b, hb0, h⟩ := Option.bind_eq_some_iff.mp h
 have HR := A_.mk hr0_2
 have HC := A_.mk hc0_2
 have HT := A_.mk hT
 have HA := A_.mk hb0
 have HH := A_.mk h
 have HBw := A_.mk (Below.refl w.heap.size w)
 clear hr0_2 hc0_2 hT hb0 h
 go_enter Tryd.func22, Tryd.ntmps22
 go_upto_region 1 with (first
  | ((with_reducible refine gate_dst (N := 2) rfl ?_); refine box_event ?hg (N := 2) ?hd (cs := #[.int .i64 a0_0, .bool a0_1, .slice A0_2 l0_2.length c0_2]) (t := 29) ?hr ?_; (case hd => rfl); (case hg => rfl); (case hr => first | (go_simp; done) | (go_simp; rfl)); intro ga hg w1 hbox hb; have BA := A_.mk hbox; have B1 := A_.mk (below_step HBw.out hb); clear hg hbox hb)
  | ((with_reducible refine gate_dst (N := 3) rfl ?_); refine box_event ?hg (N := 3) ?hd (cs := #[.int .i64 a1]) (t := 3) ?hr ?_; (case hd => rfl); (case hg => rfl); (case hr => first | (go_simp; done) | (go_simp; rfl)); intro gp hg w2 hbox hb; have BP := A_.mk hbox; have BA2 := A_.mk (blk_below (g := ga) (o := .cells #[.int .i64 a0_0, .bool a0_1, .slice A0_2 l0_2.length c0_2] 29 (0, 0)) BA.out hb); have B2 := A_.mk (below_step B1.out hb); clear hg hbox hb)
  | ((with_reducible refine gate_dst (N := 4) rfl ?_); refine box_event ?hg (N := 4) ?hd (cs := #[.int .i64 0, .int .i64 0]) (t := 26) ?hr ?_; (case hd => rfl); (case hg => rfl); (case hr => first | (go_simp; done) | (go_simp; rfl)); intro gc hg wc hbox hb; have GC := A_.mk (by rw [hg]; exact below_size B2.out : w.heap.size ≤ gc); have X0 := A_.mk (Bx.mk (below_step B2.out hb) (blk_below BA2.out hb) (blk_below BP.out hb) hbox).drew; clear hg hbox hb))
 clear BA B1 BA2 BP B2
 obtain ⟨s0, s1, s2, s3⟩ := X0.out.sa
 refine start_ (n := 11) (S := fun w' => w'.cell? ⟨ga, 0, none⟩ = some (.int .i64 a0_0) ∧ w'.cell? ⟨ga, 1, none⟩ = some (.bool a0_1) ∧ w'.cell? ⟨ga, 2, none⟩ = some (.slice A0_2 l0_2.length c0_2) ∧ w'.cell? ⟨gp, 0, none⟩ = some (.int .i64 a1)) (ds := [8]) (m_ 11 0) (by kernel_rfl) rfl rfl ⟨s0, s1, s2, s3⟩ (fun hHeld => ?_)
 generalize wc.drew = wd at *
 clear s0 s1 s2 s3
 cases b with
 | false =>
  have hH := HH.out
  rw [if_neg (by decide)] at hH
  simp only [Option.some.injEq, Prod.mk.injEq] at hH
  obtain ⟨rfl, rfl, rfl⟩ := hH
  refine take_ (i := 0) (N := some 6) (v := ?_) (a' := ?_) (m_ 11 1) rfl rfl (by kernel_rfl) (fun _ _ _ h => h) (Or.inl ⟨by rfl, ?_⟩) hHeld ?_ ?_
  rotate_left
  ·intro w' sh
   obtain ⟨s0, s1, s2, s3⟩ := sh
   go_simp
   with_reducible rfl
  rotate_left
  ·simp only [Act.put, sI_, s0_, s1_, i64_w, i32_w]
   rfl
  refine one_ (i := 1) (N := some 7) (m_ 11 3) rfl rfl (by kernel_rfl) (by decide) (fun K hK => ?_)
  refine goes_ Tryd.func36 (by kernel_rfl) rfl #[.agg #[.int .i64 a0_0, .bool a0_1, .slice A0_2 l0_2.length c0_2]] (by rfl) rfl rfl (by (try simp only [List.map_toArray, List.map_cons, List.map_nil]); first | done | rfl) ?_
  refine (impl_isFilled.calls k a0_0 a0_1 A0_2 c0_2 l0_2 false wd (Kd.C_below HR.out X0.out.bel) HC.out HA.out).mono ?_
  rintro e w4 ⟨rfl, hb⟩
  refine ⟨_, rfl, ?_⟩
  have X4 := A_.mk (X0.out.step hb)
  refine hK.out _ _ X4.out.sa (fun hHeld4 => ?_)
  clear hK K hb hHeld X0
  refine norm_ (a' := ?_) ?_ ?_
  rotate_left
  ·show Act.put _ (some 7) _ = _
   simp only [Act.put, sI_, s0_, s1_, i64_w, i32_w]
   rfl
  refine pure_ (i := 2) (N := some 8) (v := ?_) (a' := ?_) (m_ 11 7) rfl rfl (by kernel_rfl) (fun _ _ _ h => h) (Or.inl ⟨by rfl, ?_⟩) ?_ ?_
  rotate_left
  ·intro w'
   go_simp
   with_reducible rfl
  rotate_left
  ·simp only [Act.put, sI_, s0_, s1_, i64_w, i32_w]
   rfl
  refine pure_ (i := 3) (N := some 9) (v := ?_) (a' := ?_) (m_ 11 15) rfl rfl (by kernel_rfl) (fun _ _ _ h => h) (Or.inl ⟨by rfl, ?_⟩) ?_ ?_
  rotate_left
  ·intro w'
   go_simp
   with_reducible rfl
  rotate_left
  ·simp only [Act.put, sI_, s0_, s1_, i64_w, i32_w]
   rfl
  refine pure_ (i := 4) (N := some 10) (v := undef) (a' := ?_) (m_ 11 31) rfl rfl (by kernel_rfl) (fun _ _ _ h => h) (Or.inr ⟨by rfl, rfl⟩) ?_ ?_
  rotate_left
  ·simp only [Act.put, sI_, s0_, s1_, i64_w, i32_w]
   rfl
  refine pure_ (i := 5) (N := some 11) (v := undef) (a' := ?_) (m_ 11 63) rfl rfl (by kernel_rfl) (fun _ _ _ h => h) (Or.inr ⟨by rfl, rfl⟩) ?_ ?_
  rotate_left
  ·simp only [Act.put, sI_, s0_, s1_, i64_w, i32_w]
   rfl
  refine pure_ (i := 6) (N := some 12) (v := undef) (a' := ?_) (m_ 11 127) rfl rfl (by kernel_rfl) (fun _ _ _ h => h) (Or.inr ⟨by rfl, rfl⟩) ?_ ?_
  rotate_left
  ·simp only [Act.put, sI_, s0_, s1_, i64_w, i32_w]
   rfl
  refine pure_ (i := 7) (N := some 13) (v := undef) (a' := ?_) (m_ 11 255) rfl rfl (by kernel_rfl) (fun _ _ _ h => h) (Or.inr ⟨by rfl, rfl⟩) ?_ ?_
  rotate_left
  ·simp only [Act.put, sI_, s0_, s1_, i64_w, i32_w]
   rfl
  refine pure_ (i := 8) (N := some 14) (v := undef) (a' := ?_) (m_ 11 511) rfl rfl (by kernel_rfl) (fun _ _ _ h => h) (Or.inr ⟨by rfl, rfl⟩) ?_ ?_
  rotate_left
  ·simp only [Act.put, sI_, s0_, s1_, i64_w, i32_w]
   rfl
  refine pure_ (i := 9) (N := some 15) (v := undef) (a' := ?_) (m_ 11 1023) rfl rfl (by kernel_rfl) (fun _ _ _ h => h) (Or.inr ⟨by rfl, rfl⟩) ?_ ?_
  rotate_left
  ·simp only [Act.put, sI_, s0_, s1_, i64_w, i32_w]
   rfl
  refine pure_ (i := 10) (N := some 16) (v := ?_) (a' := ?_) (m_ 11 2047) rfl rfl (by kernel_rfl) (fun _ _ _ h => h) (Or.inl ⟨by rfl, ?_⟩) ?_ ?_
  rotate_left
  ·intro w'
   go_simp
   with_reducible rfl
  rotate_left
  ·simp only [Act.put, sI_, s0_, s1_, i64_w, i32_w]
   rfl
  refine done_ (by kernel_rfl) ?_
  have hcz0 : w4.cell? ⟨gc, 0, none⟩ = some (.int .i64 0) := (blk_cell X4.out.bc 0).trans rfl
  have hcz1 : w4.cell? ⟨gc, 1, none⟩ = some (.int .i64 0) := (blk_cell X4.out.bc 1).trans rfl
  have hfz0 := blk_frozen X4.out.bc 0
  have hfz1 := blk_frozen X4.out.bc 1
  go_wp2
  refine bodyPost_ret (results_ct rfl _ _ gc 26 #[.int .i64 (0), .int .i64 (0)] (0, 0) _ rfl (by (with_reducible repeat (first | refine blk_drewN ?_ _ | refine blk_drew ?_ | refine blk_alloc ?_ _)); refine blk_put (cs := #[.int .i64 (0), .int .i64 0]) ?_ 1 _ rfl; (with_reducible repeat (first | refine blk_drewN ?_ _ | refine blk_drew ?_ | refine blk_alloc ?_ _)); refine blk_put (cs := #[.int .i64 0, .int .i64 0]) ?_ 0 _ rfl; (with_reducible repeat (first | refine blk_drewN ?_ _ | refine blk_drew ?_ | refine blk_alloc ?_ _)); exact X4.out.bc) Tryd.underlying26 rfl (by kernel_rfl)) rfl ?_
  exact ⟨rfl, by repeat (first | (with_reducible first | exact X4.out.bel | apply below_alloc | apply pw_below_drewN | apply below_drew1 | refine below_set ?_ GC.out) | exact X4.out.bel)⟩
 | true =>
  have hH := HH.out
  rw [if_pos rfl] at hH
  obtain ⟨b2, hb2, hH⟩ := Option.bind_eq_some_iff.mp hH
  have HA2 := A_.mk hb2
  have HH2 := A_.mk hH
  clear hb2 hH HH
  refine take_ (i := 0) (N := some 6) (v := ?_) (a' := ?_) (m_ 11 1) rfl rfl (by kernel_rfl) (fun _ _ _ h => h) (Or.inl ⟨by rfl, ?_⟩) hHeld ?_ ?_
  rotate_left
  ·intro w' sh
   obtain ⟨s0, s1, s2, s3⟩ := sh
   go_simp
   with_reducible rfl
  rotate_left
  ·simp only [Act.put, sI_, s0_, s1_, i64_w, i32_w]
   rfl
  refine one_ (i := 1) (N := some 7) (m_ 11 3) rfl rfl (by kernel_rfl) (by decide) (fun K hK => ?_)
  refine goes_ Tryd.func36 (by kernel_rfl) rfl #[.agg #[.int .i64 a0_0, .bool a0_1, .slice A0_2 l0_2.length c0_2]] (by rfl) rfl rfl (by (try simp only [List.map_toArray, List.map_cons, List.map_nil]); first | done | rfl) ?_
  refine (impl_isFilled.calls k a0_0 a0_1 A0_2 c0_2 l0_2 true wd (Kd.C_below HR.out X0.out.bel) HC.out HA.out).mono ?_
  rintro e w4 ⟨rfl, hb⟩
  refine ⟨_, rfl, ?_⟩
  have X4 := A_.mk (X0.out.step hb)
  refine hK.out _ _ X4.out.sa (fun hHeld4 => ?_)
  clear hK K hb hHeld X0
  refine norm_ (a' := ?_) ?_ ?_
  rotate_left
  ·show Act.put _ (some 7) _ = _
   simp only [Act.put, sI_, s0_, s1_, i64_w, i32_w]
   rfl
  refine pure_ (i := 2) (N := some 8) (v := ?_) (a' := ?_) (m_ 11 7) rfl rfl (by kernel_rfl) (fun _ _ _ h => h) (Or.inl ⟨by rfl, ?_⟩) ?_ ?_
  rotate_left
  ·intro w'
   go_simp
   with_reducible rfl
  rotate_left
  ·simp only [Act.put, sI_, s0_, s1_, i64_w, i32_w]
   rfl
  refine pure_ (i := 3) (N := some 9) (v := ?_) (a' := ?_) (m_ 11 15) rfl rfl (by kernel_rfl) (fun _ _ _ h => h) (Or.inl ⟨by rfl, ?_⟩) ?_ ?_
  rotate_left
  ·intro w'
   go_simp
   with_reducible rfl
  rotate_left
  ·simp only [Act.put, sI_, s0_, s1_, i64_w, i32_w]
   rfl
  refine take_ (i := 4) (N := some 10) (v := ?_) (a' := ?_) (m_ 11 31) rfl rfl (by kernel_rfl) (fun _ _ _ h => h) (Or.inl ⟨by rfl, ?_⟩) hHeld4 ?_ ?_
  rotate_left
  ·intro w' sh
   obtain ⟨s0, s1, s2, s3⟩ := sh
   go_simp
   with_reducible rfl
  rotate_left
  ·simp only [Act.put, sI_, s0_, s1_, i64_w, i32_w]
   rfl
  refine take_ (i := 6) (N := some 12) (v := ?_) (a' := ?_) (m_ 11 95) rfl rfl (by kernel_rfl) (fun _ _ _ h => h) (Or.inl ⟨by rfl, ?_⟩) hHeld4 ?_ ?_
  rotate_left
  ·intro w' sh
   obtain ⟨s0, s1, s2, s3⟩ := sh
   go_simp
   with_reducible rfl
  rotate_left
  ·simp only [Act.put, sI_, s0_, s1_, i64_w, i32_w]
   rfl
  refine join_ (σ := Nat) 3 (m_ 11 255) (fun g_ => [(11, .agg #[.int .i64 a0_0, .bool a0_1]), (13, .slice (some ⟨g_, 0, none⟩) 1 1)]) (fun g_ w' => Bx a0_0 a0_1 A0_2 c0_2 l0_2 a1 w ga gp gc w' ∧ (Kd.int .i64).C w' (some ⟨g_, 0, none⟩) 1 [a1]) ?_ ?_
  rotate_left
  ·intro hc
   refine two_ (i := 5) (j := 7) (Ni := some 11) (Nj := some 13) (m_ 11 127) (m_ 11 223) rfl rfl rfl rfl (by kernel_rfl) (by decide) (by decide) (fun K hK => ?_) (fun K hK => ?_)
   ·refine goes_ Tryd.func37 (by kernel_rfl) rfl #[.agg #[.int .i64 a0_0, .bool a0_1, .slice A0_2 l0_2.length c0_2]] (by rfl) rfl rfl (by (try simp only [List.map_toArray, List.map_cons, List.map_nil]); first | done | rfl) ?_
    refine (impl_Row_bench.calls a0_0 a0_1 A0_2 c0_2 l0_2 a0_0 a0_1 w4 (Kd.C_below HR.out X4.out.bel) HC.out rfl).mono ?_
    rintro e w5 ⟨rfl, hb⟩
    refine ⟨_, rfl, ?_⟩
    have X5 := A_.mk (X4.out.step hb)
    refine hK.out _ _ X5.out.sa (fun hHeld5 => ?_)
    clear hK K hb
    refine norm_ (a' := ?_) ?_ ?_
    rotate_left
    ·show Act.put _ (some 11) _ = _
     simp only [Act.put, sI_, s0_, s1_, i64_w, i32_w]
     rfl
    refine one_ (i := 7) (N := some 13) (m_ 11 255) rfl rfl (by kernel_rfl) (by decide) (fun K hK => ?_)
    refine value_ (w1 := w5.alloc (.cells #[.int .i64 a1] 3)) (v := .slice (some ⟨w5.heap.size, 0, none⟩) 1 1) (by rfl) rfl (by first | (go_simp; done) | (go_simp; rfl)) ?_
    have h_ := X5.out.alloc (.cells #[.int .i64 a1] 3)
    have hl_ := lit_one a1 w5
    obtain ⟨gl, hgl⟩ : ∃ g, g = w5.heap.size := ⟨_, rfl⟩
    rw [← hgl] at hl_ ⊢
    generalize w5.alloc (.cells #[.int .i64 a1] 3) = w6 at h_ hl_ ⊢
    have X6 := A_.mk h_
    have HL := A_.mk hl_
    clear hgl h_ hl_
    refine hK.out _ _ X6.out.sa (fun hHeld6 => ?_)
    clear hK K
    refine norm_ (a' := ?_) ?_ ?_
    rotate_left
    ·show Act.put _ (some 13) _ = _
     simp only [Act.put, sI_, s0_, s1_, i64_w, i32_w]
     rfl
    exact hc gl _ ⟨X6.out, HL.out⟩
   ·refine value_ (w1 := w4.alloc (.cells #[.int .i64 a1] 3)) (v := .slice (some ⟨w4.heap.size, 0, none⟩) 1 1) (by rfl) rfl (by first | (go_simp; done) | (go_simp; rfl)) ?_
    have h_ := X4.out.alloc (.cells #[.int .i64 a1] 3)
    have hl_ := lit_one a1 w4
    obtain ⟨gl, hgl⟩ : ∃ g, g = w4.heap.size := ⟨_, rfl⟩
    rw [← hgl] at hl_ ⊢
    generalize w4.alloc (.cells #[.int .i64 a1] 3) = w5 at h_ hl_ ⊢
    have X5 := A_.mk h_
    have HL := A_.mk hl_
    clear hgl h_ hl_
    refine hK.out _ _ X5.out.sa (fun hHeld5 => ?_)
    clear hK K
    refine norm_ (a' := ?_) ?_ ?_
    rotate_left
    ·show Act.put _ (some 13) _ = _
     simp only [Act.put, sI_, s0_, s1_, i64_w, i32_w]
     rfl
    refine one_ (i := 5) (N := some 11) (m_ 11 255) rfl rfl (by kernel_rfl) (by decide) (fun K hK => ?_)
    refine goes_ Tryd.func37 (by kernel_rfl) rfl #[.agg #[.int .i64 a0_0, .bool a0_1, .slice A0_2 l0_2.length c0_2]] (by rfl) rfl rfl (by (try simp only [List.map_toArray, List.map_cons, List.map_nil]); first | done | rfl) ?_
    refine (impl_Row_bench.calls a0_0 a0_1 A0_2 c0_2 l0_2 a0_0 a0_1 w5 (Kd.C_below HR.out X5.out.bel) HC.out rfl).mono ?_
    rintro e w6 ⟨rfl, hb⟩
    refine ⟨_, rfl, ?_⟩
    have X6 := A_.mk (X5.out.step hb)
    have HL6 := A_.mk (Kd.C_below HL.out hb)
    refine hK.out _ _ X6.out.sa (fun hHeld6 => ?_)
    clear hK K hb
    refine norm_ (a' := ?_) ?_ ?_
    rotate_left
    ·show Act.put _ (some 11) _ = _
     simp only [Act.put, sI_, s0_, s1_, i64_w, i32_w]
     rfl
    exact hc gl _ ⟨X6.out, HL6.out⟩
  intro gl w6 hF
  have X6 := A_.mk hF.1
  have HL := A_.mk hF.2
  clear hF hHeld4 X4
  refine norm_ (a' := ?_) ?_ ?_
  rotate_left
  ·simp only [putAll, Act.put, sI_, s0_, s1_]
   rfl
  cases b2 with
  | false =>
   have hH := HH2.out
   rw [if_neg (by decide)] at hH
   simp only [Option.some.injEq, Prod.mk.injEq] at hH
   obtain ⟨rfl, rfl, rfl⟩ := hH
   refine last_ (i := 8) (N := some 14) (m_ 11 511) rfl rfl (by kernel_rfl) (by decide) (fun K hK => ?_)
   refine goes_ Tryd.func47 (by kernel_rfl) rfl #[.agg #[.int .i64 a0_0, .bool a0_1], .slice (some ⟨gl, 0, none⟩) 1 1] (by rfl) rfl rfl (by (try simp only [List.map_toArray, List.map_cons, List.map_nil]); first | done | rfl) ?_
   refine (impl_bench_has.calls k a0_0 a0_1 (some ⟨gl, 0, none⟩) 1 [a1] false w6 HL.out (Nat.le_refl 1) HA2.out).mono ?_
   rintro e w7 ⟨rfl, hb⟩
   refine ⟨_, rfl, ?_⟩
   have X7 := A_.mk (X6.out.step hb)
   refine hK.out _ _ ?_
   clear hK K hb X6 HL
   refine norm_ (a' := ?_) ?_ ?_
   rotate_left
   ·show Act.put _ (some 14) _ = _
    simp only [Act.put, sI_, s0_, s1_, i64_w, i32_w]
    rfl
   refine pure_ (i := 9) (N := some 15) (v := ?_) (a' := ?_) (m_ 11 1023) rfl rfl (by kernel_rfl) (fun _ _ _ h => h) (Or.inl ⟨by rfl, ?_⟩) ?_ ?_
   rotate_left
   ·intro w'
    go_simp
    with_reducible rfl
   rotate_left
   ·simp only [Act.put, sI_, s0_, s1_, i64_w, i32_w]
    rfl
   refine pure_ (i := 10) (N := some 16) (v := ?_) (a' := ?_) (m_ 11 2047) rfl rfl (by kernel_rfl) (fun _ _ _ h => h) (Or.inl ⟨by rfl, ?_⟩) ?_ ?_
   rotate_left
   ·intro w'
    go_simp
    with_reducible rfl
   rotate_left
   ·simp only [Act.put, sI_, s0_, s1_, i64_w, i32_w]
    rfl
   refine done_ (by kernel_rfl) ?_
   have hcz0 : w7.cell? ⟨gc, 0, none⟩ = some (.int .i64 0) := (blk_cell X7.out.bc 0).trans rfl
   have hcz1 : w7.cell? ⟨gc, 1, none⟩ = some (.int .i64 0) := (blk_cell X7.out.bc 1).trans rfl
   have hfz0 := blk_frozen X7.out.bc 0
   have hfz1 := blk_frozen X7.out.bc 1
   go_wp2
   refine bodyPost_ret (results_ct rfl _ _ gc 26 #[.int .i64 (0), .int .i64 (0)] (0, 0) _ rfl (by (with_reducible repeat (first | refine blk_drewN ?_ _ | refine blk_drew ?_ | refine blk_alloc ?_ _)); refine blk_put (cs := #[.int .i64 (0), .int .i64 0]) ?_ 1 _ rfl; (with_reducible repeat (first | refine blk_drewN ?_ _ | refine blk_drew ?_ | refine blk_alloc ?_ _)); refine blk_put (cs := #[.int .i64 0, .int .i64 0]) ?_ 0 _ rfl; (with_reducible repeat (first | refine blk_drewN ?_ _ | refine blk_drew ?_ | refine blk_alloc ?_ _)); exact X7.out.bc) Tryd.underlying26 rfl (by kernel_rfl)) rfl ?_
   exact ⟨rfl, by repeat (first | (with_reducible first | exact X7.out.bel | apply below_alloc | apply pw_below_drewN | apply below_drew1 | refine below_set ?_ GC.out) | exact X7.out.bel)⟩
  | true =>
   have hH := HH2.out
   rw [if_pos rfl] at hH
   obtain ⟨T, hTT, hH⟩ := Option.bind_eq_some_iff.mp hH
   have hcond : fldB k a0_0 a0_1 13 T = true ∧ 0 ≤ a1 := by
    by_cases hc : fldB k a0_0 a0_1 13 T = true ∧ 0 ≤ a1
    ·exact hc
    ·rw [if_neg hc] at hH; simp at hH
   rw [if_pos hcond] at hH
   obtain ⟨⟨q1, q2⟩, hq, hH⟩ := Option.bind_eq_some_iff.mp hH
   simp only [Option.some.injEq, Prod.mk.injEq] at hH
   obtain ⟨rfl, rfl, rfl⟩ := hH
   have HTT := A_.mk hTT
   have HK := A_.mk ((fldB_iff _ _ _ _ _).1 hcond.1)
   have HP := A_.mk hcond.2
   have HQ := A_.mk hq
   clear hTT hcond hq HH2
   refine last_ (i := 8) (N := some 14) (m_ 11 511) rfl rfl (by kernel_rfl) (by decide) (fun K hK => ?_)
   refine goes_ Tryd.func47 (by kernel_rfl) rfl #[.agg #[.int .i64 a0_0, .bool a0_1], .slice (some ⟨gl, 0, none⟩) 1 1] (by rfl) rfl rfl (by (try simp only [List.map_toArray, List.map_cons, List.map_nil]); first | done | rfl) ?_
   refine (impl_bench_has.calls k a0_0 a0_1 (some ⟨gl, 0, none⟩) 1 [a1] true w6 HL.out (Nat.le_refl 1) HA2.out).mono ?_
   rintro e w7 ⟨rfl, hb⟩
   refine ⟨_, rfl, ?_⟩
   have X7 := A_.mk (X6.out.step hb)
   refine hK.out _ _ ?_
   clear hK K hb X6 HL
   refine norm_ (a' := ?_) ?_ ?_
   rotate_left
   ·show Act.put _ (some 14) _ = _
    simp only [Act.put, sI_, s0_, s1_, i64_w, i32_w]
    rfl
   refine pure_ (i := 9) (N := some 15) (v := ?_) (a' := ?_) (m_ 11 1023) rfl rfl (by kernel_rfl) (fun _ _ _ h => h) (Or.inl ⟨by rfl, ?_⟩) ?_ ?_
   rotate_left
   ·intro w'
    go_simp
    with_reducible rfl
   rotate_left
   ·simp only [Act.put, sI_, s0_, s1_, i64_w, i32_w]
    rfl
   refine pure_ (i := 10) (N := some 16) (v := ?_) (a' := ?_) (m_ 11 2047) rfl rfl (by kernel_rfl) (fun _ _ _ h => h) (Or.inl ⟨by rfl, ?_⟩) ?_ ?_
   rotate_left
   ·intro w'
    go_simp
    with_reducible rfl
   rotate_left
   ·simp only [Act.put, sI_, s0_, s1_, i64_w, i32_w]
    rfl
   refine done_ (by kernel_rfl) ?_
   obtain ⟨s0, s1, s2, s3⟩ := X7.out.sa
   go_wp2_with (first
    | (go_at_call 29; (with_reducible refine (ends_calls k a0_0 a0_1 A0_2 c0_2 l0_2 T _ (Kd.C_below HR.out X7.out.bel) HC.out (XTab.below HT.out X7.out.bel) HTT.out HK.out).mono ?_); rintro e w8 ⟨bE, cE, esE, rfl, hE⟩; have EN := A_.mk (hE.low X7.out.bel); have X8 := A_.mk (X7.out.step hE.bel); clear hE s0 s1 s2 s3)
    | (go_at_call 48; (with_reducible refine (mean_calls k a1 gp bE cE esE q1 q2 _ HP.out X8.out.bp EN.out.own EN.out.pos EN.out.one EN.out.key (by rw [zero_iff ((rws_ws (bitI a1) esE).symm.trans (EN.out.sum _))]; exact HQ.out)).mono ?_); rintro e w9 ⟨rfl, hb⟩; have X9 := A_.mk (X8.out.step hb); clear hb; have hcz0 : w9.cell? ⟨gc, 0, none⟩ = some (.int .i64 0) := (blk_cell X9.out.bc 0).trans rfl; have hcz1 : w9.cell? ⟨gc, 1, none⟩ = some (.int .i64 0) := (blk_cell X9.out.bc 1).trans rfl; have hfz0 := blk_frozen X9.out.bc 0; have hfz1 := blk_frozen X9.out.bc 1))
   refine bodyPost_ret (results_ct rfl _ _ gc 26 #[.int .i64 (q1), .int .i64 (q2)] (0, 0) _ rfl (by (with_reducible repeat (first | refine blk_drewN ?_ _ | refine blk_drew ?_ | refine blk_alloc ?_ _)); refine blk_put (cs := #[.int .i64 (q1), .int .i64 0]) ?_ 1 _ rfl; (with_reducible repeat (first | refine blk_drewN ?_ _ | refine blk_drew ?_ | refine blk_alloc ?_ _)); refine blk_put (cs := #[.int .i64 0, .int .i64 0]) ?_ 0 _ rfl; (with_reducible repeat (first | refine blk_drewN ?_ _ | refine blk_drew ?_ | refine blk_alloc ?_ _)); exact X9.out.bc) Tryd.underlying26 rfl (by kernel_rfl)) rfl ?_
   exact ⟨rfl, by repeat (first | (with_reducible first | exact X9.out.bel | apply below_alloc | apply pw_below_drewN | apply below_drew1 | refine below_set ?_ GC.out) | exact X9.out.bel)⟩
theorem impl_SeatChance.mono : ∀ (a0 : Int) (a1 : Bool) (a2 : List Int) (a3 : Int) (k : Nat), LeO (impl_SeatChance.f k a0 a1 a2 a3) (impl_SeatChance.f (k + 1) a0 a1 a2 a3) := by
 intro a0 a1 a2 a3 k
 unfold impl_SeatChance.f
 refine LeO.bind (impl_isFilled.mono _ _ _ _) fun b => LeO.ite (LeO.bind (impl_bench_has.mono _ _ _ _) fun b2 => LeO.ite (LeO.bind (impl_Row_taken.mono _ _ _ _) fun T => ?_) (LeO.refl _)) (LeO.refl _)
 intro r h
 by_cases hc : fldB k a0 a1 13 T = true ∧ 0 ≤ a3
 ·rw [if_pos hc] at h
  have hk := (fldB_iff _ _ _ _ _).1 hc.1
  rw [if_pos ⟨(fldB_iff _ _ _ _ _).2 (fld_mono _ _ hk).1, hc.2⟩, vE_mono hk]
  revert r
  exact LeO.bind (impl_fraction.mono _ _ _) fun _ => LeO.refl _
 ·rw [if_neg hc] at h; cases h

end Go.Proofs.YtihifglmnjocfaaDoor.PFnExactSeatChance
