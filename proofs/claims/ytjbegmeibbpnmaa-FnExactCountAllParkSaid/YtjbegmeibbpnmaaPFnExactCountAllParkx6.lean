/- Written by a program of this session (wip/xprint) out of Lean's own print of the given functions: each function as a plain Lean function, and the proof that the call answers it. -/
import Derived.Test.YtjbegmeibbpnmaaPFnExactCountAllParkx0
import Derived.Test.YtjbegmeibbpnmaaPFnExactCountAllParkx4
import Derived.Test.YtjbegmeibbpnmaaPFnExactCountAllParkx5
namespace Go.Proofs.Ytjbegmeibbpnmaa.PFnExactCountAllPark
open Go.RowKit Go.Proofs.YtjbegmeibbpnmaaW.PrintWords Go.Proofs.YtjbegmeibbpnmaaW.PrintLast Go.Proofs.YtjbegmeibbpnmaaW.PrintMore
attribute [local go_sem] max2_int min2_int max_two min_two max_three min_three max_four min_four   -- for this text's walks alone
set_option linter.unusedVariables false
set_option linter.unusedSimpArgs false

/-! ### impl_CountAllPark: function 15 -/
set_option linter.unnecessarySimpa false
open Go.Maps
/-! What a map of numbers comes to: the sum over its entries of the element times a weight of the key. -/
section
variable {H : Type}
def kx : Lit → Int
  | .int _ x => x
  | _ => 0
def vx {H : Type} : DataW H → Int
  | .lit (.int _ c) => c
  | _ => 0
def ents {H : Type} : DataW H → List (Lit × DataW H)
  | .map es => es
  | _ => []
def ws {H : Type} (g : Int → Int) : List (Lit × DataW H) → Int
  | [] => 0
  | p :: r => vx p.2 * g (kx p.1) + ws g r
/-- .. over those that are no longer to come. -/
def wl {H : Type} (g : Int → Int) (left : Lit → Bool) : List (Lit × DataW H) → Int
  | [] => 0
  | p :: r => (if left p.1 = true then 0 else vx p.2 * g (kx p.1)) + wl g left r
theorem ws_insert (g : Int → Int) (x : Lit × DataW H) : ∀ l : List (Lit × DataW H), ws g (DataW.insert x l) = vx x.2 * g (kx x.1) + ws g l
  | [] => by simp [DataW.insert, ws]
  | y :: r => by
    unfold DataW.insert
    by_cases c : x.1.before y.1 = true
    · rw [if_pos c]; rfl
    · rw [if_neg c]
      simp only [ws]
      rw [ws_insert g x r]
      omega
theorem mem_insert {x p : Lit × DataW H} : ∀ {l : List (Lit × DataW H)}, p ∈ DataW.insert x l → p = x ∨ p ∈ l
  | [], h => by simp [DataW.insert] at h; exact .inl h
  | y :: r, h => by
    unfold DataW.insert at h
    by_cases c : x.1.before y.1 = true
    · rw [if_pos c] at h
      exact List.mem_cons.1 h
    · rw [if_neg c] at h
      rcases List.mem_cons.1 h with h | h
      · exact .inr (by simp [h])
      · rcases mem_insert h with h | h
        · exact .inl h
        · exact .inr (by simp [h])
theorem filter_none {k : Lit} : ∀ {l : List (Lit × DataW H)}, (∀ p ∈ l, p.1 ≠ k) → l.filter (fun p => !p.1.sameKey k) = l
  | [], _ => rfl
  | p :: r, h => by
    have h1 : p.1.sameKey k = false := by
      cases e : p.1.sameKey k with
      | false => rfl
      | true => exact absurd (WideAt.sameKey_eq e) (h p (by simp))
    rw [List.filter_cons, if_pos (by simp [h1]), filter_none fun q hq => h q (by simp [hq])]
theorem ws_filter (g : Int → Int) {k : Lit} : ∀ {l : List (Lit × DataW H)}, l.Pairwise (fun p q => p.1 ≠ q.1) → ws g (l.filter fun p => !p.1.sameKey k) = ws g l - (match l.find? (fun p => p.1.sameKey k) with | some p => vx p.2 * g (kx p.1) | none => 0)
  | [], _ => by simp [ws]
  | p :: r, h => by
    obtain ⟨h1, h2⟩ := List.pairwise_cons.1 h
    rw [List.filter_cons, List.find?_cons]
    by_cases c : p.1.sameKey k = true
    · have e := WideAt.sameKey_eq c
      rw [if_neg (by simp [c]), filter_none fun q hq he => h1 q hq (e.trans he.symm)]
      simp only [c, ws]
      omega
    · have c' : p.1.sameKey k = false := by simpa using c
      rw [if_pos (by simp [c'])]
      simp only [c', ws]
      rw [ws_filter g h2]
      omega
theorem ws_put (g : Int → Int) {q q' : IntKind} {x c v : Int} {l : List (Lit × DataW H)} (hp : l.Pairwise (fun p q => p.1 ≠ q.1)) (hat : (DataW.map l).atKey (.int q x) (.lit (.int q' 0)) = .lit (.int q' c)) :
    ws g (ents ((DataW.map l).put (.int q x) (.lit (.int q' (c + v))))) = ws g l + v * g x := by
  simp only [DataW.put, ents, ws_insert, ws_filter g hp]
  simp only [DataW.atKey] at hat
  cases e : l.find? (fun p => p.1.sameKey (.int q x)) with
  | none =>
    rw [e] at hat
    simp only [DataW.lit.injEq, Lit.int.injEq, true_and] at hat
    subst hat
    simp [vx, kx]
    omega
  | some p =>
    rw [e] at hat
    have hk := WideAt.sameKey_eq (by simpa using List.find?_some e)
    simp only at hat
    simp only [vx, kx, hat, hk, Int.add_mul]
    omega
theorem mem_put {k : Lit} {d : DataW H} {l : List (Lit × DataW H)} {p : Lit × DataW H} (h : p ∈ ents ((DataW.map l).put k d)) : p = (k, d) ∨ p ∈ l := by
  simp only [DataW.put, ents] at h
  rcases mem_insert h with h | h
  · exact .inl h
  · exact .inr (List.mem_filter.1 h).1
theorem at_mem {q : IntKind} {k : Lit} {c : Int} {l : List (Lit × DataW H)} (hat : ∀ zd, (DataW.map l).atKey k zd = .lit (.int q c)) : (k, .lit (.int q c)) ∈ l := by
  have h := hat .nil
  simp only [DataW.atKey] at h
  cases e : l.find? (fun p => p.1.sameKey k) with
  | none => rw [e] at h; cases h
  | some p =>
    rw [e] at h
    have hk := WideAt.sameKey_eq (by simpa using List.find?_some e)
    have hm := List.mem_of_find?_eq_some e
    simp only at h
    rw [← hk, ← h]
    exact hm
theorem wl_same (g : Int → Int) (left : Lit → Bool) {k : Lit} : ∀ {l : List (Lit × DataW H)}, (∀ p ∈ l, p.1 ≠ k) → wl g (fun z => left z && !z.sameKey k) l = wl g left l
  | [], _ => rfl
  | p :: r, h => by
    have h1 : p.1.sameKey k = false := by
      cases e : p.1.sameKey k with
      | false => rfl
      | true => exact absurd (WideAt.sameKey_eq e) (h p (by simp))
    simp only [wl, h1, Bool.not_false, Bool.and_true]
    rw [wl_same g left fun q hq => h q (by simp [hq])]
theorem wl_step (g : Int → Int) (left : Lit → Bool) {q : IntKind} {k : Lit} {c : Int} (hk : WideAt.IsKeyLit k) (hl : left k = true) : ∀ {l : List (Lit × DataW H)}, l.Pairwise (fun p q => p.1 ≠ q.1) → (k, .lit (.int q c)) ∈ l → wl g (fun z => left z && !z.sameKey k) l = wl g left l + c * g (kx k)
  | [], _, h => by simp at h
  | p :: r, hp, h => by
    obtain ⟨h1, h2⟩ := List.pairwise_cons.1 hp
    rcases List.mem_cons.1 h with e | h
    · subst e
      simp only [wl]
      rw [wl_same g left fun q hq => fun he => h1 q hq he.symm]
      simp [hl, WideAt.sameKey_self hk, vx]
      omega
    · have hne : p.1 ≠ k := h1 _ h
      have h3 : p.1.sameKey k = false := by
        cases e : p.1.sameKey k with
        | false => rfl
        | true => exact absurd (WideAt.sameKey_eq e) hne
      simp only [wl, h3, Bool.not_false, Bool.and_true]
      rw [wl_step g left hk hl h2 h]
      omega
theorem wl_start (g : Int → Int) (l0 : List (Lit × DataW H)) : ∀ l : List (Lit × DataW H), (∀ p ∈ l, p ∈ l0 ∧ WideAt.IsKeyLit p.1) → wl g (Maps.has (.map l0)) l = 0
  | [], _ => rfl
  | p :: r, h => by
    have hp := h p (by simp)
    have h1 : Maps.has (.map l0) p.1 = true := List.any_eq_true.2 ⟨p, hp.1, WideAt.sameKey_self hp.2⟩
    simp only [wl]
    rw [if_pos h1, wl_start g l0 r fun q hq => h q (by simp [hq])]
    rfl
theorem wl_end (g : Int → Int) {left : Lit → Bool} (h : ∀ k, left k = false) : ∀ l : List (Lit × DataW H), wl g left l = ws g l
  | [] => rfl
  | p :: r => by
    simp only [wl, ws, h]
    rw [wl_end g h r]
    simp
theorem wl_le (g : Int → Int) {left : Lit → Bool} : ∀ l : List (Lit × DataW H), (∀ p ∈ l, 0 ≤ vx p.2 * g (kx p.1)) → 0 ≤ wl g left l ∧ wl g left l ≤ ws g l
  | [], _ => by simp [wl, ws]
  | p :: r, h => by
    have h1 := h p (by simp)
    have h2 := wl_le g (left := left) r fun q hq => h q (by simp [hq])
    simp only [wl, ws]
    by_cases c : left p.1 = true
    · rw [if_pos c]; omega
    · rw [if_neg c]; omega
end
def seatSum (f : Int → Option Int) : Nat → Int → Option Int
  | 0, _ => some 0
  | d + 1, s => (f s).bind fun x => (seatSum f d (s + 1)).bind fun y => some (x + y)
def seatF (k : Nat) (n : Int) (ring : Bool) (G : Int → Option Int) (T s : Int) : Option Int := (impl_bench_park.f k n ring T s 0).bind fun p => if p ≥ 0 then (if 0 ≤ Go.bits .or .u32 T (shl .u32 1 p) ∧ Go.bits .or .u32 T (shl .u32 1 p) < 4294967296 then G (Go.bits .or .u32 T (shl .u32 1 p)) else none) else some 0
/-- In how many ways m more cars park, if some seats are taken. -/
def parkA (k : Nat) (n : Int) (ring : Bool) : Nat → Int → Option Int
  | 0, _ => some 1
  | m + 1, T => seatSum (seatF k n ring (parkA k n ring m) T) n.toNat 0
theorem law48 : Keyed Try.prog 48 := int_keyed Try.underlying48
theorem zero3 (w : World) : (zeroValue 3).run Try.prog w = .ok (.int .i64 0) w := by kernel_rfl
theorem wf32 {x : Int} (h0 : 0 ≤ x) (h1 : x < 4294967296) : (Lit.int .u32 x).wf = true := by
  simp [Lit.wf, IntKind.min, IntKind.max, IntKind.signed, IntKind.bits]; omega
theorem wf64 {x : Int} (h0 : 0 ≤ x) (h1 : x < 9223372036854775808) : (Lit.int .i64 x).wf = true := by
  simp [Lit.wf, IntKind.min, IntKind.max, IntKind.signed, IntKind.bits]; omega
theorem wpList_insert_own {H : Type} {P : Program} (w : World) {ops : Array Oper} {rest : List Oper} {o : Oper} {a : Act} {Q : Exit → Act → World → Prop}
    (hg : o.guard = none) (m x v : Operand) (t : TypeId) (hop : o.op = Op.insert t m x v)
    (k e : TypeId) (K : Keyed P k) (ht : P.underlying t = some (.map k e)) (R : Value → Option (DataW H × List MemPlace)) (b n : Nat) (D : DataW H)
    (hm : a.eval m = .map (some b)) (hown : w.ownsMap P k R b n D) (hn : n < maxLen) (key val : Value) (kl : Lit) (hx : a.eval x = key) (hv : a.eval v = val) (hkey : keyOf P k key = some kl)
    (d : DataW H) (ps : List MemPlace) (hval : R val = some (d, ps))
    (hK : ∀ w', w'.ownsMap P k R b (n + 1) (D.put kl d) → w.grownBy w' (some b) → wpList P ops Q rest (a.put o.dst undef) w') :
    wpList P ops Q (o :: rest) a w := by
  refine wpList_plain hg fun K' hK' => ?_
  obtain ⟨w', hrun, r1, r2⟩ := hown.update K ht hn hkey hval
  unfold Oper.wp
  simp [execOp, hop, hm, hx, hv, hrun, Result.andThen]
  exact hK' _ _ (hK w' r1 r2)
/-- What a map of ways holds, and what it comes to. -/
structure Ways (k : Nat) (n : Int) (ring : Bool) (rest : Nat) (es : List (Lit × DataW Unit)) : Prop where
  ok : ∀ p ∈ es, (∃ a, parkA k n ring rest (kx p.1) = some a) ∧ 0 ≤ vx p.2
def gA (k : Nat) (n : Int) (ring : Bool) (rest : Nat) (T : Int) : Int := (parkA k n ring rest T).getD 0
theorem grown_of_below {w w' : World} (hb : Below w.heap.size w w') : w.grownBy w' none := ⟨hb.os, hb.tape, hb.output, hb.size, fun k hk _ => hb.block k hk⟩
/-- The map of ways ahead of a round. -/
structure Nw (k : Nat) (n : Int) (ring : Bool) (w wr : World) (B cap rest i : Nat) (tot : Int) (es : List (Lit × DataW Unit)) : Prop where
  own : wr.ownsMap Try.prog 48 (plainElem Try.prog 3) B cap (.map es)
  lo : w.heap.size ≤ B
  cap : cap ≤ 12 ^ i
  ok : ∀ p ∈ es, (∃ a, parkA k n ring rest (kx p.1) = some a) ∧ 0 ≤ vx p.2
  sum : ws (gA k n ring rest) es = tot
  one : ws (fun _ => 1) es ≤ ((12 ^ i : Nat) : Int)
/-- The next map of ways under way: what is done of the one before comes to S (weighed) and to N (counted). -/
structure Nx (k : Nat) (n : Int) (ring : Bool) (w wr : World) (B cap rest : Nat) (S N : Int) (es : List (Lit × DataW Unit)) : Prop where
  own : wr.ownsMap Try.prog 48 (plainElem Try.prog 3) B cap (.map es)
  ok : ∀ p ∈ es, (∃ a, parkA k n ring rest (kx p.1) = some a) ∧ 0 ≤ vx p.2
  sum : ws (gA k n ring rest) es = S
  one : ws (fun _ => 1) es ≤ N
theorem Nx.kept {k : Nat} {n : Int} {ring : Bool} {w wr w' : World} {B cap rest : Nat} {S N : Int} {es : List (Lit × DataW Unit)} {row : Option Nat} (h : Nx k n ring w wr B cap rest S N es) (hg : wr.grownBy w' row) (hb : some B ≠ row) : Nx k n ring w w' B cap rest S N es :=
  ⟨h.own.kept hg hb, h.ok, h.sum, h.one⟩
theorem Nx.to {k : Nat} {n : Int} {ring : Bool} {w wr : World} {B cap rest : Nat} {S N S' N' : Int} {es : List (Lit × DataW Unit)} (h : Nx k n ring w wr B cap rest S N es) (hs : S = S') (hn : N ≤ N') : Nx k n ring w wr B cap rest S' N' es :=
  ⟨h.own, h.ok, h.sum.trans hs, Int.le_trans h.one hn⟩
theorem at_le {q q' : IntKind} {x c : Int} : ∀ {l : List (Lit × DataW Unit)}, (∀ p ∈ l, 0 ≤ vx p.2) → (DataW.map l).atKey (.int q x) (.lit (.int q' 0)) = .lit (.int q' c) → 0 ≤ c ∧ c ≤ ws (fun _ => 1) l
  | [], _, h => by
    simp [DataW.atKey] at h
    subst h
    simp [ws]
  | p :: r, hp, h => by
    have h0 := hp p (by simp)
    have hr : 0 ≤ ws (fun _ => 1) r := by
      have : ∀ l : List (Lit × DataW Unit), (∀ p ∈ l, 0 ≤ vx p.2) → 0 ≤ ws (fun _ => 1) l := by
        intro l
        induction l with
        | nil => intro _; simp [ws]
        | cons y t ih => intro hh; have := ih fun q hq => hh q (by simp [hq]); have := hh y (by simp); simp only [ws]; omega
      exact this r fun q hq => hp q (by simp [hq])
    simp only [DataW.atKey, List.find?_cons] at h
    simp only [ws]
    cases e : p.1.sameKey (.int q x) with
    | true =>
      rw [e] at h
      simp only at h
      rw [h] at h0 ⊢
      simp only [vx] at h0 ⊢
      omega
    | false =>
      rw [e] at h
      have := at_le (l := r) (fun q hq => hp q (by simp [hq])) h
      omega
theorem pow12 {i : Nat} (h : i ≤ 11) : ((12 ^ i : Nat) : Int) ≤ 743008370688 := by
  have : 12 ^ i ≤ 12 ^ 11 := Nat.pow_le_pow_right (by omega) h
  have e : 12 ^ 11 = 743008370688 := by decide
  omega
set_option maxHeartbeats 8000000 in
set_option maxRecDepth 100000 in
theorem cap_yes (k : Nat) (n : Int) (ring : Bool) (A : Option Addr) (c : Nat) (l : List Int) (m : Int) (T tot : Int) (w : World) (hr : Kd.C (Kd.int .i64) w A l.length l) (hc : l.length ≤ c) (h1 : impl_IsRow.f k n ring l = some true) (h2 : n ≤ 12) (h2' : 0 ≤ n) (h3 : impl_within.f m 0 12 = some true) (h3' : 0 ≤ m) (h3'' : m ≤ 12) (hT : impl_Row_taken.f k n ring l = some T) (hT' : 0 ≤ T ∧ T < 4294967296) (hA : parkA k n ring m.toNat T = some tot) :
    Calls Try.prog 15 #[.agg #[.int .i64 n, .bool ring, .slice A l.length c], .int .i64 m] w fun e w' => e = .returned (.tuple #[.int .i64 tot, .bool true]) ∧ Below w.heap.size w w' := by
  obtain ⟨N, rfl⟩ : ∃ N : Nat, n = N := ⟨n.toNat, by omega⟩
  obtain ⟨M, rfl⟩ : ∃ M : Nat, m = M := ⟨m.toNat, by omega⟩
  rw [Int.toNat_natCast] at hA
  have hmm := @run_makeMap Try.prog
  have hu29 := Try.underlying29
  have HR := Aside0.mk hr
  have HC := Aside0.mk hc
  have H1 := Aside0.mk h1
  have H2 := Aside0.mk h2
  have H2' := Aside0.mk h2'
  have H3 := Aside0.mk h3
  have H3' := Aside0.mk h3'
  have H3'' := Aside0.mk h3''
  have HT := Aside0.mk hT
  have HT' := Aside0.mk hT'
  have HA := Aside0.mk hA
  have HB := Aside0.mk (Below.refl w.heap.size w)
  have c12 : decide ((N : Int) > 12) = false := decide_eq_false (by omega)
  clear hr hc h1 h2 h2' h3 h3' h3'' hT hT' hA
  go_enter Try.func15, Try.ntmps15
  go_upto_region 1 with (first | ((with_reducible refine gate_dst (N := 2) rfl ?_); refine box_event ?hg (N := 2) ?hd (cs := #[.int .i64 (N : Int), .bool ring, .slice A l.length c]) (t := 29) ?hr ?_; (case hd => rfl); (case hg => rfl); (case hr => first | (go_simp; done) | (go_simp; rfl)); intro gb hg w1 hbox hb; have BK := Aside0.mk hbox; have HB1 := Aside0.mk (below_step HB.out hb); have G1 := Aside0.mk ((by rw [hg]; exact below_size HB.out : w.heap.size ≤ gb)); have R1 := Aside0.mk (Kd.C_below HR.out HB1.out); clear hg hbox hb))
  have s0 : w1.cell? ⟨gb, 0, none⟩ = some (.int .i64 (N : Int)) := (blk_cell BK.out 0).trans rfl
  have s1 : w1.cell? ⟨gb, 1, none⟩ = some (.bool ring) := (blk_cell BK.out 1).trans rfl
  have s2 : w1.cell? ⟨gb, 2, none⟩ = some (.slice A l.length c) := (blk_cell BK.out 2).trans rfl
  go_upto_region 3 with (first
    | (go_at_call 34; (with_reducible refine (impl_IsRow.calls k (N : Int) ring A c l true _ R1.out HC.out H1.out).mono ?_); rintro e w2 ⟨rfl, hb2⟩; have BK2 := Aside0.mk (blk_below (o := .cells #[.int .i64 (N : Int), .bool ring, .slice A l.length c] 29 (0, 0)) BK.out hb2); have HB2 := Aside0.mk (below_step HB1.out hb2); have R2 := Aside0.mk (Kd.C_below R1.out hb2); clear s0 s1 s2 hb2; have s0 : w2.cell? ⟨gb, 0, none⟩ = some (.int .i64 (N : Int)) := (blk_cell BK2.out 0).trans rfl)
    | (go_at_call 35; (with_reducible refine (impl_within.calls (M : Int) 0 12 true _ H3.out).mono ?_); rintro e w3 ⟨rfl, hd3⟩; have BK3 := Aside0.mk (blk_below (o := .cells #[.int .i64 (N : Int), .bool ring, .slice A l.length c] 29 (0, 0)) BK2.out hd3.below); have HB3 := Aside0.mk (below_step HB2.out hd3.below); have R3 := Aside0.mk (Kd.C_below R2.out hd3.below); clear s0 hd3))
  have s0 : (w3.alloc (.map #[] 0)).cell? ⟨gb, 0, none⟩ = some (.int .i64 (N : Int)) := (blk_cell (blk_alloc BK3.out _) 0).trans rfl
  have s1 : (w3.alloc (.map #[] 0)).cell? ⟨gb, 1, none⟩ = some (.bool ring) := (blk_cell (blk_alloc BK3.out _) 1).trans rfl
  have s2 : (w3.alloc (.map #[] 0)).cell? ⟨gb, 2, none⟩ = some (.slice A l.length c) := (blk_cell (blk_alloc BK3.out _) 2).trans rfl
  have M0 := Aside0.mk (show (w3.alloc (.map #[] 0)).ownsMap Try.prog 48 (plainElem (H := Unit) Try.prog 3) w3.heap.size 0 (.map []) from World.ownsMap_made _ _ _ _)
  have BA := Aside0.mk (below_alloc HB3.out (.map #[] 0))
  go_upto_region 4 with (first
    | (go_at_call 24; (with_reducible refine (impl_Row_taken.calls k (N : Int) ring A c l T _ (Kd.C_alloc R3.out _) HC.out HT.out).mono ?_); rintro e w4 ⟨rfl, hb4⟩; have BK4 := Aside0.mk (blk_below (o := .cells #[.int .i64 (N : Int), .bool ring, .slice A l.length c] 29 (0, 0)) (blk_alloc BK3.out _) hb4); have HB4 := Aside0.mk (below_step BA.out hb4); have M4 := Aside0.mk (M0.out.kept (grown_of_below hb4) (by simp)); clear s0 s1 s2 hb4)
    | (refine wpList_insert_own _ rfl _ _ _ 58 rfl 48 3 law48 Try.underlying58 _ w3.heap.size _ _ rfl M4.out (by decide) _ _ _ rfl rfl (keyOf_int_mk Try.underlying48 (wf32 HT'.out.1 HT'.out.2)) _ [] (plainElem_int Try.underlying3 (wf64 (by omega) (by omega))) ?_; intro w5 hm5 hg5; have M5 := Aside0.mk hm5; have HB5 := Aside0.mk (HB4.out.grown hg5 (below_size HB4.out) (fun j hj => by cases hj; exact below_size HB3.out)); have BK5 := Aside0.mk ((hg5.block _ (blk_lt BK4.out) (fun e => by have := blk_lt BK3.out; injection e with e; omega)).trans BK4.out); clear hm5 hg5))
  have hM12 := Aside0.mk (show M ≤ 12 by have := H3''.out; omega)
  have N5 : Aside0 (Nw k (N : Int) ring w w5 w3.heap.size 1 M 0 tot [(.int .u32 T, .lit (.int .i64 1))]) := ⟨⟨M5.out, below_size HB3.out, by simp, fun p hp => by
    rw [List.mem_singleton] at hp
    subst hp
    exact ⟨⟨tot, HA.out⟩, by simp [vx]⟩, by simp [ws, vx, kx, gA, HA.out], by simp [ws, vx]⟩⟩
  clear M5 M4 M0 BK BK2 BK3 BK4 HB1 HB2 HB3 HB4 BA R1 R2 R3
  go_wp2
  go_loopg [6, 33] (M + 1) (fun kq v6 v33 w' => ∃ (i B cap : Nat) (es : List (Lit × DataW Unit)), v6 = .map (some B) ∧ v33 = .int .i64 (i : Int) ∧ Aside0 (i + kq = M + 1) ∧ Aside0 (i ≤ M) ∧ Aside0 (Nw k (N : Int) ring w w' B cap (M - i) i tot es) ∧ Aside0 (w'.heap[gb]? = some (.cells #[.int .i64 (N : Int), .bool ring, .slice A l.length c] 29 (0, 0))) ∧ Aside0 (Below w.heap.size w w'))
  case atStart => exact ⟨0, w3.heap.size, 1, _, rfl, rfl, ⟨by omega⟩, ⟨by omega⟩, N5, BK5, HB5⟩
  case round =>
    clear N5 BK5 HB5
    obtain ⟨i, B, cap, es, rfl, rfl, hik, hiM, HN, BK, HBo⟩ := hrel
    rename World => wo
    obtain ⟨ko, hko⟩ : ∃ ko, ko = gk := ⟨_, rfl⟩
    subst hko
    have GBL := Aside0.mk (blk_lt BK.out)
    by_cases hlt : i < M
    · have c5 : decide (i < M) = true := decide_eq_true hlt
      have Hlt := Aside0.mk hlt
      clear hlt
      have NX0 := Aside0.mk (show (wo.alloc (.map #[] 0)).ownsMap Try.prog 48 (plainElem (H := Unit) Try.prog 3) wo.heap.size 0 (.map []) from World.ownsMap_made _ _ _ _)
      have NW0 := Aside0.mk (HN.out.own.alloc (.map #[] 0))
      have BK0 := Aside0.mk (blk_alloc BK.out (.map #[] 0))
      have HB0 := Aside0.mk (below_alloc HBo.out (.map #[] 0))
      have e1 : (wo.alloc (.map #[] 0)).heap.size = wo.heap.size + 1 := by simp
      go_wp2_with (first
        | (at_range; refine wpList_range_own _ rfl _ 58 rfl 48 3 law48 Try.underlying58 _ B cap _ rfl NW0.out ?_; intro w6 hrg6 hg6 hs6)
        | go_in)
      go_frame
      rw [e1] at hrg6 hs6 ⊢
      have hent := HN.out.own.entries law48
      have hpw : es.Pairwise (fun p q => p.1 ≠ q.1) := by obtain ⟨es', e, h, _⟩ := hent; cases e; exact h
      have hkl : ∀ p ∈ es, WideAt.IsKeyLit p.1 := by obtain ⟨es', e, _, h⟩ := hent; cases e; exact h
      have hszc := HN.out.own.size_le
      have HPW := Aside0.mk hpw
      have HKL := Aside0.mk hkl
      have HSZ := Aside0.mk hszc
      have hlo := HN.out.lo
      have hBlt := HN.out.own.lt
      have HLO := Aside0.mk hlo
      have HBL := Aside0.mk hBlt
      have hwr := Aside0.mk (below_size HBo.out)
      have RG6 := Aside0.mk hrg6
      have X6 : Aside0 (Nx k (N : Int) ring w w6 wo.heap.size (12 * (Maps.size (.map es) - Maps.size (.map es))) (M - (i + 1)) (wl (gA k (N : Int) ring (M - i)) (Maps.has (.map es)) es) (12 * wl (fun _ => 1) (Maps.has (.map es)) es) []) := ⟨⟨(NX0.out.kept hg6 (by simp)).mono (Nat.zero_le _), by simp, by rw [wl_start _ es es fun p hp => ⟨hp, hkl p hp⟩]; rfl, by rw [wl_start _ es es fun p hp => ⟨hp, hkl p hp⟩]; simp [ws]⟩⟩
      have BK6 := Aside0.mk ((hg6.block _ (blk_lt BK0.out) (by simp)).trans BK0.out)
      have HB6 := Aside0.mk (HB0.out.grown hg6 (below_size HB0.out) (fun j hj => by cases hj))
      have hs6' : wo.heap.size + 1 < w6.heap.size := by omega
      have HS6 := Aside0.mk hs6'
      clear hent hpw hkl hszc hlo hBlt hrg6 hs6 hg6 NX0 NW0 BK0 HB0 hs6' e1
      go_loopg [8] (Maps.size (.map es)) (fun kq v8 w' => ∃ (left : Lit → Bool) (esn : List (Lit × DataW Unit)), Aside0 (w'.ranges Try.prog 48 (plainElem Try.prog 3) B (wo.heap.size + 1) cap (.map es) left kq) ∧ Aside0 (kq ≤ Maps.size (.map es)) ∧ Aside0 (Nx k (N : Int) ring w w' wo.heap.size (12 * (Maps.size (.map es) - kq)) (M - (i + 1)) (wl (gA k (N : Int) ring (M - i)) left es) (12 * wl (fun _ => 1) left es) esn) ∧ Aside0 (w'.heap[gb]? = some (.cells #[.int .i64 (N : Int), .bool ring, .slice A l.length c] 29 (0, 0))) ∧ Aside0 (Below w.heap.size w w') ∧ Aside0 (wo.heap.size + 1 < w'.heap.size))
      case atStart => exact ⟨_, [], RG6, ⟨Nat.le_refl _⟩, X6, BK6, HB6, HS6⟩
      case round =>
        clear RG6 X6 BK6 HB6 HS6
        obtain ⟨left, esn, RG, HKQ, HX, BKq, HBq, HSq⟩ := hrel
        go_wp2_with (first
          | (at_next; refine wpList_next_ranges_ii _ rfl _ rfl 48 3 .u32 .i64 law48 Try.underlying48 Try.underlying3 B (wo.heap.size + 1) cap _ _ _ rfl RG.out ?_ ?_)
          | go_in)
        · intro hc0 hl0
          have HC0 := Aside0.mk hc0
          have HL0 := Aside0.mk hl0
          have hwi : IntKind.i64.wrap ((i : Int) + 1) = ((i + 1 : Nat) : Int) := by rw [IntKind.wrap_i64]; have := Hlt.out; have := hM12.out; omega
          clear hc0 hl0
          go_wp2
          have hik_ := hik.out
          have hlt_ := Hlt.out
          go_roundg (ko - 1)
          case measure => omega
          case rel => exact ⟨i + 1, wo.heap.size, 12 * (Maps.size (.map es) - gk), esn, rfl, rfl, ⟨by omega⟩, ⟨by omega⟩, ⟨⟨HX.out.own, below_size HBo.out, by have := HSZ.out; have := HN.out.cap; rw [Nat.pow_succ]; omega, HX.out.ok, HX.out.sum.trans ((wl_end _ HL0.out es).trans HN.out.sum), by have h1 := HX.out.one; rw [wl_end _ HL0.out es] at h1; have h2 := HN.out.one; rw [Nat.pow_succ]; omega⟩⟩, BKq, HBq⟩
        · intro x cx w7 cnt7 hwx hwc hlx hat hrg7 hlt7 hg7 hs7 hen
          have HWX := Aside0.mk hwx
          have HWC := Aside0.mk hwc
          have HLX := Aside0.mk hlx
          have HAT := Aside0.mk (at_mem hat)
          have RG7 := Aside0.mk hrg7
          have HLT7 := Aside0.mk hlt7
          have X7 := Aside0.mk (HX.out.kept hg7 (by simp))
          have BK7 := Aside0.mk ((hg7.block _ (blk_lt BKq.out) (fun e => by have := Option.some.inj e; have := GBL.out; omega)).trans BKq.out)
          have HB7 := Aside0.mk (HBq.out.grown hg7 (below_size HBq.out) (fun j hj => by cases hj; have := hwr.out; omega))
          have HS7 := Aside0.mk (show wo.heap.size + 1 < w7.heap.size by rw [hs7]; exact HSq.out)
          have s0 : w7.cell? ⟨gb, 0, none⟩ = some (.int .i64 (N : Int)) := (blk_cell BK7.out 0).trans rfl
          clear hwx hwc hlx hat hrg7 hlt7 hg7 hs7
          obtain ⟨ki, hki⟩ : ∃ ki, ki = gk := ⟨_, rfl⟩
          subst hki
          obtain ⟨⟨a, ha⟩, hcx⟩ := HN.out.ok _ HAT.out
          have hMi : M - i = (M - (i + 1)) + 1 := by have := Hlt.out; omega
          have hga : gA k (N : Int) ring (M - i) x = a := by unfold gA; rw [show kx (.int .u32 x) = x from rfl] at ha; rw [ha]; rfl
          have HGA := Aside0.mk hga
          have HSS : Aside0 (seatSum (seatF k (N : Int) ring (parkA k (N : Int) ring (M - (i + 1))) x) N 0 = some a) := ⟨by
            rw [hMi] at ha
            simpa only [parkA, kx, Int.toNat_natCast] using ha⟩
          obtain ⟨F, hF⟩ : ∃ F : Int → Option Int, F = seatF k (N : Int) ring (parkA k (N : Int) ring (M - (i + 1))) x := ⟨_, rfl⟩
          have HF := Aside0.mk hF
          rw [← hF] at HSS
          have HCX := Aside0.mk (show 0 ≤ cx from hcx)
          have HST := Aside0.mk (fun g => wl_step g left (q := .i64) (c := cx) (k := .int .u32 x) trivial HLX.out HPW.out HAT.out)
          have X8 : Aside0 (Nx k (N : Int) ring w w7 wo.heap.size (12 * (Maps.size (.map es) - ki) + 0) (M - (i + 1)) (wl (gA k (N : Int) ring (M - i)) left es + cx * a - cx * a) (12 * wl (fun _ => 1) left es + cx * ((0 : Nat) : Int)) esn) := ⟨X7.out.to (by omega) (by simp)⟩
          clear ha hcx hMi hga hF X7 HX BKq HBq HSq RG
          go_wp2
          go_loopg [45] (N + 1) (fun kq v45 w' => ∃ (s : Nat) (y : Int) (es2 : List (Lit × DataW Unit)), v45 = .int .i64 (s : Int) ∧ Aside0 (s + kq = N + 1) ∧ Aside0 (s ≤ N) ∧ Aside0 (seatSum F (N - s) (s : Int) = some y) ∧ Aside0 (Nx k (N : Int) ring w w' wo.heap.size (12 * (Maps.size (.map es) - ki) + s) (M - (i + 1)) (wl (gA k (N : Int) ring (M - i)) left es + cx * a - cx * y) (12 * wl (fun _ => 1) left es + cx * (s : Int)) es2) ∧ Aside0 (w'.ranges Try.prog 48 (plainElem (H := Unit) Try.prog 3) B (wo.heap.size + 1) cap (.map es) (fun z => left z && !z.sameKey (.int .u32 x)) cnt7) ∧ Aside0 (w'.heap[gb]? = some (.cells #[.int .i64 (N : Int), .bool ring, .slice A l.length c] 29 (0, 0))) ∧ Aside0 (Below w.heap.size w w') ∧ Aside0 (wo.heap.size + 1 < w'.heap.size))
          case atStart => exact ⟨0, a, esn, rfl, ⟨by omega⟩, ⟨by omega⟩, HSS, X8, RG7, BK7, HB7, HS7⟩
          case round =>
            clear X8 RG7 BK7 HB7 HS7 HSS s0
            obtain ⟨s, y, es2, rfl, hsk, hsN, HY, HX2, RG2, BK2, HB2, HS2⟩ := hrel
            obtain ⟨kj, hkj⟩ : ∃ kj, kj = gk := ⟨_, rfl⟩
            subst hkj
            by_cases hls : s < N
            · have c5 : decide (s < N) = true := decide_eq_true hls
              have Hls := Aside0.mk hls
              clear hls
              have hNs : N - s = (N - (s + 1)) + 1 := by have := Hls.out; omega
              have hY := HY.out
              rw [hNs] at hY
              simp only [seatSum] at hY
              obtain ⟨x1, hx1, hY⟩ := Option.bind_eq_some_iff.mp hY
              obtain ⟨y1, hy1, hY⟩ := Option.bind_eq_some_iff.mp hY
              obtain rfl := Option.some.inj hY
              rw [HF.out] at hx1
              unfold seatF at hx1
              obtain ⟨p, hp, hx1⟩ := Option.bind_eq_some_iff.mp hx1
              have HP := Aside0.mk hp
              have HY1 := Aside0.mk hy1
              have s0 : wr.cell? ⟨gb, 0, none⟩ = some (.int .i64 (N : Int)) := (blk_cell BK2.out 0).trans rfl
              have s1 : wr.cell? ⟨gb, 1, none⟩ = some (.bool ring) := (blk_cell BK2.out 1).trans rfl
              have s2 : wr.cell? ⟨gb, 2, none⟩ = some (.slice A l.length c) := (blk_cell BK2.out 2).trans rfl
              have hws : IntKind.i64.wrap ((s : Int) + 1) = ((s + 1 : Nat) : Int) := by rw [IntKind.wrap_i64]; have := Hls.out; have := H2.out; omega
              clear hp hy1 HY hNs hY
              by_cases hp0 : p ≥ 0
              · rw [if_pos hp0] at hx1
                by_cases hb : 0 ≤ Go.bits .or .u32 x (shl .u32 1 p) ∧ Go.bits .or .u32 x (shl .u32 1 p) < 4294967296
                · rw [if_pos hb] at hx1
                  obtain ⟨q, hq⟩ : ∃ q, shl .u32 1 p = q := ⟨_, rfl⟩
                  rw [hq] at hb hx1
                  have hq_ : (IntKind.u32.wrap (1 * 2 ^ min p.toNat 32)) = q := hq
                  have hqu : (IntKind.u32.wrap (2 ^ min p.toNat 32)) = q := by have h_ := hq_; rw [Int.one_mul] at h_; exact h_
                  have hqm : (2 ^ min p.toNat 32 % 4294967296 : Int) = q := by rw [← hqu, IntKind.wrap_u32]
                  have c6 : decide (p ≥ 0) = true := decide_eq_true hp0
                  have c7 : decide (0 ≤ p) = true := decide_eq_true hp0
                  have c8 : (0 ≤ p) = True := eq_true hp0
                  have HQ := Aside0.mk hb
                  have HX1 := Aside0.mk hx1
                  clear hp0 hb hx1 hq hq_
                  go_wp2_with (first
                    | (go_at_call 21; (with_reducible refine (impl_Row_bench.calls (N : Int) ring A c l (N : Int) ring _ (Kd.C_below HR.out HB2.out) HC.out rfl).mono ?_); rintro e w8 ⟨rfl, hb8⟩; have X3 := Aside0.mk (HX2.out.kept (grown_of_below hb8) (by simp)); have RG3 := Aside0.mk (RG2.out.kept (grown_of_below hb8) (by simp) (by simp)); have BK3 := Aside0.mk (blk_below (o := .cells #[.int .i64 (N : Int), .bool ring, .slice A l.length c] 29 (0, 0)) BK2.out hb8); have HB3 := Aside0.mk (below_step HB2.out hb8); have HS3 := Aside0.mk (Nat.lt_of_lt_of_le HS2.out hb8.size); clear hb8 s0 s1 s2)
                    | (go_at_call 36; (with_reducible refine (impl_bench_park.calls k (N : Int) ring x (s : Int) 0 p _ HP.out).mono ?_); rintro e w9 ⟨rfl, hb9⟩; have X4 := Aside0.mk (X3.out.kept (grown_of_below hb9) (by simp)); have RG4 := Aside0.mk (RG3.out.kept (grown_of_below hb9) (by simp) (by simp)); have BK4 := Aside0.mk (blk_below (o := .cells #[.int .i64 (N : Int), .bool ring, .slice A l.length c] 29 (0, 0)) BK3.out hb9); have HB4 := Aside0.mk (below_step HB3.out hb9); have HS4 := Aside0.mk (Nat.lt_of_lt_of_le HS3.out hb9.size); clear hb9)
                    | (at_lookup; refine wpList_lookup_own_int _ rfl _ _ 58 rfl 48 3 .i64 law48 Try.underlying58 Try.underlying3 (zero3 _) wo.heap.size _ _ rfl X4.out.own _ _ rfl (keyOf_int_mk Try.underlying48 (wf32 HQ.out.1 HQ.out.2)) ?_; intro c0 hat0 hwc0; have HAT0 := Aside0.mk hat0; have hc0 := at_le (fun p hp => (X4.out.ok p hp).2) hat0; have hone := X4.out.one; have h4 := HCX.out; have hle := (wl_le (fun _ => 1) (left := fun z => left z && !z.sameKey (.int .u32 x)) es (fun p hp => by have := (HN.out.ok p hp).2; simpa using this)).2; have h9 : ws (fun _ => 1) es ≤ 743008370688 := Int.le_trans HN.out.one (pow12 (by have := Hlt.out; have := hM12.out; omega)); have h10 : cx * (s : Int) ≤ cx * 12 := Int.mul_le_mul_of_nonneg_left (by have := Hls.out; have := H2.out; omega) h4; have h11 := HST.out (fun _ => 1); have hlow : 0 ≤ wl (fun _ => 1) left es := (wl_le (fun _ => 1) es (fun p hp => by have := (HN.out.ok p hp).2; simpa using this)).1; have HC0 := Aside0.mk (show 0 ≤ c0 ∧ c0 + cx < 9223372036854775808 from ⟨hc0.1, by omega⟩); have hw0 : IntKind.i64.wrap (c0 + cx) = c0 + cx := (by rw [IntKind.wrap_i64]; have := HC0.out; omega); clear hat0 hwc0 hc0 hone h4 hle h9 h10 h11 hlow)
                    | (at_mapUpdate; refine wpList_mapUpdate_own _ rfl _ _ _ 58 rfl 48 3 law48 Try.underlying58 _ wo.heap.size _ _ rfl X4.out.own (by unfold maxLen; have := HSZ.out; have h_ := HN.out.cap; have h1_ := pow12 (i := i) (by have := Hlt.out; have := hM12.out; omega); have := Hls.out; have := H2.out; omega) _ _ _ rfl rfl (keyOf_int_mk Try.underlying48 (wf32 HQ.out.1 HQ.out.2)) _ [] (plainElem_int Try.underlying3 (wf64 (by have := HC0.out; have := HCX.out; omega) (by have := HC0.out; omega))) ?_; intro w10 hm10 hg10; have M10 := Aside0.mk hm10; have RG5 := Aside0.mk (RG4.out.kept hg10 (fun e => by have := Option.some.inj e; have := HBL.out; omega) (fun e => by have := Option.some.inj e; omega)); have BK5 := Aside0.mk ((hg10.block _ (blk_lt BK4.out) (fun e => by have := Option.some.inj e; have := GBL.out; omega)).trans BK4.out); have HB5 := Aside0.mk (HB4.out.grown hg10 (below_size HB4.out) (fun j hj => by cases hj; exact below_size HBo.out)); have HS5 := Aside0.mk (Nat.lt_of_lt_of_le HS4.out hg10.size); clear hm10 hg10))
                  have hp2 : es2.Pairwise (fun p q => p.1 ≠ q.1) := by obtain ⟨es', e, h, _⟩ := X4.out.own.entries law48; cases e; exact h
                  have h1 := hsk.out
                  have h2 := Hls.out
                  have hgT : gA k (N : Int) ring (M - (i + 1)) (Go.bits .or .u32 x q) = x1 := by unfold gA; rw [HX1.out]; rfl
                  have hsum := ws_put (gA k (N : Int) ring (M - (i + 1))) (v := cx) hp2 HAT0.out
                  have hone := ws_put (fun _ => 1) (v := cx) hp2 HAT0.out
                  rw [hgT] at hsum
                  go_roundg (kj - 1)
                  case measure => omega
                  case rel => exact ⟨s + 1, y1, ents ((DataW.map es2).put (.int .u32 (Go.bits .or .u32 x q)) (.lit (.int .i64 (c0 + cx)))), rfl, ⟨by omega⟩, ⟨by omega⟩, ⟨HY1.out⟩, ⟨⟨M10.out.mono (by omega), fun p hp => by
                      rcases mem_put hp with rfl | hp
                      · exact ⟨⟨x1, HX1.out⟩, by have := HC0.out; have := HCX.out; show 0 ≤ c0 + cx; omega⟩
                      · exact X4.out.ok p hp, by rw [hsum, X4.out.sum, Int.mul_add]; omega, by rw [hone, Int.mul_one]; have h3 := X4.out.one; have h5 : cx * ((s + 1 : Nat) : Int) = cx * (s : Int) + cx := (by rw [show ((s + 1 : Nat) : Int) = (s : Int) + 1 by omega, Int.mul_add, Int.mul_one]); rw [h5]; omega⟩⟩, RG5, BK5, HB5, HS5⟩
                · rw [if_neg hb] at hx1; cases hx1
              · rw [if_neg hp0] at hx1
                obtain rfl := Option.some.inj hx1
                have c6 : decide (p ≥ 0) = false := decide_eq_false hp0
                have c7 : decide (0 ≤ p) = false := decide_eq_false hp0
                clear hp0 hx1
                go_wp2_with (first
                  | (go_at_call 21; (with_reducible refine (impl_Row_bench.calls (N : Int) ring A c l (N : Int) ring _ (Kd.C_below HR.out HB2.out) HC.out rfl).mono ?_); rintro e w8 ⟨rfl, hb8⟩; have X3 := Aside0.mk (HX2.out.kept (grown_of_below hb8) (by simp)); have RG3 := Aside0.mk (RG2.out.kept (grown_of_below hb8) (by simp) (by simp)); have BK3 := Aside0.mk (blk_below (o := .cells #[.int .i64 (N : Int), .bool ring, .slice A l.length c] 29 (0, 0)) BK2.out hb8); have HB3 := Aside0.mk (below_step HB2.out hb8); have HS3 := Aside0.mk (Nat.lt_of_lt_of_le HS2.out hb8.size); clear hb8 s0 s1 s2)
                  | (go_at_call 36; (with_reducible refine (impl_bench_park.calls k (N : Int) ring x (s : Int) 0 p _ HP.out).mono ?_); rintro e w9 ⟨rfl, hb9⟩; have X4 := Aside0.mk (X3.out.kept (grown_of_below hb9) (by simp)); have RG4 := Aside0.mk (RG3.out.kept (grown_of_below hb9) (by simp) (by simp)); have BK4 := Aside0.mk (blk_below (o := .cells #[.int .i64 (N : Int), .bool ring, .slice A l.length c] 29 (0, 0)) BK3.out hb9); have HB4 := Aside0.mk (below_step HB3.out hb9); have HS4 := Aside0.mk (Nat.lt_of_lt_of_le HS3.out hb9.size); clear hb9))
                have h1 := hsk.out
                have h2 := Hls.out
                go_roundg (kj - 1)
                case measure => omega
                case rel => exact ⟨s + 1, y1, es2, rfl, ⟨by omega⟩, ⟨by omega⟩, ⟨HY1.out⟩, ⟨⟨X4.out.own.mono (by omega), X4.out.ok, X4.out.sum.trans (by rw [Int.zero_add]), by have h3 := X4.out.one; have h4 := HCX.out; have h5 : cx * ((s + 1 : Nat) : Int) = cx * (s : Int) + cx := (by rw [show ((s + 1 : Nat) : Int) = (s : Int) + 1 by omega, Int.mul_add, Int.mul_one]); rw [h5]; omega⟩⟩, RG4, BK4, HB4, HS4⟩
            · have c5 : decide (s < N) = false := decide_eq_false hls
              have Hls := Aside0.mk hls
              clear hls
              go_wp2
              have hsN_ : s = N := by have := Hls.out; have := hsN.out; omega
              have hy : y = 0 := by have := HY.out; rw [hsN_, Nat.sub_self] at this; simpa [seatSum] using this.symm
              have h7 := HLT7.out
              have h8 := HKQ.out
              go_roundg cnt7
              case measure => exact h7
              case rel => exact ⟨_, es2, RG2, ⟨by omega⟩, ⟨⟨HX2.out.own.mono (by have := H2.out; omega), HX2.out.ok, by rw [HX2.out.sum, HST.out, hy, show kx (.int .u32 x) = x from rfl, HGA.out]; simp, by have h1 := HX2.out.one; rw [HST.out, hsN_] at *; have h2 := H2.out; have h3 : cx * (N : Int) ≤ cx * 12 := Int.mul_le_mul_of_nonneg_left h2 HCX.out; rw [Int.mul_one]; omega⟩⟩, BK2, HB2, HS2⟩
    · have c5 : decide (i < M) = false := decide_eq_false hlt
      have hiM_ : i = M := by have := hiM.out; omega
      have Hlt := Aside0.mk hlt
      clear hlt
      have hent := HN.out.own.entries law48
      have hpw : es.Pairwise (fun p q => p.1 ≠ q.1) := by obtain ⟨es', e, h, _⟩ := hent; cases e; exact h
      have hkl : ∀ p ∈ es, WideAt.IsKeyLit p.1 := by obtain ⟨es', e, _, h⟩ := hent; cases e; exact h
      have HPW := Aside0.mk hpw
      have HKL := Aside0.mk hkl
      have hone : ws (fun _ => 1) es = tot := by
        have h := HN.out.sum
        rw [hiM_, Nat.sub_self] at h
        exact h
      have HONE := Aside0.mk hone
      have HIM := Aside0.mk hiM_
      clear hent hpw hkl hone hiM_
      go_wp2_with (first
        | (at_range; refine wpList_range_own _ rfl _ 58 rfl 48 3 law48 Try.underlying58 _ B cap _ rfl HN.out.own ?_; intro w6 hrg6 hg6 hs6)
        | go_in)
      go_frame
      have RG6 := Aside0.mk hrg6
      have HB6 := Aside0.mk (HBo.out.grown hg6 (below_size HBo.out) (fun j hj => by cases hj))
      have hwr := Aside0.mk (below_size HBo.out)
      clear hrg6 hs6 hg6
      go_loopg [12] (Maps.size (.map es)) (fun kq v12 w' => ∃ (left : Lit → Bool), v12 = .int .i64 (wl (fun _ => 1) left es) ∧ Aside0 (w'.ranges Try.prog 48 (plainElem (H := Unit) Try.prog 3) B wo.heap.size cap (.map es) left kq) ∧ Aside0 (Below w.heap.size w w'))
      case atStart => exact ⟨_, by rw [wl_start _ es es fun p hp => ⟨hp, HKL.out p hp⟩], RG6, HB6⟩
      case round =>
        clear RG6 HB6
        obtain ⟨left, rfl, RG, HBq⟩ := hrel
        go_wp2_with (first
          | (at_next; refine wpList_next_ranges_ii _ rfl _ rfl 48 3 .u32 .i64 law48 Try.underlying48 Try.underlying3 B wo.heap.size cap _ _ _ rfl RG.out ?_ ?_)
          | go_in)
        · intro hc0 hl0
          have HL0 := Aside0.mk hl0
          clear hc0 hl0
          go_wp2
          go_ret2
          refine ⟨?_, HBq.out⟩
          rw [wl_end _ HL0.out es, HONE.out]
          rfl
        · intro x cx w7 cnt7 hwx hwc hlx hat hrg7 hlt7 hg7 hs7 hen
          have HAT := Aside0.mk (at_mem hat)
          have RG7 := Aside0.mk hrg7
          have HLT7 := Aside0.mk hlt7
          have HB7 := Aside0.mk (HBq.out.grown hg7 (below_size HBq.out) (fun j hj => by cases hj; have := hwr.out; omega))
          have hst := wl_step (fun _ => 1) left (q := .i64) (c := cx) (k := .int .u32 x) trivial hlx HPW.out HAT.out
          rw [Int.mul_one] at hst
          have HST := Aside0.mk hst
          have hle := wl_le (fun _ => 1) (left := fun z => left z && !z.sameKey (.int .u32 x)) es (fun p hp => by have := (HN.out.ok p hp).2; simpa using this)
          have hlow : 0 ≤ cx := (HN.out.ok _ HAT.out).2
          have hw0 : IntKind.i64.wrap (wl (fun _ => 1) left es + cx) = wl (fun _ => 1) left es + cx := by
            have h2 := HN.out.one
            have h3 : ((12 ^ i : Nat) : Int) ≤ 8916100448256 := by
              have h4 : 12 ^ i ≤ 12 ^ 12 := Nat.pow_le_pow_right (by omega) (by have := HIM.out; have := hM12.out; omega)
              have e : 12 ^ 12 = 8916100448256 := by decide
              omega
            have h5 := (wl_le (fun _ => 1) (left := left) es (fun p hp => by have := (HN.out.ok p hp).2; simpa using this)).1
            rw [IntKind.wrap_i64]
            omega
          clear hwx hwc hlx hat hrg7 hlt7 hg7 hs7 hst hle hlow
          go_wp2
          have h7 := HLT7.out
          go_roundg cnt7
          case measure => exact h7
          case rel => exact ⟨_, by rw [HST.out], RG7, HB7⟩
set_option maxHeartbeats 8000000 in
set_option maxRecDepth 100000 in
theorem cap_no1 (k : Nat) (n : Int) (ring : Bool) (A : Option Addr) (c : Nat) (l : List Int) (m : Int) (w : World) (hr : Kd.C (Kd.int .i64) w A l.length l) (hc : l.length ≤ c) (h1 : impl_IsRow.f k n ring l = some false) :
    Calls Try.prog 15 #[.agg #[.int .i64 n, .bool ring, .slice A l.length c], .int .i64 m] w fun e w' => e = .returned (.tuple #[.int .i64 0, .bool false]) ∧ Below w.heap.size w w' := by
  have hu29 := Try.underlying29
  have HR := Aside0.mk hr
  have HC := Aside0.mk hc
  have H1 := Aside0.mk h1
  have HB := Aside0.mk (Below.refl w.heap.size w)
  clear hr hc h1
  go_enter Try.func15, Try.ntmps15
  go_upto_region 1 with (first | ((with_reducible refine gate_dst (N := 2) rfl ?_); refine box_event ?hg (N := 2) ?hd (cs := #[.int .i64 n, .bool ring, .slice A l.length c]) (t := 29) ?hr ?_; (case hd => rfl); (case hg => rfl); (case hr => first | (go_simp; done) | (go_simp; rfl)); intro gb hg w1 hbox hb; have BK := Aside0.mk hbox; have HB1 := Aside0.mk (below_step HB.out hb); have R1 := Aside0.mk (Kd.C_below HR.out HB1.out); clear hg hbox hb))
  have s0 : w1.cell? ⟨gb, 0, none⟩ = some (.int .i64 n) := (blk_cell BK.out 0).trans rfl
  have s1 : w1.cell? ⟨gb, 1, none⟩ = some (.bool ring) := (blk_cell BK.out 1).trans rfl
  have s2 : w1.cell? ⟨gb, 2, none⟩ = some (.slice A l.length c) := (blk_cell BK.out 2).trans rfl
  go_wp2_with (go_at_call 34; (with_reducible refine (impl_IsRow.calls k n ring A c l false _ R1.out HC.out H1.out).mono ?_); rintro e w2 ⟨rfl, hb2⟩; have HB2 := Aside0.mk (below_step HB1.out hb2); clear s0 s1 s2 hb2)
  go_ret2
  exact ⟨rfl, HB2.out⟩
set_option maxHeartbeats 8000000 in
set_option maxRecDepth 100000 in
theorem cap_no2 (k : Nat) (n : Int) (ring : Bool) (A : Option Addr) (c : Nat) (l : List Int) (m : Int) (w : World) (hr : Kd.C (Kd.int .i64) w A l.length l) (hc : l.length ≤ c) (h1 : impl_IsRow.f k n ring l = some true) (h2 : n > 12) :
    Calls Try.prog 15 #[.agg #[.int .i64 n, .bool ring, .slice A l.length c], .int .i64 m] w fun e w' => e = .returned (.tuple #[.int .i64 0, .bool false]) ∧ Below w.heap.size w w' := by
  have hu29 := Try.underlying29
  have HR := Aside0.mk hr
  have HC := Aside0.mk hc
  have H1 := Aside0.mk h1
  have HB := Aside0.mk (Below.refl w.heap.size w)
  have c12 : decide (n > 12) = true := decide_eq_true h2
  clear hr hc h1 h2
  go_enter Try.func15, Try.ntmps15
  go_upto_region 1 with (first | ((with_reducible refine gate_dst (N := 2) rfl ?_); refine box_event ?hg (N := 2) ?hd (cs := #[.int .i64 n, .bool ring, .slice A l.length c]) (t := 29) ?hr ?_; (case hd => rfl); (case hg => rfl); (case hr => first | (go_simp; done) | (go_simp; rfl)); intro gb hg w1 hbox hb; have BK := Aside0.mk hbox; have HB1 := Aside0.mk (below_step HB.out hb); have R1 := Aside0.mk (Kd.C_below HR.out HB1.out); clear hg hbox hb))
  have s0 : w1.cell? ⟨gb, 0, none⟩ = some (.int .i64 n) := (blk_cell BK.out 0).trans rfl
  have s1 : w1.cell? ⟨gb, 1, none⟩ = some (.bool ring) := (blk_cell BK.out 1).trans rfl
  have s2 : w1.cell? ⟨gb, 2, none⟩ = some (.slice A l.length c) := (blk_cell BK.out 2).trans rfl
  go_wp2_with (go_at_call 34; (with_reducible refine (impl_IsRow.calls k n ring A c l true _ R1.out HC.out H1.out).mono ?_); rintro e w2 ⟨rfl, hb2⟩; have HB2 := Aside0.mk (below_step HB1.out hb2); have BK2 := Aside0.mk (blk_below (o := .cells #[.int .i64 n, .bool ring, .slice A l.length c] 29 (0, 0)) BK.out hb2); clear s0 s1 s2 hb2; have s0 : w2.cell? ⟨gb, 0, none⟩ = some (.int .i64 n) := (blk_cell BK2.out 0).trans rfl)
  go_ret2
  exact ⟨rfl, HB2.out⟩
set_option maxHeartbeats 8000000 in
set_option maxRecDepth 100000 in
theorem cap_no3 (k : Nat) (n : Int) (ring : Bool) (A : Option Addr) (c : Nat) (l : List Int) (m : Int) (w : World) (hr : Kd.C (Kd.int .i64) w A l.length l) (hc : l.length ≤ c) (h1 : impl_IsRow.f k n ring l = some true) (h2 : ¬ n > 12) (h3 : impl_within.f m 0 12 = some false) :
    Calls Try.prog 15 #[.agg #[.int .i64 n, .bool ring, .slice A l.length c], .int .i64 m] w fun e w' => e = .returned (.tuple #[.int .i64 0, .bool false]) ∧ Below w.heap.size w w' := by
  have hu29 := Try.underlying29
  have HR := Aside0.mk hr
  have HC := Aside0.mk hc
  have H1 := Aside0.mk h1
  have H3 := Aside0.mk h3
  have HB := Aside0.mk (Below.refl w.heap.size w)
  have c12 : decide (n > 12) = false := decide_eq_false h2
  clear hr hc h1 h2 h3
  go_enter Try.func15, Try.ntmps15
  go_upto_region 1 with (first | ((with_reducible refine gate_dst (N := 2) rfl ?_); refine box_event ?hg (N := 2) ?hd (cs := #[.int .i64 n, .bool ring, .slice A l.length c]) (t := 29) ?hr ?_; (case hd => rfl); (case hg => rfl); (case hr => first | (go_simp; done) | (go_simp; rfl)); intro gb hg w1 hbox hb; have BK := Aside0.mk hbox; have HB1 := Aside0.mk (below_step HB.out hb); have R1 := Aside0.mk (Kd.C_below HR.out HB1.out); clear hg hbox hb))
  have s0 : w1.cell? ⟨gb, 0, none⟩ = some (.int .i64 n) := (blk_cell BK.out 0).trans rfl
  have s1 : w1.cell? ⟨gb, 1, none⟩ = some (.bool ring) := (blk_cell BK.out 1).trans rfl
  have s2 : w1.cell? ⟨gb, 2, none⟩ = some (.slice A l.length c) := (blk_cell BK.out 2).trans rfl
  go_wp2_with (first
    | (go_at_call 34; (with_reducible refine (impl_IsRow.calls k n ring A c l true _ R1.out HC.out H1.out).mono ?_); rintro e w2 ⟨rfl, hb2⟩; have HB2 := Aside0.mk (below_step HB1.out hb2); have BK2 := Aside0.mk (blk_below (o := .cells #[.int .i64 n, .bool ring, .slice A l.length c] 29 (0, 0)) BK.out hb2); clear s0 s1 s2 hb2; have s0 : w2.cell? ⟨gb, 0, none⟩ = some (.int .i64 n) := (blk_cell BK2.out 0).trans rfl)
    | (go_at_call 35; (with_reducible refine (impl_within.calls m 0 12 false _ H3.out).mono ?_); rintro e w3 ⟨rfl, hd3⟩; have HB3 := Aside0.mk (below_step HB2.out hd3.below); clear s0 hd3))
  go_ret2
  exact ⟨rfl, HB3.out⟩
def impl_CountAllPark.f (k : Nat) (a0_0 : Int) (a0_1 : Bool) (l0_2 : List Int) (a1 : Int) : Option (Int × Bool) :=
  (impl_IsRow.f k a0_0 a0_1 l0_2).bind fun t => (if t = true then (if a0_0 > 12 then some (0, false) else (impl_within.f a1 0 12).bind fun u => (if u = true then ((impl_Row_taken.f k a0_0 a0_1 l0_2).bind fun T => (if 0 ≤ a0_0 ∧ 0 ≤ T ∧ T < 4294967296 then ((parkA k a0_0 a0_1 a1.toNat T).bind fun r => some (r, true)) else none)) else some (0, false))) else some (0, false))
theorem impl_CountAllPark.calls (k : Nat) (a0_0 : Int) (a0_1 : Bool) (A0_2 : Option Addr) (c0_2 : Nat) (l0_2 : List Int) (a1 : Int) (r1 : Int) (r2 : Bool) (w : World) (hr0_2 : Kd.C (Kd.int .i64) w A0_2 l0_2.length l0_2) (hc0_2 : l0_2.length ≤ c0_2) (h : impl_CountAllPark.f k a0_0 a0_1 l0_2 a1 = some (r1, r2)) :
    Calls Try.prog 15 #[.agg #[.int .i64 a0_0, .bool a0_1, .slice A0_2 l0_2.length c0_2], .int .i64 a1] w fun e w' => e = .returned (.tuple #[.int .i64 r1, .bool r2]) ∧ Below w.heap.size w w' := by
  unfold impl_CountAllPark.f at h
  obtain ⟨t, h1, h⟩ := Option.bind_eq_some_iff.mp h
  cases t with
  | false =>
    rw [if_neg (by decide)] at h
    simp only [Option.some.injEq, Prod.mk.injEq] at h
    obtain ⟨rfl, rfl⟩ := h
    exact cap_no1 k a0_0 a0_1 A0_2 c0_2 l0_2 a1 w hr0_2 hc0_2 h1
  | true =>
    rw [if_pos rfl] at h
    by_cases h2 : a0_0 > 12
    · rw [if_pos h2] at h
      simp only [Option.some.injEq, Prod.mk.injEq] at h
      obtain ⟨rfl, rfl⟩ := h
      exact cap_no2 k a0_0 a0_1 A0_2 c0_2 l0_2 a1 w hr0_2 hc0_2 h1 h2
    · rw [if_neg h2] at h
      obtain ⟨u, h3, h⟩ := Option.bind_eq_some_iff.mp h
      cases u with
      | false =>
        rw [if_neg (by decide)] at h
        simp only [Option.some.injEq, Prod.mk.injEq] at h
        obtain ⟨rfl, rfl⟩ := h
        exact cap_no3 k a0_0 a0_1 A0_2 c0_2 l0_2 a1 w hr0_2 hc0_2 h1 h2 h3
      | true =>
        rw [if_pos rfl] at h
        obtain ⟨T, hT, h⟩ := Option.bind_eq_some_iff.mp h
        by_cases hb : 0 ≤ a0_0 ∧ 0 ≤ T ∧ T < 4294967296
        · rw [if_pos hb] at h
          obtain ⟨r, hA, h⟩ := Option.bind_eq_some_iff.mp h
          simp only [Option.some.injEq, Prod.mk.injEq] at h
          obtain ⟨rfl, rfl⟩ := h
          have h4 : 0 ≤ a1 ∧ a1 ≤ 12 := by
            unfold impl_within.f at h3
            by_cases c : a1 ≥ 0
            · rw [if_pos c] at h3
              simp only [Option.some.injEq, decide_eq_true_eq] at h3
              exact ⟨c, h3⟩
            · rw [if_neg c] at h3; simp at h3
          exact cap_yes k a0_0 a0_1 A0_2 c0_2 l0_2 a1 T _ w hr0_2 hc0_2 h1 (by omega) hb.1 h3 h4.1 h4.2 hT hb.2 hA
        · rw [if_neg hb] at h; cases h
theorem seatSum_mono {f g : Int → Option Int} (h : ∀ s, LeO (f s) (g s)) : ∀ (d : Nat) (s : Int), LeO (seatSum f d s) (seatSum g d s)
  | 0, _ => LeO.refl _
  | d + 1, s => by
    simp only [seatSum]
    exact LeO.bind (h s) fun x => LeO.bind (seatSum_mono h d (s + 1)) fun y => LeO.refl _
theorem parkA_mono (k : Nat) (n : Int) (ring : Bool) : ∀ (m : Nat) (T : Int), LeO (parkA k n ring m T) (parkA (k + 1) n ring m T)
  | 0, _ => LeO.refl _
  | m + 1, T => by
    simp only [parkA]
    refine seatSum_mono (fun s => ?_) _ _
    unfold seatF
    exact LeO.bind (impl_bench_park.mono _ _ _ _ _ _) fun p => LeO.ite (LeO.ite (parkA_mono k n ring m _) (LeO.none _)) (LeO.refl _)
theorem impl_CountAllPark.mono : ∀ a0_0 a0_1 l0_2 a1 k, LeO (impl_CountAllPark.f k a0_0 a0_1 l0_2 a1) (impl_CountAllPark.f (k + 1) a0_0 a0_1 l0_2 a1) := by
  intro a0_0 a0_1 l0_2 a1 k
  unfold impl_CountAllPark.f
  exact LeO.bind (impl_IsRow.mono _ _ _ _) fun t => LeO.ite (LeO.ite (LeO.refl _) (LeO.bind (LeO.refl _) fun u => LeO.ite (LeO.bind (impl_Row_taken.mono _ _ _ _) fun T => LeO.ite (LeO.bind (parkA_mono k _ _ _ _) fun r => LeO.refl _) (LeO.none _)) (LeO.refl _))) (LeO.refl _)

end Go.Proofs.Ytjbegmeibbpnmaa.PFnExactCountAllPark
