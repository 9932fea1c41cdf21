/- Given functions as plain Lean functions, and that their calls answer these. -/
import Derived.Test.YtihifglmnjocfaaDoorPFnExactFinalRowsx0
import Derived.Test.YtihifglmnjocfaaDoorPFnExactFinalRowsx4
import Derived.Test.YtihifglmnjocfaaDoorPFnExactFinalRowsx5
import Derived.Test.YtihifglmnjocfaaDoorPFnExactFinalRowsx6
import Derived.Test.YtihifglmnjocfaaDoorPFnExactFinalRowsx7
namespace Go.Proofs.YtihifglmnjocfaaDoor.PFnExactFinalRows
open Go.RowKit Go.Proofs.YtihifglmnjocfaaDoorW.PrintWords Go.Proofs.YtihifglmnjocfaaDoorW.PrintLast Go.Proofs.YtihifglmnjocfaaDoorW.PrintMore
attribute [local go_sem] max2_int min2_int max_two min_two max_three min_three max_four min_four
set_option maxHeartbeats 8000000
set_option maxRecDepth 100000
set_option linter.unusedVariables false
set_option linter.unusedSimpArgs false

/-! ### spec_l4Finals: function 25 -/
set_option linter.unnecessarySimpa false
theorem info22 : (Tryd.prog.info? 22).map (fun i => (i.zero, i.size, i.bytes)) = some (some (.slice none 0 0), 1, 24) := by kernel_rfl
/-- An element of a row of chances: its cells. -/
theorem cell26 {w : World} {base : Nat} {ok : Nat → Prop} {g n c : Nat} {xs : List S26} (h : Kd.R k26 26 w base ok (.slice (some ⟨g, 0, none⟩) n c) xs) (i : Nat) (hi : i < xs.length) {y : S26} (hy : xs[i]? = some y) :
  w.cell? ⟨g, i * 2, none⟩ = some (.int .i64 y.f0) ∧ w.cell? ⟨g, i * 2 + 1, none⟩ = some (.int .i64 y.f1) := by
 obtain ⟨rfl, -, hC⟩ := Kd.R_reads' h
 obtain ⟨ad, e, t0, t1⟩ := at_T26 hC (i : Int) (by omega) (by omega)
 cases e
 have hr : rd_T26 xs (i : Int) = y := by simp [rd_T26, List.getD, hy]
 rw [hr] at t0 t1
 rw [Int.toNat_natCast] at t0 t1
 have e : (⟨g, 0, none⟩ : Addr).add (i * 2) = ⟨g, i * 2, none⟩ := by
  unfold Addr.add
  by_cases h0 : i * 2 = 0
  ·simp [h0]
  ·simp [h0]
 rw [e] at t0 t1
 exact ⟨t0, t1⟩
/-- An element of a row of rows: its cell, and what it leads to. -/
theorem cellL {w : World} {base : Nat} {ok : Nat → Prop} {g n c : Nat} {xs : List (List Int)} (h : Kd.R (Kd.slice 3 (Kd.int .i64)) 22 w base ok (.slice (some ⟨g, 0, none⟩) n c) xs) (i : Nat) (hi : i < xs.length) {y : List Int} (hy : xs[i]? = some y) :
  ∃ A0 c0, w.cell? ⟨g, i, none⟩ = some (.slice A0 y.length c0) ∧ y.length ≤ c0 ∧ (Kd.int .i64).C w A0 y.length y := by
 obtain ⟨rfl, -, hC⟩ := Kd.R_reads' h
 obtain ⟨ad, A0, c0, e, t0, t1, t2⟩ := at_L2 hC (i : Int) (by omega) (by omega)
 cases e
 have hr : rd_L2 xs (i : Int) = y := by simp [rd_L2, List.getD, hy]
 rw [hr] at t0 t1 t2
 rw [Int.toNat_natCast] at t0
 have e : (⟨g, 0, none⟩ : Addr).add i = ⟨g, i, none⟩ := by
  unfold Addr.add
  by_cases h0 : i = 0
  ·simp [h0]
  ·simp [h0]
 rw [e] at t0
 exact ⟨A0, c0, t0, t1, t2⟩
theorem k_less {m k n : Nat} (h : m + k = n + 1) (hl : m ≤ n) : k - 1 < k := by omega
theorem k_next {m k n : Nat} (h : m + k = n + 1) (hl : m < n) : m + 1 + (k - 1) = n + 1 := by omega
theorem w_next {m : Nat} (h : m < 1000000000) : wrap64 ((m : Int) + 1) = ((m + 1 : Nat) : Int) := by unfold wrap64; omega
theorem size26 : (Tryd.prog.info? 26).map (·.size) = some 2 := by kernel_rfl
/-- chances[i] = x': run. -/
theorem store26 {w0 W : World} {g n cap : Nat} {xs : List S26} (HO : Kd.R k26 26 W w0.heap.size (fun _ => True) (.slice (some ⟨g, 0, none⟩) n cap) xs) (i : Nat) (hi : i < xs.length) (x' : S26) (HB : Below w0.heap.size w0 W) :
  ∃ w1, (Instr.storeAt 26 (.pointer (some ⟨g, i * 2, none⟩)) (.agg #[.int .i64 x'.f0, .int .i64 x'.f1])).run Tryd.prog W = .ok () w1 ∧ Kd.R k26 26 w1 w0.heap.size (fun _ => True) (.slice (some ⟨g, 0, none⟩) n cap) (xs.set i x') ∧ Below w0.heap.size w0 w1 ∧ W.grownBy w1 (some g) := by
 have hnx : n = xs.length := (Kd.R_reads' HO).1
 obtain ⟨y, hy⟩ : ∃ y, xs[i]? = some y := ⟨xs[i], by simp [hi]⟩
 obtain ⟨t0, t1⟩ := cell26 HO i hi hy
 have hcc : ∀ (j : Nat) (u : Value), ([.int .i64 y.f0, .int .i64 y.f1] : List Value)[j]? = some u → W.cell? ⟨g, (i : Int).toNat * k26.sz + j, none⟩ = some u := fun j u hu => by
  match j, hu with
  | 0, hu => obtain rfl : Value.int .i64 y.f0 = u := (by simpa using hu); exact t0
  | 1, hu => obtain rfl : Value.int .i64 y.f1 = u := (by simpa using hu); exact t1
  | j + 2, hu => simp at hu
 obtain ⟨hrow, hg⟩ := Kd.R_seg (okp := fun _ => False) (x' := x') (seg := [.int .i64 x'.f0, .int .i64 x'.f1]) (j := 0) HO (i : Int) (by omega) (by omega) (c := [.int .i64 y.f0, .int .i64 y.f1]) rfl hcc (Nat.le_refl 2) (k26_mkM W _ _ x') (fun _ h => h.elim)
 have e : (i : Int).toNat * k26.sz + 0 = i * 2 := by rw [Int.toNat_natCast]; rfl
 rw [e, Int.toNat_natCast] at hrow
 rw [e] at hg
 have hbg : w0.heap.size ≤ g := Kd.R_base HO g (by simp [Value.ownBlock])
 refine ⟨_, ?_, hrow, ?_, hg⟩
 ·obtain ⟨_, inner, hown, hr⟩ := HO
  rcases hown.2 with ⟨hv, _⟩ | ⟨g', cap', cur, hv, hb, hh, hnc, hcm, hcs, _⟩
  ·injection hv with ha; cases ha
  injection hv with ha _ hc
  injection ha with ha
  injection ha with hg'
  subst hg'; subst hc
  have hs : k26.sz = 2 := rfl
  rw [hs] at hcs
  have h := run_store_run (P := Tryd.prog) (o := i * 2) 26 (.agg #[.int .i64 x'.f0, .int .i64 x'.f1]) [.int .i64 x'.f0, .int .i64 x'.f1] hh rfl size26 (by show i * 2 + 2 ≤ _; omega) (by simp [Value.oneCell'])
  exact h
 ·exact HB.trans ⟨hg.os, hg.tape, hg.output, hg.size, fun k hk => by
   rcases Nat.lt_or_ge k W.heap.size with hlt | hge
   ·exact hg.block k hlt (fun he => by injection he with he; omega)
   ·exact setCells_far _ _ k (by omega)⟩
/-- append(s, x), run: x's cells lie in a block of their own. -/
theorem app_run {α : Type} (d : Kd α) {e : Nat} {w0 W : World} (base : Nat) (t ty : TypeId) (z : Value) (bytes : Nat)
  (ht : Tryd.prog.underlying t = some (.slice e)) (hinfo : (Tryd.prog.info? e).map (fun i => (i.zero, i.size, i.bytes)) = some (some z, d.sz, bytes)) (hz : z.cells.size = d.sz) (hs0 : 0 < d.sz) (hb0 : 0 < bytes)
  (v : Value) (xs : List α) (p : α) (cs : List Value) (ok okp : Nat → Prop) (g : Nat) (hblk : W.heap[g]? = some (.cells cs.toArray e (0, 0))) (hp : d.M W base okp p cs) (hokp : ∀ k, okp k → ok k ∧ some k ≠ v.ownBlock) (hfresh : ∀ k, W.heap.size ≤ k → ok k)
  (HO : d.R e W base ok v xs) (HB : Below base w0 W) (hbase : base ≤ W.heap.size) (hl : (xs.length + 1) * bytes ≤ 140737488355328) :
  ∃ v1 w1, (Builtin.append_ #[t, t] ty #[v, .slice (some ⟨g, 0, none⟩) 1 1]).run Tryd.prog W = .ok v1 w1 ∧ d.R e w1 base ok v1 (xs ++ [p]) ∧ Below base w0 w1 ∧ W.grownBy w1 v.ownBlock ∧ (v1.ownBlock = v.ownBlock ∨ ∃ b, v1.ownBlock = some b ∧ W.heap.size ≤ b) := by
 obtain ⟨i0, hi, hzz⟩ := Option.map_eq_some_iff.1 hinfo
 simp only [Prod.mk.injEq] at hzz
 obtain ⟨hz0, hz1, hz2⟩ := hzz
 have hlen : xs.length + 1 ≤ 140737488355328 := Nat.le_trans (Nat.le_mul_of_pos_right _ hb0) hl
 have hb := fun k hk => Kd.R_base HO k hk
 obtain ⟨h0, inner, hown, hr⟩ := HO
 have hcl : cs.length = d.sz := d.K_len (d.K_of_M hp)
 obtain ⟨v1, w1, hrun, ho, hg, -, hat⟩ := run_append_own_at (P := Tryd.prog) W base t ty e i0 z d.sz bytes ht hi hz0 hz1 hz2 hz hs0 v xs.length inner hown ⟨g, 0, none⟩ 1 1 cs (by rw [hcl]; simp)
  (by simpa using World.news_of_block (cs := cs.toArray) (t := e) (fr := (0, 0)) hblk) (d.K_one (d.K_of_M hp)) (by simp only [maxLen]; omega) hl hbase
 have hat' : v1.ownBlock = v.ownBlock ∨ ∃ b, v1.ownBlock = some b ∧ W.heap.size ≤ b := hat.imp id (fun h => ⟨_, h, Nat.le_refl _⟩)
 exact ⟨v1, w1, hrun, Kd.R_appended h0 hr hp hokp hfresh ho hg hat', HB.grown hg hbase hb, hg, hat'⟩
/-- While both rows get one element more, in whatever order: the blocks of the two elements (o36, o40), the longer row of sets (o37). -/
structure Adv (w0 w : World) (vS vC vs : Value) (S : List (List Int)) (C : List S26) (s : List Int) (c : S26) (gb : Nat) (W : World) (o36 : Option Nat) (o37 : Option Value) (o40 : Option Nat) : Prop where
 bel : Below w0.heap.size w0 W
 size : w0.heap.size ≤ W.heap.size
 kept : Kept w W (fun k => some k = vS.ownBlock)
 ch : Kd.R k26 26 W w0.heap.size (fun _ => True) vC C
 row : Kd.R (Kd.int .i64) 3 W w0.heap.size (fun _ => True) vs s
 box : W.heap[gb]? = some (.cells #[.int .i64 c.f0, .int .i64 c.f1] 26 (0, 0))
 b36 : ∀ g, o36 = some g → W.heap[g]? = some (.cells #[vs] 22 (0, 0)) ∧ some g ≠ vS.ownBlock
 b40 : ∀ g, o40 = some g → W.heap[g]? = some (.cells #[.int .i64 c.f0, .int .i64 c.f1] 26 (0, 0))
 old : o37 = none → Kd.R (Kd.slice 3 (Kd.int .i64)) 22 W w0.heap.size (fun _ => True) vS S
 new : ∀ v, o37 = some v → Kd.R (Kd.slice 3 (Kd.int .i64)) 22 W w0.heap.size (fun _ => True) v (S ++ [s]) ∧ (∀ k, some k = v.ownBlock → some k = vS.ownBlock ∨ w.heap.size ≤ k)
section
variable {w0 w W : World} {vS vC vs : Value} {S : List (List Int)} {C : List S26} {s : List Int} {c : S26} {gb : Nat} {o36 : Option Nat} {o37 : Option Value} {o40 : Option Nat}
theorem Adv.alloc22 (h : Adv w0 w vS vC vs S C s c gb W none none o40) : Adv w0 w vS vC vs S C s c gb (W.alloc (.cells #[vs] 22)) (some W.heap.size) none o40 := by
 have hb : Below W.heap.size W (W.alloc (.cells #[vs] 22)) := below_alloc (Below.refl _ _) _
 refine ⟨below_weaken h.bel h.size hb, Nat.le_trans h.size (below_size hb), h.kept.below hb, Kd.R_below h.ch hb, Kd.R_below h.row hb, blk_alloc h.box _, fun g hg => ?_, fun g hg => blk_alloc (h.b40 g hg) _, fun _ => Kd.R_below (h.old rfl) hb, fun v hv => (by cases hv)⟩
 cases hg
 exact ⟨blk_new W _, Kd.R_ne_new (h.old rfl) 0⟩
theorem Adv.alloc26 (h : Adv w0 w vS vC vs S C s c gb W o36 o37 none) : Adv w0 w vS vC vs S C s c gb (W.alloc (.cells #[.int .i64 c.f0, .int .i64 c.f1] 26)) o36 o37 (some W.heap.size) := by
 have hb : Below W.heap.size W (W.alloc (.cells #[.int .i64 c.f0, .int .i64 c.f1] 26)) := below_alloc (Below.refl _ _) _
 refine ⟨below_weaken h.bel h.size hb, Nat.le_trans h.size (below_size hb), h.kept.below hb, Kd.R_below h.ch hb, Kd.R_below h.row hb, blk_alloc h.box _, fun g hg => ⟨blk_alloc (h.b36 g hg).1 _, (h.b36 g hg).2⟩, fun g hg => ?_, fun hn => Kd.R_below (h.old hn) hb, fun v hv => ⟨Kd.R_below (h.new v hv).1 hb, (h.new v hv).2⟩⟩
 cases hg
 exact blk_new W _
theorem Adv.append {g : Nat} (h : Adv w0 w vS vC vs S C s c gb W (some g) none o40) (hl : S.length ≤ 1000000) : ∃ v1 w1, (Builtin.append_ #[46, 46] 46 #[vS, .slice (some ⟨g, 0, none⟩) 1 1]).run Tryd.prog W = .ok v1 w1 ∧ Adv w0 w vS vC vs S C s c gb w1 (some g) (some v1) o40 := by
 have hr := Kd.R_apartR h.row (h.old rfl) (by decide)
 obtain ⟨v1, w1, hrun, hR, hB, hg, hat⟩ := app_run (Kd.slice 3 (Kd.int .i64)) (w0 := w0) w0.heap.size 46 46 (.slice none 0 0) 24 Tryd.underlying46 info22 rfl (by decide) (by omega) vS S s [vs] (fun _ => True) (fun k => True ∧ some k ≠ vS.ownBlock) g (h.b36 g rfl).1 (Kd.M_row hr) (fun _ hk => hk) (fun _ _ => trivial) (h.old rfl) h.bel h.size (by omega)
 refine ⟨v1, w1, hrun, ⟨hB, Nat.le_trans h.size hg.size, ?_, Kd.R_over h.ch (h.old rfl) (by decide) hg, Kd.R_over h.row (h.old rfl) (by decide) hg, blk_grown h.box hg (Kd.R_ne (h.old rfl) h.box (by decide)), fun g' hg' => ⟨blk_grown (h.b36 g' hg').1 hg (h.b36 g' hg').2, (h.b36 g' hg').2⟩, fun g' hg' => blk_grown (h.b40 g' hg') hg (Kd.R_ne (h.old rfl) (h.b40 g' hg') (by decide)), fun hn => (by cases hn), fun v hv => ?_⟩⟩
 ·exact Kept.of_grown hg h.kept (fun k hk => .inl hk.symm)
 ·cases hv
  refine ⟨hR, fun k hk => ?_⟩
  rcases hat with e | ⟨b, e, hb⟩
  ·exact .inl (by rw [hk, e])
  ·rw [e] at hk
   injection hk with hk
   exact .inr (by have := h.kept.1; omega)
end
/-- A chance put to that of a set: over the sets that there are. -/
def addF (k : Nat) (s : List Int) (c : S26) : List (List Int) → List S26 → Option (List (List Int) × List S26)
 | [], [] => some ([s], [c])
 | x :: xs, y :: ys => (spec_l1Same.f k x s).bind fun b => if b = true then (spec_l2Plus.f k y.f0 y.f1 c.f0 c.f1).bind fun v => some (x :: xs, ⟨v.1, v.2⟩ :: ys) else (addF k s c xs ys).bind fun r => some (x :: r.1, y :: r.2)
 | _, _ => none
theorem add_calls (k : Nat) (w0 w : World) (hB : Below w0.heap.size w0 w) (vS vC vs : Value) (S : List (List Int)) (C : List S26) (s : List Int) (c : S26) (S' : List (List Int)) (C' : List S26)
  (hS : Kd.R (Kd.slice 3 (Kd.int .i64)) 22 w w0.heap.size (fun _ => True) vS S) (hC : Kd.R k26 26 w w0.heap.size (fun _ => True) vC C) (hs : Kd.R (Kd.int .i64) 3 w w0.heap.size (fun _ => True) vs s)
  (hl : S.length ≤ 1000000) (hlC : S.length = C.length) (h : addF k s c S C = some (S', C')) :
  Calls Tryd.prog 73 #[vS, vC, vs, .agg #[.int .i64 c.f0, .int .i64 c.f1]] w fun e w' => ∃ vS' vC' : Value, e = .returned (.tuple #[vS', vC']) ∧
   Kd.R (Kd.slice 3 (Kd.int .i64)) 22 w' w0.heap.size (fun _ => True) vS' S' ∧ Kd.R k26 26 w' w0.heap.size (fun _ => True) vC' C' ∧ Below w0.heap.size w0 w' ∧ Kept w w' (fun k => some k = vS.ownBlock ∨ some k = vC.ownBlock) ∧
   (∀ k, some k = vS'.ownBlock → some k = vS.ownBlock ∨ w.heap.size ≤ k) ∧ (∀ k, some k = vC'.ownBlock → some k = vC.ownBlock ∨ w.heap.size ≤ k) := by
 obtain ⟨AS, cS, rfl⟩ := Kd.R_slice hS
 obtain ⟨AC, cC, rfl⟩ := Kd.R_slice hC
 obtain ⟨As, cs, rfl⟩ := Kd.R_slice hs
 have HS := A_.mk hS
 have HC := A_.mk hC
 have HV := A_.mk hs
 have HB := A_.mk hB
 have HL := A_.mk hl
 have HLC := A_.mk hlC
 have HA := A_.mk h
 have HBw := A_.mk (Below.refl w.heap.size w)
 clear hS hC hs hB hl hlC h
 go_enter Tryd.func73, Tryd.ntmps73
 go_upto_region 1 with ((with_reducible refine gate_dst (N := 7) rfl ?_); refine box_event ?hg (N := 7) ?hd (cs := #[.int .i64 c.f0, .int .i64 c.f1]) (t := 26) ?hr ?_; (case hd => rfl); (case hg => rfl); (case hr => (go_simp; done)); intro gb hg w1 hbox hb; have BK := A_.mk hbox; have HB1 := A_.mk (below_step HBw.out hb); have G1 := A_.mk ((by rw [hg]; exact below_size HBw.out : w.heap.size ≤ gb)); clear hg hbox hb)
 go_wp2
 go_loopg [10] (S.length + 1) (fun kq v10 w' => ∃ (i : Nat) (Rs : List (List Int)) (Rc : List S26), v10 = .int .i64 (i : Int) ∧ A_ (i + kq = S.length + 1) ∧ A_ (i ≤ S.length) ∧ A_ (addF k s c (S.drop i) (C.drop i) = some (Rs, Rc)) ∧ A_ (S.take i ++ Rs = S') ∧ A_ (C.take i ++ Rc = C') ∧ A_ (w'.heap[gb]? = some (.cells #[.int .i64 c.f0, .int .i64 c.f1] 26 (0, 0))) ∧ A_ (Below w.heap.size w w'))
 case atStart => exact ⟨0, S', C', rfl, ⟨by omega⟩, ⟨by omega⟩, ⟨HA.out⟩, ⟨rfl⟩, ⟨rfl⟩, BK, HB1⟩
 case round =>
  clear BK HB1 HA
  obtain ⟨i, Rs, Rc, rfl, hik, hi, HA, HE, HEC, BK, HBo⟩ := hrel
  cases gk with
  | zero => have := hik.out; have := hi.out; omega
  | succ k1 =>
  by_cases hlt : i < S.length
  ·have c5 : decide (i < S.length) = true := decide_eq_true hlt
   have hltC : i < C.length := by have := HLC.out; omega
   have hA := HA.out
   obtain ⟨x, hx⟩ : ∃ x, S[i] = x := ⟨_, rfl⟩
   obtain ⟨y, hy⟩ : ∃ y, C[i] = y := ⟨_, rfl⟩
   have hgx : S[i]? = some x := by rw [← hx]; simp [hlt]
   have hgy : C[i]? = some y := by rw [← hy]; simp [hltC]
   have htx : S.take i ++ [x] = S.take (i + 1) := by rw [← hx]; simp
   have hty : C.take i ++ [y] = C.take (i + 1) := by rw [← hy]; simp
   rw [List.drop_eq_getElem_cons hlt, List.drop_eq_getElem_cons hltC, hx, hy] at hA
   simp only [addF] at hA
   obtain ⟨b, hb, hA⟩ := Option.bind_eq_some_iff.mp hA
   have S1 := Kd.R_below HS.out HBo.out
   obtain ⟨g, cap, ev, -, -, -⟩ := Kd.R_form S1 (by omega)
   injection ev with ev1 ev2 ev3
   subst ev1
   obtain ⟨Ax, cx, hcell, hxc, hCx⟩ := cellL S1 i hlt hgx
   have hrs := (Kd.R_reads' (Kd.R_below HV.out HBo.out)).2
   have Hrs := A_.mk hrs
   have HCX := A_.mk hCx
   have HXC := A_.mk hxc
   have Hb := A_.mk hb
   have HA2 := A_.mk hA
   have HltC := A_.mk hltC
   have Hgy := A_.mk hgy
   have Htx := A_.mk htx
   have Hty := A_.mk hty
   clear S1 hrs hCx hxc hb hA hgx hgy htx hty hx hy hltC ev2 ev3 HA
   cases b with
   | true =>
    go_wp2_with (go_at_call 56; (with_reducible refine (spec_l1Same.calls k Ax cx x As cs s true _ HCX.out HXC.out Hrs.out.2 Hrs.out.1 Hb.out).mono ?_); rintro e w2 ⟨rfl, hd2⟩; have BK2 := A_.mk (blk_below (o := .cells #[.int .i64 c.f0, .int .i64 c.f1] 26 (0, 0)) BK.out hd2.below); have HB2 := A_.mk (below_step HBo.out hd2.below); clear hd2)
    have R2 := A_.mk (Kd.R_drew (Kd.R_below HC.out HB2.out))
    have hCl := HLC.out
    obtain ⟨g2, cap2, ev, hbg, -, -⟩ := Kd.R_form R2.out (by omega)
    injection ev with ev1 ev2 ev3
    subst ev1
    obtain ⟨t0, t1⟩ := cell26 R2.out i (by omega) Hgy.out
    have hiC : i < C.length := by omega
    have hA := HA2.out
    rw [if_pos trivial] at hA
    obtain ⟨⟨p0, p1⟩, hp, hA⟩ := Option.bind_eq_some_iff.mp hA
    simp only [Option.some.injEq, Prod.mk.injEq] at hA
    obtain ⟨rfl, rfl⟩ := hA
    have HP := A_.mk hp
    have BKd := A_.mk (blk_drew BK2.out)
    have HBd := A_.mk (below_drew1 HB2.out)
    have b0 : w2.drew.cell? ⟨gb, 0, none⟩ = some (.int .i64 c.f0) := (blk_cell BKd.out 0).trans rfl
    have b1 : w2.drew.cell? ⟨gb, 1, none⟩ = some (.int .i64 c.f1) := (blk_cell BKd.out 1).trans rfl
    have HBG := A_.mk hbg
    clear hp ev2 ev3 BK2 HB2 hbg
    refine start_ (n := 10) (S := fun w' => w'.cell? ⟨g2, i * 2, none⟩ = some (.int .i64 y.f0) ∧ w'.cell? ⟨g2, i * 2 + 1, none⟩ = some (.int .i64 y.f1) ∧ w'.cell? ⟨gb, 0, none⟩ = some (.int .i64 c.f0) ∧ w'.cell? ⟨gb, 1, none⟩ = some (.int .i64 c.f1)) (ds := [9]) (m_ 10 0) (by kernel_rfl) rfl rfl ⟨t0, t1, b0, b1⟩ (fun hHeld => ?_)
    generalize w2.drew = wd at *
    refine pure_ (i := 0) (N := some 23) (v := ?_) (a' := ?_) (m_ 10 1) rfl rfl (by kernel_rfl) (fun _ _ _ h => h) (Or.inl ⟨by rfl, ?_⟩) ?_ ?_
    rotate_left
    ·intro w'
     go_simp
     with_reducible rfl
    rotate_left
    ·simp only [Act.put, sI_, s0_, s1_, i64_w, i32_w]
     rfl
    refine pure_ (i := 1) (N := some 24) (v := ?_) (a' := ?_) (m_ 10 3) rfl rfl (by kernel_rfl) (fun _ _ _ h => h) (Or.inl ⟨by rfl, ?_⟩) ?_ ?_
    rotate_left
    ·intro w'
     go_simp
     with_reducible rfl
    rotate_left
    ·simp only [Act.put, sI_, s0_, s1_, i64_w, i32_w]
     rfl
    refine pure_ (i := 2) (N := some 25) (v := ?_) (a' := ?_) (m_ 10 7) rfl rfl (by kernel_rfl) (fun _ _ _ h => h) (Or.inl ⟨by rfl, ?_⟩) ?_ ?_
    rotate_left
    ·intro w'
     go_simp
     with_reducible rfl
    rotate_left
    ·simp only [Act.put, sI_, s0_, s1_, i64_w, i32_w]
     rfl
    refine pure_ (i := 3) (N := some 26) (v := ?_) (a' := ?_) (m_ 10 15) rfl rfl (by kernel_rfl) (fun _ _ _ h => h) (Or.inl ⟨by rfl, ?_⟩) ?_ ?_
    rotate_left
    ·intro w'
     go_simp
     with_reducible rfl
    rotate_left
    ·simp only [Act.put, sI_, s0_, s1_, i64_w, i32_w]
     rfl
    refine pure_ (i := 4) (N := some 27) (v := ?_) (a' := ?_) (m_ 10 31) rfl rfl (by kernel_rfl) (fun _ _ _ h => h) (Or.inl ⟨by rfl, ?_⟩) ?_ ?_
    rotate_left
    ·intro w'
     go_simp
     with_reducible rfl
    rotate_left
    ·simp only [Act.put, sI_, s0_, s1_, i64_w, i32_w]
     rfl
    refine take_ (i := 5) (N := some 28) (v := ?_) (a' := ?_) (m_ 10 63) rfl rfl (by kernel_rfl) (fun _ _ _ h => h) (Or.inl ⟨by rfl, ?_⟩) hHeld ?_ ?_
    rotate_left
    ·intro w' sh
     obtain ⟨s0, s1, s2, s3⟩ := sh
     go_simp
     with_reducible rfl
    rotate_left
    ·simp only [Act.put, sI_, s0_, s1_, i64_w, i32_w]
     rfl
    refine take_ (i := 6) (N := some 29) (v := ?_) (a' := ?_) (m_ 10 127) rfl rfl (by kernel_rfl) (fun _ _ _ h => h) (Or.inl ⟨by rfl, ?_⟩) hHeld ?_ ?_
    rotate_left
    ·intro w' sh
     obtain ⟨s0, s1, s2, s3⟩ := sh
     go_simp
     with_reducible rfl
    rotate_left
    ·simp only [Act.put, sI_, s0_, s1_, i64_w, i32_w]
     rfl
    refine one_ (i := 7) (N := some 30) (m_ 10 255) rfl rfl (by kernel_rfl) (by decide) (fun K hK => ?_)
    refine goes_ Tryd.func46 (by kernel_rfl) rfl #[.agg #[.int .i64 y.f0, .int .i64 y.f1], .agg #[.int .i64 c.f0, .int .i64 c.f1]] (by rfl) rfl rfl (by (try simp only [List.map_toArray, List.map_cons, List.map_nil]); (rfl)) ?_
    refine (spec_l2Plus.calls k y.f0 y.f1 c.f0 c.f1 p0 p1 wd HP.out).mono ?_
    rintro e w3 ⟨rfl, hb3⟩
    refine ⟨_, rfl, ?_⟩
    have R3 := A_.mk (Kd.R_below R2.out hb3)
    have HB3 := A_.mk (below_step HBd.out hb3)
    refine hK.out _ _ ⟨(pw_cell_below hb3 hHeld.1).trans rfl, (pw_cell_below hb3 hHeld.2.1).trans rfl, (pw_cell_below hb3 hHeld.2.2.1).trans rfl, (pw_cell_below hb3 hHeld.2.2.2).trans rfl⟩ (fun hHeld2 => ?_)
    clear hK K hHeld hb3 R2 HBd t0 t1 b0 b1
    refine norm_ (a' := ?_) ?_ ?_
    rotate_left
    ·show Act.put _ (some 30) _ = _
     simp only [Act.put, sI_, s0_, s1_, i64_w, i32_w]
     rfl
    refine pure_ (i := 8) (N := some 31) (v := ?_) (a' := ?_) (m_ 10 511) rfl rfl (by kernel_rfl) (fun _ _ _ h => h) (Or.inl ⟨by rfl, ?_⟩) ?_ ?_
    rotate_left
    ·intro w'
     go_simp
     with_reducible rfl
    rotate_left
    ·simp only [Act.put, sI_, s0_, s1_, i64_w, i32_w]
     rfl
    refine last_ (i := 9) (N := none) (m_ 10 1023) rfl rfl (by kernel_rfl) (by decide) (fun K hK => ?_)
    obtain ⟨w4, hrun, hr4, hb4, hg4⟩ := store26 R3.out i hiC ⟨p0, p1⟩ (below_weaken HB.out (below_size HB.out) HB3.out)
    refine skip_ (w1 := w4) (by rfl) rfl ?_ ?_
    ·unfold execOp
     simp [Act.eval, hrun]
    have hs4 := Kd.R_over (Kd.R_below HS.out HB3.out) R3.out (by decide) hg4
    have hk4 := Kept.of_grown hg4 (Kept.of_below HB3.out (fun k => some k = (Value.slice (some ⟨g, 0, none⟩) S.length cS).ownBlock ∨ some k = (Value.slice (some ⟨g2, 0, none⟩) C.length cC).ownBlock)) (fun k hk => .inl (.inr (by rw [← hk]; rfl)))
    have R4 := A_.mk hr4
    have B4 := A_.mk hb4
    have K4 := A_.mk hk4
    have S4 := A_.mk hs4
    refine hK.out _ _ ?_
    clear hK K hHeld2 hrun hr4 hb4 hg4 hs4 hk4
    refine done_ (by kernel_rfl) ?_
    go_wp2
    go_ret2
    have eS : S' = S := by rw [← HE.out, List.append_cons, Htx.out, List.take_append_drop]
    have eC : C' = C.set i ⟨p0, p1⟩ := by rw [← HEC.out, List.set_eq_take_append_cons_drop, if_pos hiC]
    rw [eS, eC]
    exact ⟨_, _, rfl, S4.out, R4.out, B4.out, K4.out, fun k hk => .inl hk, fun k hk => .inl hk⟩
   | false =>
    go_wp2_with (go_at_call 56; (with_reducible refine (spec_l1Same.calls k Ax cx x As cs s false _ HCX.out HXC.out Hrs.out.2 Hrs.out.1 Hb.out).mono ?_); rintro e w2 ⟨rfl, hd2⟩; have BK2 := A_.mk (blk_below (o := .cells #[.int .i64 c.f0, .int .i64 c.f1] 26 (0, 0)) BK.out hd2.below); have HB2 := A_.mk (below_step HBo.out hd2.below); clear hd2)
    have hA := HA2.out
    rw [if_neg (by decide)] at hA
    obtain ⟨⟨r1, r2⟩, hr, hA⟩ := Option.bind_eq_some_iff.mp hA
    simp only [Option.some.injEq, Prod.mk.injEq] at hA
    obtain ⟨rfl, rfl⟩ := hA
    have Hr := A_.mk hr
    clear hr
    have hw : wrap64 ((i : Int) + 1) = ((i + 1 : Nat) : Int) := by have := HL.out; have := hi.out; unfold wrap64; omega
    have hik_ := hik.out
    go_roundg k1
    case measure => omega
    case rel => exact ⟨i + 1, r1, r2, by rw [hw], ⟨by omega⟩, ⟨by omega⟩, Hr, ⟨by rw [← Htx.out, List.append_assoc]; exact HE.out⟩, ⟨by rw [← Hty.out, List.append_assoc]; exact HEC.out⟩, BK2, HB2⟩
  ·obtain rfl : i = S.length := by have := hi.out; omega
   have c5 : decide (S.length < S.length) = false := decide_eq_false (by omega)
   have hA := HA.out
   rw [List.drop_length, HLC.out, List.drop_length] at hA
   simp only [addF, Option.some.injEq, Prod.mk.injEq] at hA
   obtain ⟨rfl, rfl⟩ := hA
   have eS : S' = S ++ [s] := by rw [← HE.out, List.take_length]
   have eC : C' = C ++ [c] := by rw [← HEC.out, HLC.out, List.take_length]
   subst eS
   subst eC
   have hb0 := below_weaken HB.out (below_size HB.out) HBo.out
   have AD := A_.mk (show Adv w0 w (.slice AS S.length cS) (.slice AC C.length cC) (.slice As s.length cs) S C s c gb wr.drew none none none from ⟨below_drew1 hb0, below_size (below_drew1 hb0), Kept.drew (Kept.of_below HBo.out _), Kd.R_drew (Kd.R_below HC.out HBo.out), Kd.R_drew (Kd.R_below HV.out HBo.out), BK.out, fun g hg => (by cases hg), fun g hg => (by cases hg), fun _ => Kd.R_drew (Kd.R_below HS.out HBo.out), fun v hv => (by cases hv)⟩)
   clear hb0 BK HBo HA HE HEC
   go_wp2
   have b0 : wr.drew.cell? ⟨gb, 0, none⟩ = some (.int .i64 c.f0) := (blk_cell AD.out.box 0).trans rfl
   have b1 : wr.drew.cell? ⟨gb, 1, none⟩ = some (.int .i64 c.f1) := (blk_cell AD.out.box 1).trans rfl
   refine start_ (n := 10) (S := fun w' => w'.cell? ⟨gb, 0, none⟩ = some (.int .i64 c.f0) ∧ w'.cell? ⟨gb, 1, none⟩ = some (.int .i64 c.f1)) (ds := [7]) (m_ 10 0) (by kernel_rfl) rfl rfl ⟨b0, b1⟩ (fun hHeld => ?_)
   generalize wr.drew = wd at *
   refine pure_ (i := 0) (N := some 34) (v := ?_) (a' := ?_) (m_ 10 1) rfl rfl (by kernel_rfl) (fun _ _ _ h => h) (Or.inl ⟨by rfl, ?_⟩) ?_ ?_
   rotate_left
   ·intro w'
    go_simp
    with_reducible rfl
   rotate_left
   ·simp only [Act.put, sI_, s0_, s1_, i64_w, i32_w]
    rfl
   refine pure_ (i := 1) (N := some 35) (v := ?_) (a' := ?_) (m_ 10 3) rfl rfl (by kernel_rfl) (fun _ _ _ h => h) (Or.inl ⟨by rfl, ?_⟩) ?_ ?_
   rotate_left
   ·intro w'
    go_simp
    with_reducible rfl
   rotate_left
   ·simp only [Act.put, sI_, s0_, s1_, i64_w, i32_w]
    rfl
   refine pure_ (i := 4) (N := some 38) (v := ?_) (a' := ?_) (m_ 10 19) rfl rfl (by kernel_rfl) (fun _ _ _ h => h) (Or.inl ⟨by rfl, ?_⟩) ?_ ?_
   rotate_left
   ·intro w'
    go_simp
    with_reducible rfl
   rotate_left
   ·simp only [Act.put, sI_, s0_, s1_, i64_w, i32_w]
    rfl
   refine take_ (i := 5) (N := some 39) (v := ?_) (a' := ?_) (m_ 10 51) rfl rfl (by kernel_rfl) (fun _ _ _ h => h) (Or.inl ⟨by rfl, ?_⟩) hHeld ?_ ?_
   rotate_left
   ·intro w' sh
    obtain ⟨s0, s1⟩ := sh
    go_simp
    with_reducible rfl
   rotate_left
   ·simp only [Act.put, sI_, s0_, s1_, i64_w, i32_w]
    rfl
   clear b0 b1 hHeld
   refine join_ (σ := Nat × Value × Nat) 3 (m_ 10 127) (fun s_ => [(36, .slice (some ⟨s_.1, 0, none⟩) 1 1), (37, s_.2.1), (40, .slice (some ⟨s_.2.2, 0, none⟩) 1 1)]) (fun s_ w' => Adv w0 w (.slice AS S.length cS) (.slice AC C.length cC) (.slice As s.length cs) S C s c gb w' (some s_.1) (some s_.2.1) (some s_.2.2)) ?_ ?_
   rotate_left
   ·intro hc
    refine two_ (i := 2) (j := 6) (Ni := some 36) (Nj := some 40) (m_ 10 55) (m_ 10 115) rfl rfl rfl rfl (by kernel_rfl) (by decide) (by decide) (fun K hK => ?_) (fun K hK => ?_)
    ·refine value_ (w1 := wd.alloc (.cells #[.slice As s.length cs] 22)) (v := .slice (some ⟨wd.heap.size, 0, none⟩) 1 1) (by rfl) rfl (by (go_simp; done)) ?_
     have h_ := AD.out.alloc22
     obtain ⟨g36, hg36⟩ : ∃ g, g = wd.heap.size := ⟨_, rfl⟩
     rw [← hg36] at h_ ⊢
     generalize wd.alloc (.cells #[.slice As s.length cs] 22) = wa at h_ ⊢
     have ADa := A_.mk h_
     clear hg36 h_
     refine hK.out _ _ ⟨(blk_cell ADa.out.box 0).trans rfl, (blk_cell ADa.out.box 1).trans rfl⟩ (fun hHeld2 => ?_)
     clear hK K hHeld2
     refine norm_ (a' := ?_) ?_ ?_
     rotate_left
     ·show Act.put _ (some 36) _ = _
      simp only [Act.put, sI_, s0_, s1_, i64_w, i32_w]
      rfl
     refine two_ (i := 3) (j := 6) (Ni := some 37) (Nj := some 40) (m_ 10 63) (m_ 10 119) rfl rfl rfl rfl (by kernel_rfl) (by decide) (by decide) (fun K hK => ?_) (fun K hK => ?_)
     ·obtain ⟨v37, wb, hrun, h_⟩ := ADa.out.append HL.out
      have ADb := A_.mk h_
      clear h_
      refine value_ (w1 := wb) (v := v37) (by rfl) rfl (by unfold execOp; simp only [resolve, invoke, builtin, Sem.run_bind, Sem.run_pure, Result.andThen_ok, List.map_toArray, List.map_cons, List.map_nil]; simp [Act.eval, hrun]) ?_
      refine hK.out _ _ ⟨(blk_cell ADb.out.box 0).trans rfl, (blk_cell ADb.out.box 1).trans rfl⟩ (fun hHeld2 => ?_)
      clear hK K hHeld2 hrun
      refine norm_ (a' := ?_) ?_ ?_
      rotate_left
      ·show Act.put _ (some 37) _ = _
       simp only [Act.put, sI_, s0_, s1_, i64_w, i32_w]
       rfl
      refine one_ (i := 6) (N := some 40) (m_ 10 127) rfl rfl (by kernel_rfl) (by decide) (fun K hK => ?_)
      refine value_ (w1 := wb.alloc (.cells #[.int .i64 c.f0, .int .i64 c.f1] 26)) (v := .slice (some ⟨wb.heap.size, 0, none⟩) 1 1) (by rfl) rfl (by (go_simp; done)) ?_
      have h_ := ADb.out.alloc26
      obtain ⟨g40, hg40⟩ : ∃ g, g = wb.heap.size := ⟨_, rfl⟩
      rw [← hg40] at h_ ⊢
      generalize wb.alloc (.cells #[.int .i64 c.f0, .int .i64 c.f1] 26) = wc at h_ ⊢
      have ADc := A_.mk h_
      clear hg40 h_
      refine hK.out _ _ ⟨(blk_cell ADc.out.box 0).trans rfl, (blk_cell ADc.out.box 1).trans rfl⟩ (fun hHeld2 => ?_)
      clear hK K hHeld2
      refine norm_ (a' := ?_) ?_ ?_
      rotate_left
      ·show Act.put _ (some 40) _ = _
       simp only [Act.put, sI_, s0_, s1_, i64_w, i32_w]
       rfl
      exact hc (g36, v37, g40) _ ADc.out
     ·refine value_ (w1 := wa.alloc (.cells #[.int .i64 c.f0, .int .i64 c.f1] 26)) (v := .slice (some ⟨wa.heap.size, 0, none⟩) 1 1) (by rfl) rfl (by (go_simp; done)) ?_
      have h_ := ADa.out.alloc26
      obtain ⟨g40, hg40⟩ : ∃ g, g = wa.heap.size := ⟨_, rfl⟩
      rw [← hg40] at h_ ⊢
      generalize wa.alloc (.cells #[.int .i64 c.f0, .int .i64 c.f1] 26) = wb at h_ ⊢
      have ADb := A_.mk h_
      clear hg40 h_
      refine hK.out _ _ ⟨(blk_cell ADb.out.box 0).trans rfl, (blk_cell ADb.out.box 1).trans rfl⟩ (fun hHeld2 => ?_)
      clear hK K hHeld2
      refine norm_ (a' := ?_) ?_ ?_
      rotate_left
      ·show Act.put _ (some 40) _ = _
       simp only [Act.put, sI_, s0_, s1_, i64_w, i32_w]
       rfl
      refine one_ (i := 3) (N := some 37) (m_ 10 127) rfl rfl (by kernel_rfl) (by decide) (fun K hK => ?_)
      obtain ⟨v37, wc, hrun, h_⟩ := ADb.out.append HL.out
      have ADc := A_.mk h_
      clear h_
      refine value_ (w1 := wc) (v := v37) (by rfl) rfl (by unfold execOp; simp only [resolve, invoke, builtin, Sem.run_bind, Sem.run_pure, Result.andThen_ok, List.map_toArray, List.map_cons, List.map_nil]; simp [Act.eval, hrun]) ?_
      refine hK.out _ _ ⟨(blk_cell ADc.out.box 0).trans rfl, (blk_cell ADc.out.box 1).trans rfl⟩ (fun hHeld2 => ?_)
      clear hK K hHeld2 hrun
      refine norm_ (a' := ?_) ?_ ?_
      rotate_left
      ·show Act.put _ (some 37) _ = _
       simp only [Act.put, sI_, s0_, s1_, i64_w, i32_w]
       rfl
      exact hc (g36, v37, g40) _ ADc.out
    ·refine value_ (w1 := wd.alloc (.cells #[.int .i64 c.f0, .int .i64 c.f1] 26)) (v := .slice (some ⟨wd.heap.size, 0, none⟩) 1 1) (by rfl) rfl (by (go_simp; done)) ?_
     have h_ := AD.out.alloc26
     obtain ⟨g40, hg40⟩ : ∃ g, g = wd.heap.size := ⟨_, rfl⟩
     rw [← hg40] at h_ ⊢
     generalize wd.alloc (.cells #[.int .i64 c.f0, .int .i64 c.f1] 26) = wa at h_ ⊢
     have ADa := A_.mk h_
     clear hg40 h_
     refine hK.out _ _ ⟨(blk_cell ADa.out.box 0).trans rfl, (blk_cell ADa.out.box 1).trans rfl⟩ (fun hHeld2 => ?_)
     clear hK K hHeld2
     refine norm_ (a' := ?_) ?_ ?_
     rotate_left
     ·show Act.put _ (some 40) _ = _
      simp only [Act.put, sI_, s0_, s1_, i64_w, i32_w]
      rfl
     refine one_ (i := 2) (N := some 36) (m_ 10 119) rfl rfl (by kernel_rfl) (by decide) (fun K hK => ?_)
     refine value_ (w1 := wa.alloc (.cells #[.slice As s.length cs] 22)) (v := .slice (some ⟨wa.heap.size, 0, none⟩) 1 1) (by rfl) rfl (by (go_simp; done)) ?_
     have h_ := ADa.out.alloc22
     obtain ⟨g36, hg36⟩ : ∃ g, g = wa.heap.size := ⟨_, rfl⟩
     rw [← hg36] at h_ ⊢
     generalize wa.alloc (.cells #[.slice As s.length cs] 22) = wb at h_ ⊢
     have ADb := A_.mk h_
     clear hg36 h_
     refine hK.out _ _ ⟨(blk_cell ADb.out.box 0).trans rfl, (blk_cell ADb.out.box 1).trans rfl⟩ (fun hHeld2 => ?_)
     clear hK K hHeld2
     refine norm_ (a' := ?_) ?_ ?_
     rotate_left
     ·show Act.put _ (some 36) _ = _
      simp only [Act.put, sI_, s0_, s1_, i64_w, i32_w]
      rfl
     refine one_ (i := 3) (N := some 37) (m_ 10 127) rfl rfl (by kernel_rfl) (by decide) (fun K hK => ?_)
     obtain ⟨v37, wc, hrun, h_⟩ := ADb.out.append HL.out
     have ADc := A_.mk h_
     clear h_
     refine value_ (w1 := wc) (v := v37) (by rfl) rfl (by unfold execOp; simp only [resolve, invoke, builtin, Sem.run_bind, Sem.run_pure, Result.andThen_ok, List.map_toArray, List.map_cons, List.map_nil]; simp [Act.eval, hrun]) ?_
     refine hK.out _ _ ⟨(blk_cell ADc.out.box 0).trans rfl, (blk_cell ADc.out.box 1).trans rfl⟩ (fun hHeld2 => ?_)
     clear hK K hHeld2 hrun
     refine norm_ (a' := ?_) ?_ ?_
     rotate_left
     ·show Act.put _ (some 37) _ = _
      simp only [Act.put, sI_, s0_, s1_, i64_w, i32_w]
      rfl
     exact hc (g36, v37, g40) _ ADc.out
   rintro ⟨g36, v37, g40⟩ we hF
   have AE := A_.mk hF
   clear hF AD
   simp only [putAll, Act.put, sI_, s0_, s1_]
   refine last_ (i := 7) (N := some 41) (m_ 10 255) rfl rfl (by kernel_rfl) (by decide) (fun K hK => ?_)
   obtain ⟨v41, wf, hrun, hr, hb, hg, hat⟩ := app_run k26 (w0 := w0) w0.heap.size 47 47 (.agg #[(.int .i64 0), (.int .i64 0)]) 16 Tryd.underlying47 info26 rfl (by decide) (by omega) (.slice AC C.length cC) C c [.int .i64 c.f0, .int .i64 c.f1] (fun _ => True) (fun _ => False) g40 (AE.out.b40 g40 rfl) (k26_mkM we _ _ c) (fun _ h => h.elim) (fun _ _ => trivial) AE.out.ch AE.out.bel AE.out.size (by have := HL.out; have := HLC.out; omega)
   refine value_ (w1 := wf) (v := v41) (by rfl) rfl (by unfold execOp; simp only [resolve, invoke, builtin, Sem.run_bind, Sem.run_pure, Result.andThen_ok, List.map_toArray, List.map_cons, List.map_nil]; simp [Act.eval, hrun]) ?_
   have R9 := A_.mk hr
   have B9 := A_.mk hb
   have S9 := A_.mk (Kd.R_over (AE.out.new v37 rfl).1 AE.out.ch (by decide) hg)
   have hsz := AE.out.kept.1
   have K9 := A_.mk (Kept.of_grown (S := fun k => some k = (Value.slice AS S.length cS).ownBlock ∨ some k = (Value.slice AC C.length cC).ownBlock) hg (AE.out.kept.mono (fun k hk => .inl hk)) (fun k hk => .inl (.inr hk.symm)))
   have N9 := A_.mk (show ∀ k, some k = v41.ownBlock → some k = (Value.slice AC C.length cC).ownBlock ∨ w.heap.size ≤ k from fun k hk => by
    rcases hat with e | ⟨b, e, hb⟩
    ·exact .inl (by rw [hk, e])
    ·rw [e] at hk
     injection hk with hk
     exact .inr (by omega))
   refine hK.out _ _ ?_
   clear hK K hrun hr hb hg hat hsz
   refine norm_ (a' := ?_) ?_ ?_
   rotate_left
   ·show Act.put _ (some 41) _ = _
    simp only [Act.put, sI_, s0_, s1_, i64_w, i32_w]
    rfl
   refine pure_ (i := 8) (N := some 8) (v := ?_) (a' := ?_) (m_ 10 511) rfl rfl (by kernel_rfl) (fun _ _ _ h => h) (Or.inl ⟨by rfl, ?_⟩) ?_ ?_
   rotate_left
   ·intro w'
    go_simp
    with_reducible rfl
   rotate_left
   ·simp only [Act.put, sI_, s0_, s1_, i64_w, i32_w]
    rfl
   refine pure_ (i := 9) (N := some 9) (v := ?_) (a' := ?_) (m_ 10 1023) rfl rfl (by kernel_rfl) (fun _ _ _ h => h) (Or.inl ⟨by rfl, ?_⟩) ?_ ?_
   rotate_left
   ·intro w'
    go_simp
    with_reducible rfl
   rotate_left
   ·simp only [Act.put, sI_, s0_, s1_, i64_w, i32_w]
    rfl
   refine done_ (by kernel_rfl) ?_
   go_wp2
   go_ret2
   exact ⟨_, _, rfl, S9.out, R9.out, B9.out, K9.out, (AE.out.new v37 rfl).2, N9.out⟩
/-- l4Sets, its innermost step: two sets, one to each side of seat kk, make one. -/
def pairF (k : Nat) (kk n : Int) (x : List Int) (a : S26) (y : List Int) (b : S26) (st : List (List Int) × List S26) : Option (List (List Int) × List S26) :=
 if x.length ≤ 1000 ∧ y.length ≤ 1000 ∧ st.1.length ≤ 1000000 ∧ st.1.length = st.2.length then
  (spec_l2Times.f k a.f0 a.f1 b.f0 b.f1).bind fun t => (spec_l2Times.f k t.1 t.2 1 n).bind fun u => addF k ((x ++ [kk]) ++ y.map (fun z => wrap64 (wrap64 (kk + 2) + z))) ⟨u.1, u.2⟩ st.1 st.2
 else none
/-- .. over the sets to the right .. -/
def rowF (k : Nat) (kk n : Int) (x : List Int) (a : S26) : List (List Int) → List S26 → List (List Int) × List S26 → Option (List (List Int) × List S26)
 | [], _, st => some st
 | y :: ys, b :: bs, st => (pairF k kk n x a y b st).bind fun st' => rowF k kk n x a ys bs st'
 | _ :: _, [], _ => none
/-- .. and over those to the left .. -/
def allF (k : Nat) (kk n : Int) (R : List (List Int)) (B : List S26) : List (List Int) → List S26 → List (List Int) × List S26 → Option (List (List Int) × List S26)
 | [], _, st => some st
 | x :: xs, a :: as_, st => (rowF k kk n x a R B st).bind fun st' => allF k kk n R B xs as_ st'
 | _ :: _, [], _ => none
/-- .. and over the seats. -/
def loopF (g : Int → Option (List (List Int) × List S26)) (k : Nat) (n : Int) : Nat → Int → List (List Int) × List S26 → Option (List (List Int) × List S26)
 | 0, _, st => some st
 | m + 1, kk, st => (g (wrap64 (kk - 1))).bind fun l => (g (wrap64 (wrap64 (n - kk) - 2))).bind fun r => if l.1.length ≤ 1000000 ∧ r.1.length ≤ 1000000 then (allF k kk n r.1 r.2 l.1 l.2 st).bind fun st' => loopF g k n m (kk + 1) st' else none
def setF (k : Nat) : Nat → Int → Option (List (List Int) × List S26)
 | 0, _ => none
 | d + 1, n => if n ≤ 0 then some ([[]], [⟨1, 1⟩]) else if n ≤ 1000 then loopF (setF k d) k n n.toNat 0 ([], []) else none
/-- A list of sets and one of their chances, made since w0. -/
structure Sx (w0 w : World) (vS vC : Value) (st : List (List Int) × List S26) : Prop where
 bel : Below w0.heap.size w0 w
 sets : Kd.R (Kd.slice 3 (Kd.int .i64)) 22 w w0.heap.size (fun _ => True) vS st.1
 ch : Kd.R k26 26 w w0.heap.size (fun _ => True) vC st.2
theorem Sx.size {w0 w : World} {vS vC : Value} {st : List (List Int) × List S26} (h : Sx w0 w vS vC st) : w0.heap.size ≤ w.heap.size := below_size h.bel
theorem Sx.step {w0 w w1 : World} {vS vC : Value} {st : List (List Int) × List S26} (h : Sx w0 w vS vC st) (hb : Below w.heap.size w w1) : Sx w0 w1 vS vC st := ⟨below_step h.bel hb, Kd.R_below h.sets hb, Kd.R_below h.ch hb⟩
theorem rowF_len {k : Nat} {kk n : Int} {x : List Int} {a : S26} {y : List Int} {ys : List (List Int)} {B : List S26} {st r : List (List Int) × List S26} (h : rowF k kk n x a (y :: ys) B st = some r) : ∃ b bs st', B = b :: bs ∧ pairF k kk n x a y b st = some st' ∧ rowF k kk n x a ys bs st' = some r := by
 cases B with
 | nil => simp [rowF] at h
 | cons b bs =>
  simp only [rowF] at h
  obtain ⟨st', h1, h2⟩ := Option.bind_eq_some_iff.mp h
  exact ⟨b, bs, st', rfl, h1, h2⟩
theorem allF_len {k : Nat} {kk n : Int} {R : List (List Int)} {B : List S26} {y : List Int} {ys : List (List Int)} {A : List S26} {st r : List (List Int) × List S26} (h : allF k kk n R B (y :: ys) A st = some r) : ∃ a as_ st', A = a :: as_ ∧ rowF k kk n y a R B st = some st' ∧ allF k kk n R B ys as_ st' = some r := by
 cases A with
 | nil => simp [allF] at h
 | cons b bs =>
  simp only [allF] at h
  obtain ⟨st', h1, h2⟩ := Option.bind_eq_some_iff.mp h
  exact ⟨b, bs, st', rfl, h1, h2⟩

theorem sets_calls (k : Nat) : ∀ (d : Nat) (n : Int) (r : List (List Int) × List S26) (w : World), setF k d n = some r →
  Calls Tryd.prog 51 #[.int .i64 n] w fun e w' => ∃ vS vC : Value, e = .returned (.tuple #[vS, vC]) ∧ Sx w w' vS vC r := by
 intro d
 induction d with
 | zero => intro n r w h; simp [setF] at h
 | succ d ih =>
 intro n r w h
 simp only [setF] at h
 have HB := A_.mk (Below.refl w.heap.size w)
 by_cases hn : n ≤ 0
 ·rw [if_pos hn] at h
  obtain rfl := Option.some.inj h
  have c1 : decide (n ≤ 0) = true := decide_eq_true hn
  clear h hn
  go_enter Tryd.func51, Tryd.ntmps51
  go_wp2_with (first
   | ((with_reducible refine gate_dst (N := 17) rfl ?_); refine Kd.R_lit (Kd.int .i64) w.heap.size 3 ?hg (N := 17) ?hd (xs := ([] : List Int)) (inner := []) (ok := fun _ => True) (okp := fun _ => True) ?hr ?hp (fun _ hk => hk) trivial HB.out (Nat.le_refl _) (by simp) ?_; (case hd => rfl); (case hg => rfl); (case hr => (go_simp; done)); (case hp => exact Reps.none _ _); intro v1 w1 hr hb hg hnew; obtain ⟨A1, d1, e1⟩ := Kd.R_slice hr; subst e1; have R1 := A_.mk hr; have B1 := A_.mk hb; clear hr hb hg hnew)
   | ((with_reducible refine gate_dst (N := 18) rfl ?_); refine Kd.R_lit (Kd.slice 3 (Kd.int .i64)) w.heap.size 22 ?hg (N := 18) ?hd (xs := ([[]] : List (List Int))) (inner := [.slice A1 ([] : List Int).length d1]) (ok := fun _ => True) (okp := fun _ => True) ?hr ?hp (fun _ hk => hk) trivial B1.out (below_size B1.out) (by simp) ?_; (case hd => rfl); (case hg => rfl); (case hr => (go_simp; done)); (case hp => exact Reps.snoc (Reps.none _ _) (Kd.M_row R1.out) rfl); intro v2 w2 hr hb hg hnew; obtain ⟨A2, d2, e2⟩ := Kd.R_slice hr; subst e2; have R2 := A_.mk hr; have B2 := A_.mk hb; clear hr hb hg hnew)
   | ((with_reducible refine gate_dst (N := 20) rfl ?_); refine Kd.R_lit k26 w.heap.size 26 ?hg (N := 20) ?hd (xs := ([⟨1, 1⟩] : List S26)) (inner := [.int .i64 1, .int .i64 1]) (ok := fun _ => True) (okp := fun _ => True) ?hr ?hp (fun _ hk => hk) trivial B2.out (below_size B2.out) (by simp) ?_; (case hd => rfl); (case hg => rfl); (case hr => (go_simp; done)); (case hp => exact Reps.snoc (Reps.none _ _) (k26_mkM _ _ _ ⟨1, 1⟩) rfl); intro v3 w3 hr hb hg hnew; obtain ⟨A3, d3, e3⟩ := Kd.R_slice hr; subst e3; have R3 := A_.mk hr; have B3 := A_.mk hb; have R4 := A_.mk (Kd.R_step R2.out (fun k _ hk => hg.block k hk (by simp))); clear hr hb hg hnew))
  go_ret2
  exact ⟨_, _, rfl, B3.out, R4.out, R3.out⟩
 rw [if_neg hn] at h
 have h1000 : n ≤ 1000 := by
  by_cases hc : n ≤ 1000
  ·exact hc
  ·rw [if_neg hc] at h; simp at h
 rw [if_pos h1000] at h
 obtain ⟨N, rfl⟩ : ∃ N : Nat, n = N := ⟨n.toNat, by omega⟩
 rw [Int.toNat_natCast] at h
 have c1 : decide ((N : Int) ≤ 0) = false := decide_eq_false hn
 have c2 : (N = 0) = False := eq_false (by omega)
 have c3 : decide (N = 0) = false := decide_eq_false (by omega)
 have c4 : (N ≤ 0) = False := eq_false (by omega)
 have HI := A_.mk ih
 have HN := A_.mk (show 0 < N ∧ N ≤ 1000 by omega)
 have HL := A_.mk h
 clear ih h hn h1000
 go_enter Tryd.func51, Tryd.ntmps51
 go_wp2_with (first
  | ((with_reducible refine gate_dst (N := 21) rfl ?_); refine Kd.R_lit (Kd.slice 3 (Kd.int .i64)) w.heap.size 22 ?hg (N := 21) ?hd (xs := ([] : List (List Int))) (inner := []) (ok := fun _ => True) (okp := fun _ => True) ?hr ?hp (fun _ hk => hk) trivial HB.out (Nat.le_refl _) (by simp) ?_; (case hd => rfl); (case hg => rfl); (case hr => (go_simp; done)); (case hp => exact Reps.none _ _); intro v2 w2 hr hb hg hnew; have R2 := A_.mk hr; have B2 := A_.mk hb; clear hr hb hg hnew)
  | ((with_reducible refine gate_dst (N := 22) rfl ?_); refine Kd.R_lit k26 w.heap.size 26 ?hg (N := 22) ?hd (xs := ([] : List S26)) (inner := []) (ok := fun _ => True) (okp := fun _ => True) ?hr ?hp (fun _ hk => hk) trivial B2.out (below_size B2.out) (by simp) ?_; (case hd => rfl); (case hg => rfl); (case hr => (go_simp; done)); (case hp => exact Reps.none _ _); intro v3 w3 hr hb hg hnew; have R3 := A_.mk hr; have B3 := A_.mk hb; have R4 := A_.mk (Kd.R_step R2.out (fun k _ hk => hg.block k hk (by simp))); clear hr hb hg hnew))
 have SX := A_.mk (show Sx w w3 v2 v3 ([], []) from ⟨B3.out, R4.out, R3.out⟩)
 clear R2 R3 R4 B2 B3 c1 c2 c3 c4
 go_loopg [4, 5, 6] (N + 1) (fun kq v4 v5 v6 w' => ∃ (kk : Nat) (st : List (List Int) × List S26), v6 = .int .i64 (kk : Int) ∧ A_ (kk + kq = N + 1) ∧ A_ (kk ≤ N) ∧ A_ (loopF (setF k d) k (N : Int) (N - kk) (kk : Int) st = some r) ∧ A_ (Sx w w' v4 v5 st))
 case atStart => exact ⟨0, ([], []), rfl, ⟨by omega⟩, ⟨by omega⟩, HL, SX⟩
 case round =>
  clear SX HL
  rename World => wo
  obtain ⟨kk, st, rfl, hkk, hkN, HL, SX⟩ := hrel
  cases gk with
  | zero => have := hkk.out; have := hkN.out; omega
  | succ k1 =>
  by_cases hlt : kk < N
  ·have c5 : decide (kk < N) = true := decide_eq_true hlt
   have hL := HL.out
   rw [show N - kk = (N - (kk + 1)) + 1 by omega] at hL
   simp only [loopF] at hL
   obtain ⟨l, hl, hL⟩ := Option.bind_eq_some_iff.mp hL
   obtain ⟨rr, hr, hL⟩ := Option.bind_eq_some_iff.mp hL
   have hLR : l.1.length ≤ 1000000 ∧ rr.1.length ≤ 1000000 := by
    by_cases hc : l.1.length ≤ 1000000 ∧ rr.1.length ≤ 1000000
    ·exact hc
    ·rw [if_neg hc] at hL; simp at hL
   rw [if_pos hLR] at hL
   have HLR := A_.mk hLR
   clear hLR
   obtain ⟨st2, hst, hL⟩ := Option.bind_eq_some_iff.mp hL
   have Hl := A_.mk hl
   have Hr := A_.mk hr
   have Hst := A_.mk hst
   have HL2 := A_.mk hL
   clear hl hr hst hL HL
   obtain ⟨A4, d4, e4⟩ := Kd.R_slice SX.out.sets
   subst e4
   obtain ⟨A5, d5, e5⟩ := Kd.R_slice SX.out.ch
   subst e5
   go_upto_region 9 with (first
    | (go_at_call 51; (with_reducible refine (HI.out (wrap64 ((kk : Int) - 1)) l wo Hl.out).mono ?_); rintro e w1 ⟨vL, vF, rfl, hX⟩; have XL := A_.mk hX; clear hX)
    | (go_at_call 51; (with_reducible refine (HI.out (wrap64 (wrap64 ((N : Int) - (kk : Int)) - 2)) rr w1 Hr.out).mono ?_); rintro e w2 ⟨vR, vG, rfl, hX⟩; have XR := A_.mk hX; clear hX))
   have XL2 := XL.out.step XR.out.bel
   have SX2 := A_.mk ((SX.out.step XL.out.bel).step XR.out.bel)
   have h4 := Kd.R_lt SX.out.sets
   have h5 := Kd.R_lt SX.out.ch
   have hw1 := XL.out.size
   obtain ⟨Z, hZ⟩ : ∃ Z : Nat → Prop, Z = (fun k => some k = (Value.slice A4 st.1.length d4).ownBlock ∨ some k = (Value.slice A5 st.2.length d5).ownBlock) := ⟨_, rfl⟩
   have rdL := A_.mk (show ∀ w', Kept w2 w' Z → Kd.R (Kd.slice 3 (Kd.int .i64)) 22 w' 0 (fun _ => True) vL l.1 ∧ Kd.R k26 26 w' 0 (fun _ => True) vF l.2 from fun w' hk => by
    subst hZ
    exact ⟨Kd.R_mono (Kd.R_kept (Kd.R_lower (Kd.R_new' (Kd.R_new' XL2.sets h4) h5) (Nat.zero_le _)) hk (fun k hk => by rintro (e | e); exact hk.1.2 e; exact hk.2 e)) (fun _ _ => trivial), Kd.R_mono (Kd.R_kept (Kd.R_lower (Kd.R_new' (Kd.R_new' XL2.ch h4) h5) (Nat.zero_le _)) hk (fun k hk => by rintro (e | e); exact hk.1.2 e; exact hk.2 e)) (fun _ _ => trivial)⟩)
   have rdR := A_.mk (show ∀ w', Kept w2 w' Z → Kd.R (Kd.slice 3 (Kd.int .i64)) 22 w' 0 (fun _ => True) vR rr.1 ∧ Kd.R k26 26 w' 0 (fun _ => True) vG rr.2 from fun w' hk => by
    subst hZ
    have h4' : ∀ k, (Value.slice A4 st.1.length d4).ownBlock = some k → k < w1.heap.size := fun k hk => Nat.lt_of_lt_of_le (h4 k hk) hw1
    have h5' : ∀ k, (Value.slice A5 st.2.length d5).ownBlock = some k → k < w1.heap.size := fun k hk => Nat.lt_of_lt_of_le (h5 k hk) hw1
    exact ⟨Kd.R_mono (Kd.R_kept (Kd.R_lower (Kd.R_new' (Kd.R_new' XR.out.sets h4') h5') (Nat.zero_le _)) hk (fun k hk => by rintro (e | e); exact hk.1.2 e; exact hk.2 e)) (fun _ _ => trivial), Kd.R_mono (Kd.R_kept (Kd.R_lower (Kd.R_new' (Kd.R_new' XR.out.ch h4') h5') (Nat.zero_le _)) hk (fun k hk => by rintro (e | e); exact hk.1.2 e; exact hk.2 e)) (fun _ _ => trivial)⟩)
   have KZ := A_.mk (Kept.refl w2 Z)
   have Z4 := A_.mk (show ∀ k, some k = (Value.slice A4 st.1.length d4).ownBlock → Z k ∨ w2.heap.size ≤ k from fun k hk => .inl (by subst hZ; exact .inl hk))
   have Z5 := A_.mk (show ∀ k, some k = (Value.slice A5 st.2.length d5).ownBlock → Z k ∨ w2.heap.size ≤ k from fun k hk => .inl (by subst hZ; exact .inr hk))
   obtain ⟨AL, dL, eL⟩ := Kd.R_slice (rdL.out w2 KZ.out).1
   subst eL
   obtain ⟨AF, dF, eF⟩ := Kd.R_slice (rdL.out w2 KZ.out).2
   subst eF
   obtain ⟨AR, dR, eR⟩ := Kd.R_slice (rdR.out w2 KZ.out).1
   subst eR
   obtain ⟨AG, dG, eG⟩ := Kd.R_slice (rdR.out w2 KZ.out).2
   subst eG
   clear XL2 h4 h5 hw1 hZ XL XR SX
   go_wp2
   go_loopg [4, 5, 11] (l.1.length + 1) (fun kq v4 v5 v11 w' => ∃ (i : Nat) (sti : List (List Int) × List S26), v11 = .int .i64 (i : Int) ∧ A_ (i + kq = l.1.length + 1) ∧ A_ (i ≤ l.1.length) ∧ A_ (allF k (kk : Int) (N : Int) rr.1 rr.2 (l.1.drop i) (l.2.drop i) sti = some st2) ∧ A_ (Sx w w' v4 v5 sti) ∧ A_ (Kept w2 w' Z) ∧ A_ (∀ k, some k = v4.ownBlock → Z k ∨ w2.heap.size ≤ k) ∧ A_ (∀ k, some k = v5.ownBlock → Z k ∨ w2.heap.size ≤ k))
   case atStart => exact ⟨0, st, rfl, ⟨by omega⟩, ⟨by omega⟩, Hst, SX2, KZ, Z4, Z5⟩
   case round =>
    clear SX2 KZ Z4 Z5 Hst
    obtain ⟨i, sti, rfl, hik, hil, HA, SXi, KZi, Z4i, Z5i⟩ := hrel
    rename World => wi
    obtain ⟨ki, hki⟩ : ∃ ki, ki = gk := ⟨_, rfl⟩
    subst hki
    by_cases hli : i < l.1.length
    ·have c6 : decide (i < l.1.length) = true := decide_eq_true hli
     have hA := HA.out
     rw [List.drop_eq_getElem_cons hli] at hA
     obtain ⟨a, as_, sti2, hd, hrow, hA⟩ := allF_len hA
     obtain ⟨x, hx⟩ : ∃ x, l.1[i] = x := ⟨_, rfl⟩
     have hgx : l.1[i]? = some x := by rw [← hx]; simp [hli]
     have hga : l.2[i]? = some a := by have h := congrArg List.head? hd; simpa using h
     have hta : l.2.drop (i + 1) = as_ := by have h := congrArg List.tail hd; simpa using h
     have hla : i < l.2.length := by have h := (List.getElem?_eq_some_iff.1 hga).1; exact h
     rw [hx] at hrow
     rw [← hta] at hA
     have HA2 := A_.mk hA
     have HRW := A_.mk hrow
     have Hgx := A_.mk hgx
     have Hga := A_.mk hga
     have Hla := A_.mk hla
     clear hA hd hrow hx hgx hga hta HA
     obtain ⟨gL, qL, ev, -, -, -⟩ := Kd.R_form (rdL.out wi KZi.out).1 (by omega)
     injection ev with ev1 ev2 ev3
     subst ev1
     clear ev2 ev3
     obtain ⟨gF, qF, ev, -, -, -⟩ := Kd.R_form (rdL.out wi KZi.out).2 (by omega)
     injection ev with ev1 ev2 ev3
     subst ev1
     clear ev2 ev3
     go_wp2
     go_loopg [4, 5, 12] (rr.1.length + 1) (fun kq v4 v5 v12 w' => ∃ (j : Nat) (stj : List (List Int) × List S26), v12 = .int .i64 (j : Int) ∧ A_ (j + kq = rr.1.length + 1) ∧ A_ (j ≤ rr.1.length) ∧ A_ (rowF k (kk : Int) (N : Int) x a (rr.1.drop j) (rr.2.drop j) stj = some sti2) ∧ A_ (Sx w w' v4 v5 stj) ∧ A_ (Kept w2 w' Z) ∧ A_ (∀ k, some k = v4.ownBlock → Z k ∨ w2.heap.size ≤ k) ∧ A_ (∀ k, some k = v5.ownBlock → Z k ∨ w2.heap.size ≤ k))
     case atStart => exact ⟨0, sti, rfl, ⟨by omega⟩, ⟨by omega⟩, HRW, SXi, KZi, Z4i, Z5i⟩
     case round =>
      clear SXi KZi Z4i Z5i HRW
      obtain ⟨j, stj, rfl, hjk, hjl, HRW, SXj, KZj, Z4j, Z5j⟩ := hrel
      rename World => wj
      obtain ⟨kj, hkj⟩ : ∃ kj, kj = gk := ⟨_, rfl⟩
      subst hkj
      by_cases hlj : j < rr.1.length
      ·have c7 : decide (j < rr.1.length) = true := decide_eq_true hlj
       have hR := HRW.out
       rw [List.drop_eq_getElem_cons hlj] at hR
       obtain ⟨b, bs, stj2, hd, hpair, hR⟩ := rowF_len hR
       obtain ⟨y, hy⟩ : ∃ y, rr.1[j] = y := ⟨_, rfl⟩
       have hgy : rr.1[j]? = some y := by rw [← hy]; simp [hlj]
       have hgb : rr.2[j]? = some b := by have h := congrArg List.head? hd; simpa using h
       have htb : rr.2.drop (j + 1) = bs := by have h := congrArg List.tail hd; simpa using h
       have hlb : j < rr.2.length := (List.getElem?_eq_some_iff.1 hgb).1
       rw [hy] at hpair
       rw [← htb] at hR
       unfold pairF at hpair
       by_cases hc : x.length ≤ 1000 ∧ y.length ≤ 1000 ∧ stj.1.length ≤ 1000000 ∧ stj.1.length = stj.2.length
       ·rw [if_pos hc] at hpair
        obtain ⟨t, ht, hpair⟩ := Option.bind_eq_some_iff.mp hpair
        obtain ⟨u, hu, hpair⟩ := Option.bind_eq_some_iff.mp hpair
        have HR2 := A_.mk hR
        have Hgy := A_.mk hgy
        have Hgb := A_.mk hgb
        have Hlb := A_.mk hlb
        have Hc := A_.mk hc
        have Ht := A_.mk ht
        have Hu := A_.mk hu
        have HP := A_.mk hpair
        clear hR hd hpair hy hgy hgb htb hc ht hu HRW
        obtain ⟨gR, qR, ev, -, -, -⟩ := Kd.R_form (rdR.out wj KZj.out).1 (by omega)
        injection ev with ev1 ev2 ev3
        subst ev1
        clear ev2 ev3
        obtain ⟨gG, qG, ev, -, -, -⟩ := Kd.R_form (rdR.out wj KZj.out).2 (by omega)
        injection ev with ev1 ev2 ev3
        subst ev1
        clear ev2 ev3
        obtain ⟨Ax, cx, hcx, hxl, hCx⟩ := cellL (rdL.out wj KZj.out).1 i hli Hgx.out
        have HXL := A_.mk hxl
        have HCX := A_.mk hCx
        have HBj := A_.mk (Below.refl wj.heap.size wj)
        have hown : spec_l1Own.f x = some x := by
         unfold spec_l1Own.f
         simp only [Option.bind_some]
         rw [if_pos (by have := Hc.out.1; simp; omega)]
         simp
        have HOW := A_.mk hown
        clear hxl hCx hown
        go_upto_region 16 with (first
         | (go_at_call 53; (with_reducible refine (spec_l1Own.calls Ax cx x x wj HCX.out HXL.out HOW.out).mono ?_); rintro e w3 ⟨v3, rfl, hr, hb⟩; have R3 := A_.mk hr; have B3 := A_.mk hb; clear hr hb)
         | ((with_reducible refine gate_builtin (b := .append) (xs := #[.tmp 58, .tmp 60]) rfl ?_); at_builtin; refine Kd.R_append (Kd.int .i64) (w0 := wj) wj.heap.size rfl (.tmp 58) (.tmp 60) 22 3 (.int .i64 0) 8 rfl Tryd.underlying22 info3 rfl (by decide) (by omega) v3 x (kk : Int) [.int .i64 (kk : Int)] (fun _ => True) (fun _ => False) rfl rfl rfl (fun _ hk => hk.elim) (fun _ _ => trivial) R3.out B3.out (below_size B3.out) (by have := Hc.out.1; omega) ?_; intro v4 w4 ho hb hg hat; have R4 := A_.mk ho; have B4 := A_.mk hb; clear ho hb hg hat R3 B3))
        clear hcx HCX HXL HBj HOW
        go_wp2
        go_loopg [13, 14] (y.length + 1) (fun kq v13 v14 w' => ∃ (m : Nat), v14 = .int .i64 (m : Int) ∧ A_ (m + kq = y.length + 1) ∧ A_ (m ≤ y.length) ∧ A_ (Kd.R (Kd.int .i64) 3 w' wj.heap.size (fun _ => True) v13 ((x ++ [(kk : Int)]) ++ (y.take m).map (fun z => wrap64 (wrap64 ((kk : Int) + 2) + z)))) ∧ A_ (Below wj.heap.size wj w'))
        case atStart => exact ⟨0, rfl, ⟨by omega⟩, ⟨by omega⟩, ⟨by have h := R4.out; simpa using h⟩, B4⟩
        case round =>
         clear R4 B4
         obtain ⟨m, rfl, hmk, hml, RM, BM⟩ := hrel
         rename World => wm
         obtain ⟨km, hkm⟩ : ∃ km, km = gk := ⟨_, rfl⟩
         subst hkm
         have KM := A_.mk (KZj.out.below BM.out)
         obtain ⟨Ay, cy, hcy, hyl, hCy⟩ := cellL (rdR.out wm KM.out).1 j hlj Hgy.out
         by_cases hlm : m < y.length
         ·have c8 : decide (m < y.length) = true := decide_eq_true hlm
          obtain ⟨ad, e, hcell⟩ := Kd.at_int hCy (m : Int) (by omega) (by omega)
          cases e
          rw [Int.toNat_natCast] at hcell
          obtain ⟨z, hz⟩ : ∃ z, y[m] = z := ⟨_, rfl⟩
          have hrd : rd y (m : Int) = z := by rw [← hz]; simp [rd, List.getD, hlm]
          rw [hrd] at hcell
          have htz : (y.take m).map (fun z => wrap64 (wrap64 ((kk : Int) + 2) + z)) ++ [wrap64 (wrap64 ((kk : Int) + 2) + z)] = (y.take (m + 1)).map (fun z => wrap64 (wrap64 ((kk : Int) + 2) + z)) := by
           rw [← hz, List.take_add_one, List.map_append]; simp [hlm]
          have Htz := A_.mk htz
          have Hyl := A_.mk hyl
          clear hz hrd htz hCy
          obtain ⟨X, hX⟩ : ∃ X : List Int, X = (x ++ [(kk : Int)]) ++ (y.take m).map (fun z => wrap64 (wrap64 ((kk : Int) + 2) + z)) := ⟨_, rfl⟩
          have RM1 := RM.out
          rw [← hX] at RM1
          have RM2 := A_.mk RM1
          have HX5 := A_.mk (show X ++ [wrap64 (wrap64 ((kk : Int) + 2) + z)] = (x ++ [(kk : Int)]) ++ (y.take (m + 1)).map (fun z => wrap64 (wrap64 ((kk : Int) + 2) + z)) by rw [hX, List.append_assoc, Htz.out])
          have HXX := A_.mk (show X.length ≤ 3000 by rw [hX]; have := Hc.out.1; have := Hc.out.2.1; simp; omega)
          clear RM1 hX RM
          go_wp2_with ((with_reducible refine gate_builtin (b := .append) (xs := #[.tmp 71, .tmp 82]) rfl ?_); at_builtin; refine Kd.R_append (Kd.int .i64) (w0 := wj) wj.heap.size rfl (.tmp 71) (.tmp 82) 22 3 (.int .i64 0) 8 rfl Tryd.underlying22 info3 rfl (by decide) (by omega) u13 X (wrap64 (wrap64 ((kk : Int) + 2) + z)) [.int .i64 (wrap64 (wrap64 ((kk : Int) + 2) + z))] (fun _ => True) (fun _ => False) rfl rfl rfl (fun _ hk => hk.elim) (fun _ _ => trivial) RM2.out BM.out (below_size BM.out) (by have := HXX.out; omega) ?_; intro v5 w5 ho hb hg hat; rw [HX5.out] at ho; have R5 := A_.mk ho; have B5 := A_.mk hb; clear ho hb hg hat)
          have hw : wrap64 ((m : Int) + 1) = ((m + 1 : Nat) : Int) := w_next (Nat.lt_of_lt_of_le hlm (Nat.le_trans Hc.out.2.1 (by decide)))
          go_roundg (km - 1)
          case measure => exact k_less hmk.out (Nat.le_of_lt hlm)
          case rel => exact ⟨m + 1, by rw [hw], ⟨k_next hmk.out hlm⟩, ⟨hlm⟩, R5, B5⟩
         ·obtain rfl : m = y.length := by have := hml.out; omega
          have c8 : decide (y.length < y.length) = false := decide_eq_false (by omega)
          have RM2 := RM.out
          rw [List.take_length] at RM2
          have RMf := A_.mk RM2
          clear RM2 RM hCy
          go_wp2
          have Bd := A_.mk (below_drew1 BM.out)
          have RMd := A_.mk (Kd.R_drew RMf.out)
          have KMd := A_.mk (Kept.drew KM.out)
          obtain ⟨t0, t1⟩ := cell26 (rdL.out _ KMd.out).2 i hla Hga.out
          obtain ⟨t2, t3⟩ := cell26 (rdR.out _ KMd.out).2 j hlb Hgb.out
          clear hcy RMf BM KM
          refine start_ (n := 21) (S := fun w' => w'.cell? ⟨gF, i * 2, none⟩ = some (.int .i64 a.f0) ∧ w'.cell? ⟨gF, i * 2 + 1, none⟩ = some (.int .i64 a.f1) ∧ w'.cell? ⟨gG, j * 2, none⟩ = some (.int .i64 b.f0) ∧ w'.cell? ⟨gG, j * 2 + 1, none⟩ = some (.int .i64 b.f1)) (ds := [15]) (m_ 21 0) (by kernel_rfl) rfl rfl ⟨t0, t1, t2, t3⟩ (fun hHeld => ?_)
          generalize wm.drew = wd at *
          refine pure_ (i := 0) (N := some 85) (v := ?_) (a' := ?_) (m_ 21 1) rfl rfl (by kernel_rfl) (fun _ _ _ h => h) (Or.inl ⟨by rfl, ?_⟩) ?_ ?_
          rotate_left
          ·intro w'
           go_simp
           with_reducible rfl
          rotate_left
          ·simp only [Act.put, sI_, s0_, s1_, i64_w, i32_w]
           rfl
          refine pure_ (i := 1) (N := some 86) (v := ?_) (a' := ?_) (m_ 21 3) rfl rfl (by kernel_rfl) (fun _ _ _ h => h) (Or.inl ⟨by rfl, ?_⟩) ?_ ?_
          rotate_left
          ·intro w'
           go_simp
           with_reducible rfl
          rotate_left
          ·simp only [Act.put, sI_, s0_, s1_, i64_w, i32_w]
           rfl
          refine pure_ (i := 2) (N := some 87) (v := ?_) (a' := ?_) (m_ 21 7) rfl rfl (by kernel_rfl) (fun _ _ _ h => h) (Or.inl ⟨by rfl, ?_⟩) ?_ ?_
          rotate_left
          ·intro w'
           go_simp
           with_reducible rfl
          rotate_left
          ·simp only [Act.put, sI_, s0_, s1_, i64_w, i32_w]
           rfl
          refine pure_ (i := 3) (N := some 88) (v := ?_) (a' := ?_) (m_ 21 15) rfl rfl (by kernel_rfl) (fun _ _ _ h => h) (Or.inl ⟨by rfl, ?_⟩) ?_ ?_
          rotate_left
          ·intro w'
           go_simp
           with_reducible rfl
          rotate_left
          ·simp only [Act.put, sI_, s0_, s1_, i64_w, i32_w]
           rfl
          refine pure_ (i := 4) (N := some 89) (v := ?_) (a' := ?_) (m_ 21 31) rfl rfl (by kernel_rfl) (fun _ _ _ h => h) (Or.inl ⟨by rfl, ?_⟩) ?_ ?_
          rotate_left
          ·intro w'
           go_simp
           with_reducible rfl
          rotate_left
          ·simp only [Act.put, sI_, s0_, s1_, i64_w, i32_w]
           rfl
          refine pure_ (i := 5) (N := some 90) (v := ?_) (a' := ?_) (m_ 21 63) rfl rfl (by kernel_rfl) (fun _ _ _ h => h) (Or.inl ⟨by rfl, ?_⟩) ?_ ?_
          rotate_left
          ·intro w'
           go_simp
           with_reducible rfl
          rotate_left
          ·simp only [Act.put, sI_, s0_, s1_, i64_w, i32_w]
           rfl
          refine pure_ (i := 7) (N := some 92) (v := ?_) (a' := ?_) (m_ 21 191) rfl rfl (by kernel_rfl) (fun _ _ _ h => h) (Or.inl ⟨by rfl, ?_⟩) ?_ ?_
          rotate_left
          ·intro w'
           go_simp
           with_reducible rfl
          rotate_left
          ·simp only [Act.put, sI_, s0_, s1_, i64_w, i32_w]
           rfl
          refine pure_ (i := 8) (N := some 93) (v := ?_) (a' := ?_) (m_ 21 447) rfl rfl (by kernel_rfl) (fun _ _ _ h => h) (Or.inl ⟨by rfl, ?_⟩) ?_ ?_
          rotate_left
          ·intro w'
           go_simp
           with_reducible rfl
          rotate_left
          ·simp only [Act.put, sI_, s0_, s1_, i64_w, i32_w]
           rfl
          refine pure_ (i := 9) (N := some 94) (v := ?_) (a' := ?_) (m_ 21 959) rfl rfl (by kernel_rfl) (fun _ _ _ h => h) (Or.inl ⟨by rfl, ?_⟩) ?_ ?_
          rotate_left
          ·intro w'
           go_simp
           with_reducible rfl
          rotate_left
          ·simp only [Act.put, sI_, s0_, s1_, i64_w, i32_w]
           rfl
          refine pure_ (i := 12) (N := some 97) (v := ?_) (a' := ?_) (m_ 21 5055) rfl rfl (by kernel_rfl) (fun _ _ _ h => h) (Or.inl ⟨by rfl, ?_⟩) ?_ ?_
          rotate_left
          ·intro w'
           go_simp
           with_reducible rfl
          rotate_left
          ·simp only [Act.put, sI_, s0_, s1_, i64_w, i32_w]
           rfl
          refine pure_ (i := 13) (N := some 98) (v := ?_) (a' := ?_) (m_ 21 13247) rfl rfl (by kernel_rfl) (fun _ _ _ h => h) (Or.inl ⟨by rfl, ?_⟩) ?_ ?_
          rotate_left
          ·intro w'
           go_simp
           with_reducible rfl
          rotate_left
          ·simp only [Act.put, sI_, s0_, s1_, i64_w, i32_w]
           rfl
          refine take_ (i := 6) (N := some 91) (v := ?_) (a' := ?_) (m_ 21 13311) rfl rfl (by kernel_rfl) (fun _ _ _ h => h) (Or.inl ⟨by rfl, ?_⟩) hHeld ?_ ?_
          rotate_left
          ·intro w' sh
           obtain ⟨s0, s1, s2, s3⟩ := sh
           go_simp
           with_reducible rfl
          rotate_left
          ·simp only [Act.put, sI_, s0_, s1_, i64_w, i32_w]
           rfl
          refine take_ (i := 10) (N := some 95) (v := ?_) (a' := ?_) (m_ 21 14335) rfl rfl (by kernel_rfl) (fun _ _ _ h => h) (Or.inl ⟨by rfl, ?_⟩) hHeld ?_ ?_
          rotate_left
          ·intro w' sh
           obtain ⟨s0, s1, s2, s3⟩ := sh
           go_simp
           with_reducible rfl
          rotate_left
          ·simp only [Act.put, sI_, s0_, s1_, i64_w, i32_w]
           rfl
          refine one_ (i := 11) (N := some 96) (m_ 21 16383) rfl rfl (by kernel_rfl) (by decide) (fun K hK => ?_)
          refine goes_ Tryd.func55 (by kernel_rfl) rfl #[.agg #[.int .i64 a.f0, .int .i64 a.f1], .agg #[.int .i64 b.f0, .int .i64 b.f1]] (by rfl) rfl rfl (by (try simp only [List.map_toArray, List.map_cons, List.map_nil]); (rfl)) ?_
          refine (spec_l2Times.calls k a.f0 a.f1 b.f0 b.f1 t.1 t.2 wd Ht.out).mono ?_
          rintro e w6 ⟨rfl, hb⟩
          refine ⟨_, rfl, ?_⟩
          have Bn := A_.mk (below_step Bd.out hb)
          have Rn := A_.mk (Kd.R_below RMd.out hb)
          have Kn := A_.mk (KMd.out.below hb)
          clear Bd RMd KMd
          have Bd := Bn
          have RMd := Rn
          have KMd := Kn
          clear Bn Rn Kn
          refine hK.out _ _ ⟨(pw_cell_below hb hHeld.1).trans rfl, (pw_cell_below hb hHeld.2.1).trans rfl, (pw_cell_below hb hHeld.2.2.1).trans rfl, (pw_cell_below hb hHeld.2.2.2).trans rfl⟩ (fun hHeld_ => ?_)
          clear hK K hHeld hb
          have hHeld := hHeld_
          clear hHeld_
          refine norm_ (a' := ?_) ?_ ?_
          rotate_left
          ·show Act.put _ (some 96) _ = _
           simp only [Act.put, sI_, s0_, s1_, i64_w, i32_w]
           rfl
          refine one_ (i := 14) (N := some 99) (m_ 21 32767) rfl rfl (by kernel_rfl) (by decide) (fun K hK => ?_)
          refine goes_ Tryd.func55 (by kernel_rfl) rfl #[.agg #[.int .i64 t.1, .int .i64 t.2], .agg #[.int .i64 1, .int .i64 (N : Int)]] (by rfl) rfl rfl (by (try simp only [List.map_toArray, List.map_cons, List.map_nil]); (rfl)) ?_
          refine (spec_l2Times.calls k t.1 t.2 1 (N : Int) u.1 u.2 w6 Hu.out).mono ?_
          rintro e w7 ⟨rfl, hb⟩
          refine ⟨_, rfl, ?_⟩
          have Bn := A_.mk (below_step Bd.out hb)
          have Rn := A_.mk (Kd.R_below RMd.out hb)
          have Kn := A_.mk (KMd.out.below hb)
          clear Bd RMd KMd
          have Bd := Bn
          have RMd := Rn
          have KMd := Kn
          clear Bn Rn Kn
          refine hK.out _ _ ⟨(pw_cell_below hb hHeld.1).trans rfl, (pw_cell_below hb hHeld.2.1).trans rfl, (pw_cell_below hb hHeld.2.2.1).trans rfl, (pw_cell_below hb hHeld.2.2.2).trans rfl⟩ (fun hHeld_ => ?_)
          clear hK K hHeld hb
          have hHeld := hHeld_
          clear hHeld_
          refine norm_ (a' := ?_) ?_ ?_
          rotate_left
          ·show Act.put _ (some 99) _ = _
           simp only [Act.put, sI_, s0_, s1_, i64_w, i32_w]
           rfl
          refine last_ (i := 15) (N := some 100) (m_ 21 65535) rfl rfl (by kernel_rfl) (by decide) (fun K hK => ?_)
          refine goes_ Tryd.func73 (by kernel_rfl) rfl #[u4, u5, u13, .agg #[.int .i64 u.1, .int .i64 u.2]] (by rfl) rfl rfl (by (try simp only [List.map_toArray, List.map_cons, List.map_nil]); (rfl)) ?_
          have hSj := SXj.out.step Bd.out
          refine (add_calls k w w7 hSj.bel u4 u5 u13 stj.1 stj.2 _ ⟨u.1, u.2⟩ stj2.1 stj2.2 hSj.sets hSj.ch (Kd.R_lower RMd.out SXj.out.size) Hc.out.2.2.1 Hc.out.2.2.2 HP.out).mono ?_
          rintro e w8 ⟨vS, vC, rfl, hr1, hr2, hb, hk, hz1, hz2⟩
          refine ⟨_, rfl, ?_⟩
          have SX8 := A_.mk (show Sx w w8 vS vC stj2 from ⟨hb, hr1, hr2⟩)
          have hsz := KMd.out.1
          have K8 := A_.mk (KMd.out.then_ hk (fun k hk => by
           rcases hk with h | h
           ·exact Z4j.out k h
           ·exact Z5j.out k h))
          have Z48 := A_.mk (show ∀ k, some k = vS.ownBlock → Z k ∨ w2.heap.size ≤ k from fun k hk => (hz1 k hk).elim (Z4j.out k) (fun h => .inr (Nat.le_trans hsz h)))
          have Z58 := A_.mk (show ∀ k, some k = vC.ownBlock → Z k ∨ w2.heap.size ≤ k from fun k hk => (hz2 k hk).elim (Z5j.out k) (fun h => .inr (Nat.le_trans hsz h)))
          refine hK.out _ _ ?_
          clear hK K hHeld hr1 hr2 hb hk hz1 hz2 hSj hsz Bd RMd KMd
          refine norm_ (a' := ?_) ?_ ?_
          rotate_left
          ·show Act.put _ (some 100) _ = _
           simp only [Act.put, sI_, s0_, s1_, i64_w, i32_w]
           rfl
          refine pure_ (i := 16) (N := some 84) (v := ?_) (a' := ?_) (m_ 21 131071) rfl rfl (by kernel_rfl) (fun _ _ _ h => h) (Or.inl ⟨by rfl, ?_⟩) ?_ ?_
          rotate_left
          ·intro w'
           go_simp
           with_reducible rfl
          rotate_left
          ·simp only [Act.put, sI_, s0_, s1_, i64_w, i32_w]
           rfl
          refine pure_ (i := 17) (N := some 101) (v := ?_) (a' := ?_) (m_ 21 262143) rfl rfl (by kernel_rfl) (fun _ _ _ h => h) (Or.inl ⟨by rfl, ?_⟩) ?_ ?_
          rotate_left
          ·intro w'
           go_simp
           with_reducible rfl
          rotate_left
          ·simp only [Act.put, sI_, s0_, s1_, i64_w, i32_w]
           rfl
          refine pure_ (i := 18) (N := some 102) (v := ?_) (a' := ?_) (m_ 21 524287) rfl rfl (by kernel_rfl) (fun _ _ _ h => h) (Or.inl ⟨by rfl, ?_⟩) ?_ ?_
          rotate_left
          ·intro w'
           go_simp
           with_reducible rfl
          rotate_left
          ·simp only [Act.put, sI_, s0_, s1_, i64_w, i32_w]
           rfl
          refine pure_ (i := 19) (N := some 4) (v := ?_) (a' := ?_) (m_ 21 1048575) rfl rfl (by kernel_rfl) (fun _ _ _ h => h) (Or.inl ⟨by rfl, ?_⟩) ?_ ?_
          rotate_left
          ·intro w'
           go_simp
           with_reducible rfl
          rotate_left
          ·simp only [Act.put, sI_, s0_, s1_, i64_w, i32_w]
           rfl
          refine pure_ (i := 20) (N := some 5) (v := ?_) (a' := ?_) (m_ 21 2097151) rfl rfl (by kernel_rfl) (fun _ _ _ h => h) (Or.inl ⟨by rfl, ?_⟩) ?_ ?_
          rotate_left
          ·intro w'
           go_simp
           with_reducible rfl
          rotate_left
          ·simp only [Act.put, sI_, s0_, s1_, i64_w, i32_w]
           rfl
          refine done_ (by kernel_rfl) ?_
          go_wp2
          have hw : wrap64 ((j : Int) + 1) = ((j + 1 : Nat) : Int) := w_next (Nat.lt_of_lt_of_le hlj (Nat.le_trans HLR.out.2 (by decide)))
          go_roundg (kj - 1)
          case measure => exact k_less hjk.out (Nat.le_of_lt hlj)
          case rel => exact ⟨j + 1, stj2, by rw [hw], ⟨k_next hjk.out hlj⟩, ⟨hlj⟩, HR2, SX8, K8, Z48, Z58⟩
       ·rw [if_neg hc] at hpair; simp at hpair
      ·obtain rfl : j = rr.1.length := by have := hjl.out; omega
       have c7 : decide (rr.1.length < rr.1.length) = false := decide_eq_false (by omega)
       have hR := HRW.out
       rw [List.drop_length] at hR
       simp only [rowF, Option.some.injEq] at hR
       obtain rfl := hR
       go_wp2
       have hw : wrap64 ((i : Int) + 1) = ((i + 1 : Nat) : Int) := w_next (Nat.lt_of_lt_of_le hli (Nat.le_trans HLR.out.1 (by decide)))
       go_roundg (ki - 1)
       case measure => exact k_less hik.out (Nat.le_of_lt hli)
       case rel => exact ⟨i + 1, stj, by rw [hw], ⟨k_next hik.out hli⟩, ⟨hli⟩, HA2, SXj, KZj, Z4j, Z5j⟩
    ·obtain rfl : i = l.1.length := by have := hil.out; omega
     have c6 : decide (l.1.length < l.1.length) = false := decide_eq_false (by omega)
     have hA := HA.out
     rw [List.drop_length] at hA
     simp only [allF, Option.some.injEq] at hA
     obtain rfl := hA
     go_wp2
     have hw : wrap64 ((kk : Int) + 1) = ((kk + 1 : Nat) : Int) := w_next (Nat.lt_of_lt_of_le hlt (Nat.le_trans HN.out.2 (by decide)))
     go_roundg k1
     case measure => omega
     case rel => exact ⟨kk + 1, sti, by rw [hw], ⟨by have := hkk.out; omega⟩, ⟨hlt⟩, HL2, SXi⟩
  ·obtain rfl : kk = N := by have := hkN.out; omega
   have c5 : decide (kk < kk) = false := decide_eq_false (by omega)
   have hL := HL.out
   rw [Nat.sub_self] at hL
   simp only [loopF, Option.some.injEq] at hL
   obtain rfl := hL
   go_wp2
   go_ret2
   exact ⟨_, _, rfl, SX.out⟩
/-- l1Put on a row of one's own. -/
theorem put_calls (k : Nat) (w0 w : World) (v : Value) (l : List Int) (x : Int) (r : List Int) (hR : Kd.R (Kd.int .i64) 3 w w0.heap.size (fun _ => True) v l) (hB : w0.heap.size ≤ w.heap.size) (h : spec_l1Put.f k l x = some r) :
  Calls Tryd.prog 54 #[v, .int .i64 x] w fun e w' => ∃ v', e = .returned v' ∧ Kd.R (Kd.int .i64) 3 w' w0.heap.size (fun _ => True) v' r ∧ Below w.heap.size w w' := by
 obtain ⟨A, c, rfl⟩ := Kd.R_slice hR
 refine (spec_l1Put.calls k (fun _ => True) A c l x r w (Kd.V_mono (Kd.R_V hR) (fun _ _ => trivial)) h).mono ?_
 rintro e w' ⟨v', rfl, hv, hb⟩
 refine ⟨v', rfl, ?_, hb⟩
 rcases hv with ⟨rfl, rfl⟩ | hv
 ·exact Kd.R_below hR hb
 ·exact Kd.R_lower hv hB
/-- l4Rings, its innermost loop: the seats of a set put round the ring .. -/
def rseatF (k : Nat) (kk n : Int) : List Int → List Int → Option (List Int)
 | s, [] => some s
 | s, z :: zs => (spec_l1Put.f k s (Int.tmod (wrap64 (wrap64 (kk + 2) + z)) n)).bind fun s' => rseatF k kk n s' zs
def rpairF (k : Nat) (kk n : Int) (y : List Int) (b : S26) (st : List (List Int) × List S26) : Option (List (List Int) × List S26) :=
 if y.length ≤ 1000 ∧ st.1.length ≤ 1000000 ∧ st.1.length = st.2.length then
  (rseatF k kk n [kk] y).bind fun s => (spec_l2Times.f k b.f0 b.f1 1 n).bind fun u => addF k s ⟨u.1, u.2⟩ st.1 st.2
 else none
def rrowF (k : Nat) (kk n : Int) : List (List Int) → List S26 → List (List Int) × List S26 → Option (List (List Int) × List S26)
 | [], _, st => some st
 | y :: ys, b :: bs, st => (rpairF k kk n y b st).bind fun st' => rrowF k kk n ys bs st'
 | _ :: _, [], _ => none
def rloopF (k : Nat) (n : Int) (R : List (List Int)) (B : List S26) : Nat → Int → List (List Int) × List S26 → Option (List (List Int) × List S26)
 | 0, _, st => some st
 | m + 1, kk, st => (rrowF k kk n R B st).bind fun st' => rloopF k n R B m (kk + 1) st'
def ringF (k d : Nat) (n : Int) : Option (List (List Int) × List S26) :=
 if 1 ≤ n ∧ n ≤ 1000 then (setF k d (wrap64 (n - 3))).bind fun r => if r.1.length ≤ 1000000 then rloopF k n r.1 r.2 n.toNat 0 ([], []) else none else none
theorem rrowF_len {k : Nat} {kk n : Int} {y : List Int} {ys : List (List Int)} {B : List S26} {st r : List (List Int) × List S26} (h : rrowF k kk n (y :: ys) B st = some r) : ∃ b bs st', B = b :: bs ∧ rpairF k kk n y b st = some st' ∧ rrowF k kk n ys bs st' = some r := by
 cases B with
 | nil => simp [rrowF] at h
 | cons b bs =>
  simp only [rrowF] at h
  obtain ⟨st', h1, h2⟩ := Option.bind_eq_some_iff.mp h
  exact ⟨b, bs, st', rfl, h1, h2⟩

theorem rings_calls (k d : Nat) (n : Int) (r : List (List Int) × List S26) (w : World) (h : ringF k d n = some r) :
  Calls Tryd.prog 52 #[.int .i64 n] w fun e w' => ∃ vS vC : Value, e = .returned (.tuple #[vS, vC]) ∧ Sx w w' vS vC r := by
 unfold ringF at h
 have hn : 1 ≤ n ∧ n ≤ 1000 := by
  by_cases hc : 1 ≤ n ∧ n ≤ 1000
  ·exact hc
  ·rw [if_neg hc] at h; simp at h
 rw [if_pos hn] at h
 obtain ⟨rr, hr, h⟩ := Option.bind_eq_some_iff.mp h
 have hl : rr.1.length ≤ 1000000 := by
  by_cases hc : rr.1.length ≤ 1000000
  ·exact hc
  ·rw [if_neg hc] at h; simp at h
 rw [if_pos hl] at h
 obtain ⟨N, rfl⟩ : ∃ N : Nat, n = N := ⟨n.toNat, by omega⟩
 rw [Int.toNat_natCast] at h
 have HB := A_.mk (Below.refl w.heap.size w)
 have HN := A_.mk (show 0 < N ∧ N ≤ 1000 by omega)
 have HL := A_.mk h
 have HR := A_.mk hr
 have HLR := A_.mk hl
 have z0 : (N = 0) = False := eq_false (by omega)
 have z1 : ((N : Int) = 0) = False := eq_false (by omega)
 have z2 : ((N : Int) == 0) = false := beq_eq_false_iff_ne.mpr (by omega)
 clear h hn hr hl
 go_enter Tryd.func52, Tryd.ntmps52
 go_wp2_with (first
  | ((with_reducible refine gate_dst (N := 12) rfl ?_); refine Kd.R_lit (Kd.slice 3 (Kd.int .i64)) w.heap.size 22 ?hg (N := 12) ?hd (xs := ([] : List (List Int))) (inner := []) (ok := fun _ => True) (okp := fun _ => True) ?hr ?hp (fun _ hk => hk) trivial HB.out (Nat.le_refl _) (by simp) ?_; (case hd => rfl); (case hg => rfl); (case hr => (go_simp; done)); (case hp => exact Reps.none _ _); intro v2 w2 hr hb hg hnew; have R2 := A_.mk hr; have B2 := A_.mk hb; clear hr hb hg hnew)
  | ((with_reducible refine gate_dst (N := 13) rfl ?_); refine Kd.R_lit k26 w.heap.size 26 ?hg (N := 13) ?hd (xs := ([] : List S26)) (inner := []) (ok := fun _ => True) (okp := fun _ => True) ?hr ?hp (fun _ hk => hk) trivial B2.out (below_size B2.out) (by simp) ?_; (case hd => rfl); (case hg => rfl); (case hr => (go_simp; done)); (case hp => exact Reps.none _ _); intro v3 w3 hr hb hg hnew; have R3 := A_.mk hr; have B3 := A_.mk hb; have R4 := A_.mk (Kd.R_step R2.out (fun k _ hk => hg.block k hk (by simp))); have SX := A_.mk (show Sx w w3 v2 v3 ([], []) from ⟨hb, R4.out, hr⟩); clear hr hb hg hnew R2 R3 R4 B2 B3)
  | (go_at_call 51; (with_reducible refine (sets_calls k d (wrap64 ((N : Int) - 3)) rr w3 HR.out).mono ?_); rintro e w4 ⟨vR, vG, rfl, hX⟩; have XR := A_.mk hX; clear hX))
 have SX4 := A_.mk (SX.out.step XR.out.bel)
 have h4 := Kd.R_lt SX.out.sets
 have h5 := Kd.R_lt SX.out.ch
 obtain ⟨Z, hZ⟩ : ∃ Z : Nat → Prop, Z = (fun k => some k = v2.ownBlock ∨ some k = v3.ownBlock) := ⟨_, rfl⟩
 have rdR := A_.mk (show ∀ w', Kept w4 w' Z → Kd.R (Kd.slice 3 (Kd.int .i64)) 22 w' 0 (fun _ => True) vR rr.1 ∧ Kd.R k26 26 w' 0 (fun _ => True) vG rr.2 from fun w' hk => by
  subst hZ
  exact ⟨Kd.R_mono (Kd.R_kept (Kd.R_lower (Kd.R_new' (Kd.R_new' XR.out.sets h4) h5) (Nat.zero_le _)) hk (fun k hk => by rintro (e | e); exact hk.1.2 e; exact hk.2 e)) (fun _ _ => trivial), Kd.R_mono (Kd.R_kept (Kd.R_lower (Kd.R_new' (Kd.R_new' XR.out.ch h4) h5) (Nat.zero_le _)) hk (fun k hk => by rintro (e | e); exact hk.1.2 e; exact hk.2 e)) (fun _ _ => trivial)⟩)
 have KZ := A_.mk (Kept.refl w4 Z)
 have Z4 := A_.mk (show ∀ k, some k = v2.ownBlock → Z k ∨ w4.heap.size ≤ k from fun k hk => .inl (by subst hZ; exact .inl hk))
 have Z5 := A_.mk (show ∀ k, some k = v3.ownBlock → Z k ∨ w4.heap.size ≤ k from fun k hk => .inl (by subst hZ; exact .inr hk))
 obtain ⟨AR, dR, eR⟩ := Kd.R_slice (rdR.out w4 KZ.out).1
 subst eR
 obtain ⟨AG, dG, eG⟩ := Kd.R_slice (rdR.out w4 KZ.out).2
 subst eG
 clear h4 h5 hZ XR SX
 try go_wp2
 go_loopg [4, 5, 8] (N + 1) (fun kq v4 v5 v8 w' => ∃ (kk : Nat) (st : List (List Int) × List S26), v8 = .int .i64 (kk : Int) ∧ A_ (kk + kq = N + 1) ∧ A_ (kk ≤ N) ∧ A_ (rloopF k (N : Int) rr.1 rr.2 (N - kk) (kk : Int) st = some r) ∧ A_ (Sx w w' v4 v5 st) ∧ A_ (Kept w4 w' Z) ∧ A_ (∀ k, some k = v4.ownBlock → Z k ∨ w4.heap.size ≤ k) ∧ A_ (∀ k, some k = v5.ownBlock → Z k ∨ w4.heap.size ≤ k))
 case atStart => exact ⟨0, ([], []), rfl, ⟨by omega⟩, ⟨by omega⟩, HL, SX4, KZ, Z4, Z5⟩
 case round =>
  clear SX4 HL KZ Z4 Z5
  rename World => wo
  obtain ⟨kk, st, rfl, hkk, hkN, HL, SXk, KZk, Z4k, Z5k⟩ := hrel
  obtain ⟨ko, hko⟩ : ∃ ko, ko = gk := ⟨_, rfl⟩
  subst hko
  by_cases hlt : kk < N
  ·have c5 : decide (kk < N) = true := decide_eq_true hlt
   have hL := HL.out
   rw [show N - kk = (N - (kk + 1)) + 1 by omega] at hL
   simp only [rloopF] at hL
   obtain ⟨st2, hst, hL⟩ := Option.bind_eq_some_iff.mp hL
   have Hst := A_.mk hst
   have HL2 := A_.mk hL
   clear hst hL HL
   go_wp2
   go_loopg [4, 5, 9] (rr.1.length + 1) (fun kq v4 v5 v9 w' => ∃ (j : Nat) (stj : List (List Int) × List S26), v9 = .int .i64 (j : Int) ∧ A_ (j + kq = rr.1.length + 1) ∧ A_ (j ≤ rr.1.length) ∧ A_ (rrowF k (kk : Int) (N : Int) (rr.1.drop j) (rr.2.drop j) stj = some st2) ∧ A_ (Sx w w' v4 v5 stj) ∧ A_ (Kept w4 w' Z) ∧ A_ (∀ k, some k = v4.ownBlock → Z k ∨ w4.heap.size ≤ k) ∧ A_ (∀ k, some k = v5.ownBlock → Z k ∨ w4.heap.size ≤ k))
   case atStart => exact ⟨0, st, rfl, ⟨by omega⟩, ⟨by omega⟩, Hst, SXk, KZk, Z4k, Z5k⟩
   case round =>
    clear SXk KZk Z4k Z5k Hst
    obtain ⟨j, stj, rfl, hjk, hjl, HRW, SXj, KZj, Z4j, Z5j⟩ := hrel
    rename World => wj
    obtain ⟨kj, hkj⟩ : ∃ kj, kj = gk := ⟨_, rfl⟩
    subst hkj
    by_cases hlj : j < rr.1.length
    ·have c7 : decide (j < rr.1.length) = true := decide_eq_true hlj
     have hR := HRW.out
     rw [List.drop_eq_getElem_cons hlj] at hR
     obtain ⟨b, bs, stj2, hd, hpair, hR⟩ := rrowF_len hR
     obtain ⟨y, hy⟩ : ∃ y, rr.1[j] = y := ⟨_, rfl⟩
     have hgy : rr.1[j]? = some y := by rw [← hy]; simp [hlj]
     have hgb : rr.2[j]? = some b := by have h := congrArg List.head? hd; simpa using h
     have htb : rr.2.drop (j + 1) = bs := by have h := congrArg List.tail hd; simpa using h
     have hlb : j < rr.2.length := (List.getElem?_eq_some_iff.1 hgb).1
     rw [hy] at hpair
     rw [← htb] at hR
     unfold rpairF at hpair
     by_cases hc : y.length ≤ 1000 ∧ stj.1.length ≤ 1000000 ∧ stj.1.length = stj.2.length
     ·rw [if_pos hc] at hpair
      obtain ⟨s, hs, hpair⟩ := Option.bind_eq_some_iff.mp hpair
      obtain ⟨u, hu, hpair⟩ := Option.bind_eq_some_iff.mp hpair
      have HR2 := A_.mk hR
      have Hgy := A_.mk hgy
      have Hgb := A_.mk hgb
      have Hc := A_.mk hc
      have Hs := A_.mk hs
      have Hu := A_.mk hu
      have HP := A_.mk hpair
      clear hR hd hpair hy hgy hgb htb hc hs hu HRW
      obtain ⟨gR, qR, ev, -, -, -⟩ := Kd.R_form (rdR.out wj KZj.out).1 (by omega)
      injection ev with ev1 ev2 ev3
      subst ev1
      clear ev2 ev3
      obtain ⟨gG, qG, ev, -, -, -⟩ := Kd.R_form (rdR.out wj KZj.out).2 (by omega)
      injection ev with ev1 ev2 ev3
      subst ev1
      clear ev2 ev3
      have HBj := A_.mk (Below.refl wj.heap.size wj)
      go_wp2_with ((with_reducible refine gate_dst (N := 32) rfl ?_); refine Kd.R_lit (Kd.int .i64) wj.heap.size 3 ?hg (N := 32) ?hd (xs := ([(kk : Int)] : List Int)) (inner := [.int .i64 (kk : Int)]) (ok := fun _ => True) (okp := fun _ => True) ?hr ?hp (fun _ hk => hk) trivial HBj.out (Nat.le_refl _) (by simp) ?_; (case hd => rfl); (case hg => rfl); (case hr => (go_simp; done)); (case hp => exact Reps.snoc (Reps.none _ _) rfl rfl); intro v5 w5 hr hb hg hnew; have R5 := A_.mk hr; have B5 := A_.mk hb; clear hr hb hg hnew)
      go_loopg [10, 11] (y.length + 1) (fun kq v10 v11 w' => ∃ (m : Nat) (sm : List Int), v11 = .int .i64 (m : Int) ∧ A_ (m + kq = y.length + 1) ∧ A_ (m ≤ y.length) ∧ A_ (rseatF k (kk : Int) (N : Int) sm (y.drop m) = some s) ∧ A_ (Kd.R (Kd.int .i64) 3 w' wj.heap.size (fun _ => True) v10 sm) ∧ A_ (Below wj.heap.size wj w'))
      case atStart => exact ⟨0, [(kk : Int)], rfl, ⟨by omega⟩, ⟨by omega⟩, Hs, R5, B5⟩
      case round =>
       clear R5 B5 Hs
       obtain ⟨m, sm, rfl, hmk, hml, HS, RM, BM⟩ := hrel
       rename World => wm
       obtain ⟨km, hkm⟩ : ∃ km, km = gk := ⟨_, rfl⟩
       subst hkm
       have KM := A_.mk (KZj.out.below BM.out)
       obtain ⟨Ay, cy, hcy, hyl, hCy⟩ := cellL (rdR.out wm KM.out).1 j hlj Hgy.out
       by_cases hlm : m < y.length
       ·have c8 : decide (m < y.length) = true := decide_eq_true hlm
        obtain ⟨ad, e, hcell⟩ := Kd.at_int hCy (m : Int) (by omega) (by omega)
        cases e
        rw [Int.toNat_natCast] at hcell
        obtain ⟨z, hz⟩ : ∃ z, y[m] = z := ⟨_, rfl⟩
        have hrd : rd y (m : Int) = z := by rw [← hz]; simp [rd, List.getD, hlm]
        rw [hrd] at hcell
        have hS := HS.out
        rw [List.drop_eq_getElem_cons hlm, hz] at hS
        simp only [rseatF] at hS
        obtain ⟨s2, hs2, hS⟩ := Option.bind_eq_some_iff.mp hS
        have Hs2 := A_.mk hs2
        have HS2 := A_.mk hS
        clear hz hrd hCy hS hs2 HS hyl
        go_wp2_with (go_at_call 54; (with_reducible refine (put_calls k wj wm _ sm (Int.tmod (wrap64 (wrap64 ((kk : Int) + 2) + z)) (N : Int)) s2 RM.out (below_size BM.out) Hs2.out).mono ?_); rintro e w6 ⟨v6, rfl, hr6, hb6⟩; have R6 := A_.mk hr6; have B6 := A_.mk (below_step BM.out hb6); clear hr6 hb6)
        have hw : wrap64 ((m : Int) + 1) = ((m + 1 : Nat) : Int) := w_next (Nat.lt_of_lt_of_le hlm (Nat.le_trans Hc.out.1 (by decide)))
        go_roundg (km - 1)
        case measure => exact k_less hmk.out (Nat.le_of_lt hlm)
        case rel => exact ⟨m + 1, s2, by rw [hw], ⟨k_next hmk.out hlm⟩, ⟨hlm⟩, HS2, R6, B6⟩
       ·obtain rfl : m = y.length := by have := hml.out; omega
        have c8 : decide (y.length < y.length) = false := decide_eq_false (by omega)
        have hS := HS.out
        rw [List.drop_length] at hS
        simp only [rseatF, Option.some.injEq] at hS
        subst hS
        obtain ⟨t2, t3⟩ := cell26 (rdR.out _ KM.out).2 j hlb Hgb.out
        clear hCy HS hyl
        go_wp2_with (first
         | (go_at_call 55; (with_reducible refine (spec_l2Times.calls k b.f0 b.f1 1 (N : Int) u.1 u.2 _ Hu.out).mono ?_); rintro e w7 ⟨rfl, hb⟩; have B7 := A_.mk (below_step BM.out hb); have R7 := A_.mk (Kd.R_below RM.out hb); have K7 := A_.mk (KM.out.below hb); clear hb)
         | (go_at_call 73; (with_reducible refine (add_calls k w w7 (SXj.out.step B7.out).bel u4 u5 u10 stj.1 stj.2 sm ⟨u.1, u.2⟩ stj2.1 stj2.2 (SXj.out.step B7.out).sets (SXj.out.step B7.out).ch (Kd.R_lower R7.out SXj.out.size) Hc.out.2.1 Hc.out.2.2 HP.out).mono ?_); rintro e w8 ⟨vS, vC, rfl, hr1, hr2, hb, hk, hz1, hz2⟩; have SX8 := A_.mk (show Sx w w8 vS vC stj2 from ⟨hb, hr1, hr2⟩); have K8 := A_.mk (K7.out.then_ hk (fun k hk => by rcases hk with h | h; exact Z4j.out k h; exact Z5j.out k h)); have Z48 := A_.mk (show ∀ k, some k = vS.ownBlock → Z k ∨ w4.heap.size ≤ k from fun k hk => (hz1 k hk).elim (Z4j.out k) (fun h => .inr (Nat.le_trans K7.out.1 h))); have Z58 := A_.mk (show ∀ k, some k = vC.ownBlock → Z k ∨ w4.heap.size ≤ k from fun k hk => (hz2 k hk).elim (Z5j.out k) (fun h => .inr (Nat.le_trans K7.out.1 h))); clear hr1 hr2 hb hk hz1 hz2))
        have hw : wrap64 ((j : Int) + 1) = ((j + 1 : Nat) : Int) := w_next (Nat.lt_of_lt_of_le hlj (Nat.le_trans HLR.out (by decide)))
        go_roundg (kj - 1)
        case measure => exact k_less hjk.out (Nat.le_of_lt hlj)
        case rel => exact ⟨j + 1, stj2, by rw [hw], ⟨k_next hjk.out hlj⟩, ⟨hlj⟩, HR2, SX8, K8, Z48, Z58⟩
     ·rw [if_neg hc] at hpair; simp at hpair
    ·obtain rfl : j = rr.1.length := by have := hjl.out; omega
     have c7 : decide (rr.1.length < rr.1.length) = false := decide_eq_false (by omega)
     have hR := HRW.out
     rw [List.drop_length] at hR
     simp only [rrowF, Option.some.injEq] at hR
     subst hR
     go_wp2
     have hw : wrap64 ((kk : Int) + 1) = ((kk + 1 : Nat) : Int) := w_next (Nat.lt_of_lt_of_le hlt (Nat.le_trans HN.out.2 (by decide)))
     go_roundg (ko - 1)
     case measure => exact k_less hkk.out (Nat.le_of_lt hlt)
     case rel => exact ⟨kk + 1, stj, by rw [hw], ⟨k_next hkk.out hlt⟩, ⟨hlt⟩, HL2, SXj, KZj, Z4j, Z5j⟩
  ·obtain rfl : kk = N := by have := hkN.out; omega
   have c5 : decide (kk < kk) = false := decide_eq_false (by omega)
   have hL := HL.out
   rw [Nat.sub_self] at hL
   simp only [rloopF, Option.some.injEq] at hL
   subst hL
   go_wp2
   go_ret2
   exact ⟨_, _, rfl, SXk.out⟩
/-- l4Finals: the seats of a set put to a final's, from seat p0 on .. -/
def fseatF (k : Nat) (p0 n : Int) : List Int → List Int → Option (List Int)
 | s, [] => some s
 | s, z :: zs => (spec_l1Put.f k s (Int.tmod (wrap64 (p0 + z)) n)).bind fun s' => fseatF k p0 n s' zs
def fpairF (k : Nat) (p0 n : Int) (x : List Int) (a : S26) (y : List Int) (b : S26) (st : List (List Int) × List S26) : Option (List (List Int) × List S26) :=
 if x.length ≤ 1000 ∧ y.length ≤ 1000 ∧ st.1.length ≤ 1000000 ∧ st.2.length ≤ 1000000 then
  (fseatF k p0 n x y).bind fun s => (spec_l2Times.f k a.f0 a.f1 b.f0 b.f1).bind fun u => some (st.1 ++ [s], st.2 ++ [⟨u.1, u.2⟩])
 else none
def frowF (k : Nat) (p0 n : Int) (x : List Int) (a : S26) : List (List Int) → List S26 → List (List Int) × List S26 → Option (List (List Int) × List S26)
 | [], _, st => some st
 | y :: ys, b :: bs, st => (fpairF k p0 n x a y b st).bind fun st' => frowF k p0 n x a ys bs st'
 | _ :: _, [], _ => none
def fallF (k : Nat) (p0 n : Int) (R : List (List Int)) (B : List S26) : List (List Int) → List S26 → List (List Int) × List S26 → Option (List (List Int) × List S26)
 | [], _, st => some st
 | x :: xs, a :: as_, st => (frowF k p0 n x a R B st).bind fun st' => fallF k p0 n R B xs as_ st'
 | _ :: _, [], _ => none
/-- what can be taken in a block -/
def fsetF (k : Nat) (n : Int) (ring : Bool) (b : S26) : Option (List (List Int) × List S26) :=
 (setF k k b.f1).bind fun r => if (ring && b.f1 == n) = true then ringF k k n else some r
/-- .. block by block .. -/
def fblockF (k : Nat) (n : Int) (ring : Bool) : List S26 → List (List Int) × List S26 → Option (List (List Int) × List S26)
 | [], st => some st
 | b :: bs, st => (fsetF k n ring b).bind fun r => if r.1.length ≤ 1000000 ∧ st.1.length ≤ 1000000 then (fallF k b.f0 n r.1 r.2 st.1 st.2 ([], [])).bind fun st' => fblockF k n ring bs st' else none
/-- .. and what was taken before. -/
def ftakeF (k : Nat) : List Int → List Int → Option (List Int)
 | s, [] => some s
 | s, z :: zs => (spec_l1Put.f k s z).bind fun s' => ftakeF k s' zs
def ftakesF (k : Nat) (l : List Int) : List (List Int) → Option (List (List Int))
 | [] => some []
 | x :: xs => (ftakeF k x l).bind fun y => (ftakesF k l xs).bind fun ys => some (y :: ys)
def spec_l4Finals.f (k : Nat) (n : Int) (ring : Bool) (l : List Int) : Option (List (List Int) × List S26) :=
 if 1 ≤ n ∧ n ≤ 1000 ∧ l.length ≤ 1000 then (spec_l4Blocks.f k n ring l).bind fun bl => if bl.length ≤ 1000 then (fblockF k n ring bl ([[]], [⟨1, 1⟩])).bind fun st => if st.1.length ≤ 1000000 then (ftakesF k l st.1).bind fun F => some (F, st.2) else none else none
 else none
theorem frowF_len {k : Nat} {p0 n : Int} {x : List Int} {a : S26} {y : List Int} {ys : List (List Int)} {B : List S26} {st r : List (List Int) × List S26} (h : frowF k p0 n x a (y :: ys) B st = some r) : ∃ b bs st', B = b :: bs ∧ fpairF k p0 n x a y b st = some st' ∧ frowF k p0 n x a ys bs st' = some r := by
 cases B with
 | nil => simp [frowF] at h
 | cons b bs =>
  simp only [frowF] at h
  obtain ⟨st', h1, h2⟩ := Option.bind_eq_some_iff.mp h
  exact ⟨b, bs, st', rfl, h1, h2⟩
theorem fallF_len {k : Nat} {p0 n : Int} {R : List (List Int)} {B : List S26} {y : List Int} {ys : List (List Int)} {A : List S26} {st r : List (List Int) × List S26} (h : fallF k p0 n R B (y :: ys) A st = some r) : ∃ a as_ st', A = a :: as_ ∧ frowF k p0 n y a R B st = some st' ∧ fallF k p0 n R B ys as_ st' = some r := by
 cases A with
 | nil => simp [fallF] at h
 | cons b bs =>
  simp only [fallF] at h
  obtain ⟨st', h1, h2⟩ := Option.bind_eq_some_iff.mp h
  exact ⟨b, bs, st', rfl, h1, h2⟩
theorem LeO.both {α β : Type} {a b : Option α} {f g : α → Option β} (h : LeO a b) (hf : ∀ x, LeO (f x) (g x)) : LeO (a.bind f) (b.bind g) := LeO.bind h hf
theorem addF_mono (k : Nat) (s : List Int) (c : S26) : ∀ (X : List (List Int)) (Y : List S26), LeO (addF k s c X Y) (addF (k + 1) s c X Y)
 | [], [] => LeO.refl _
 | [], _ :: _ => LeO.none _
 | _ :: _, [] => LeO.none _
 | x :: xs, y :: ys => by
  simp only [addF]
  exact LeO.bind (spec_l1Same.mono _ _ _) fun b => LeO.ite (LeO.bind (spec_l2Plus.mono _ _ _ _ _) fun _ => LeO.refl _) (LeO.bind (addF_mono k s c xs ys) fun _ => LeO.refl _)
theorem pairF_mono (k : Nat) (kk n : Int) (x : List Int) (a : S26) (y : List Int) (b : S26) (st : List (List Int) × List S26) : LeO (pairF k kk n x a y b st) (pairF (k + 1) kk n x a y b st) := by
 unfold pairF
 exact LeO.ite (LeO.bind (spec_l2Times.mono _ _ _ _ _) fun _ => LeO.bind (spec_l2Times.mono _ _ _ _ _) fun _ => addF_mono _ _ _ _ _) (LeO.refl _)
theorem rowF_mono (k : Nat) (kk n : Int) (x : List Int) (a : S26) : ∀ (X : List (List Int)) (Y : List S26) (st : List (List Int) × List S26), LeO (rowF k kk n x a X Y st) (rowF (k + 1) kk n x a X Y st)
 | [], _, _ => by simp only [rowF]; exact LeO.refl _
 | _ :: _, [], _ => LeO.none _
 | y :: ys, b :: bs, st => by
  simp only [rowF]
  exact LeO.bind (pairF_mono _ _ _ _ _ _ _ _) fun st' => rowF_mono k kk n x a ys bs st'
theorem allF_mono (k : Nat) (kk n : Int) (R : List (List Int)) (B : List S26) : ∀ (X : List (List Int)) (Y : List S26) (st : List (List Int) × List S26), LeO (allF k kk n R B X Y st) (allF (k + 1) kk n R B X Y st)
 | [], _, _ => by simp only [allF]; exact LeO.refl _
 | _ :: _, [], _ => LeO.none _
 | y :: ys, b :: bs, st => by
  simp only [allF]
  exact LeO.bind (rowF_mono _ _ _ _ _ _ _ _) fun st' => allF_mono k kk n R B ys bs st'
theorem loopF_mono (k : Nat) (n : Int) {g g' : Int → Option (List (List Int) × List S26)} (hg : ∀ m, LeO (g m) (g' m)) : ∀ (m : Nat) (kk : Int) (st : List (List Int) × List S26), LeO (loopF g k n m kk st) (loopF g' (k + 1) n m kk st)
 | 0, _, _ => LeO.refl _
 | m + 1, kk, st => by
  simp only [loopF]
  exact LeO.bind (hg _) fun l => LeO.bind (hg _) fun r => LeO.ite (LeO.bind (allF_mono _ _ _ _ _ _ _ _) fun st' => loopF_mono k n hg m (kk + 1) st') (LeO.refl _)
theorem setF_mono (k : Nat) : ∀ (d : Nat) (n : Int), LeO (setF k d n) (setF (k + 1) (d + 1) n)
 | 0, n => LeO.none _
 | d + 1, n => by
  simp only [setF]
  exact LeO.ite (LeO.refl _) (LeO.ite (loopF_mono k n (setF_mono k d) _ _ _) (LeO.refl _))
theorem rseatF_mono (k : Nat) (kk n : Int) : ∀ (s y : List Int), LeO (rseatF k kk n s y) (rseatF (k + 1) kk n s y)
 | _, [] => by simp only [rseatF]; exact LeO.refl _
 | s, z :: zs => by
  simp only [rseatF]
  exact LeO.bind (spec_l1Put.mono _ _ _) fun s' => rseatF_mono k kk n s' zs
theorem rpairF_mono (k : Nat) (kk n : Int) (y : List Int) (b : S26) (st : List (List Int) × List S26) : LeO (rpairF k kk n y b st) (rpairF (k + 1) kk n y b st) := by
 unfold rpairF
 exact LeO.ite (LeO.bind (rseatF_mono _ _ _ _ _) fun _ => LeO.bind (spec_l2Times.mono _ _ _ _ _) fun _ => addF_mono _ _ _ _ _) (LeO.refl _)
theorem rrowF_mono (k : Nat) (kk n : Int) : ∀ (X : List (List Int)) (Y : List S26) (st : List (List Int) × List S26), LeO (rrowF k kk n X Y st) (rrowF (k + 1) kk n X Y st)
 | [], _, _ => by simp only [rrowF]; exact LeO.refl _
 | _ :: _, [], _ => LeO.none _
 | y :: ys, b :: bs, st => by
  simp only [rrowF]
  exact LeO.bind (rpairF_mono _ _ _ _ _ _) fun st' => rrowF_mono k kk n ys bs st'
theorem rloopF_mono (k : Nat) (n : Int) (R : List (List Int)) (B : List S26) : ∀ (m : Nat) (kk : Int) (st : List (List Int) × List S26), LeO (rloopF k n R B m kk st) (rloopF (k + 1) n R B m kk st)
 | 0, _, _ => LeO.refl _
 | m + 1, kk, st => by
  simp only [rloopF]
  exact LeO.bind (rrowF_mono _ _ _ _ _ _) fun st' => rloopF_mono k n R B m (kk + 1) st'
theorem ringF_mono (k d : Nat) (n : Int) : LeO (ringF k d n) (ringF (k + 1) (d + 1) n) := by
 unfold ringF
 exact LeO.ite (LeO.bind (setF_mono _ _ _) fun r => LeO.ite (rloopF_mono _ _ _ _ _ _ _) (LeO.refl _)) (LeO.refl _)
theorem fseatF_mono (k : Nat) (p0 n : Int) : ∀ (s y : List Int), LeO (fseatF k p0 n s y) (fseatF (k + 1) p0 n s y)
 | _, [] => by simp only [fseatF]; exact LeO.refl _
 | s, z :: zs => by
  simp only [fseatF]
  exact LeO.bind (spec_l1Put.mono _ _ _) fun s' => fseatF_mono k p0 n s' zs
theorem fpairF_mono (k : Nat) (p0 n : Int) (x : List Int) (a : S26) (y : List Int) (b : S26) (st : List (List Int) × List S26) : LeO (fpairF k p0 n x a y b st) (fpairF (k + 1) p0 n x a y b st) := by
 unfold fpairF
 exact LeO.ite (LeO.bind (fseatF_mono _ _ _ _ _) fun _ => LeO.bind (spec_l2Times.mono _ _ _ _ _) fun _ => LeO.refl _) (LeO.refl _)
theorem frowF_mono (k : Nat) (p0 n : Int) (x : List Int) (a : S26) : ∀ (X : List (List Int)) (Y : List S26) (st : List (List Int) × List S26), LeO (frowF k p0 n x a X Y st) (frowF (k + 1) p0 n x a X Y st)
 | [], _, _ => by simp only [frowF]; exact LeO.refl _
 | _ :: _, [], _ => LeO.none _
 | y :: ys, b :: bs, st => by
  simp only [frowF]
  exact LeO.bind (fpairF_mono _ _ _ _ _ _ _ _) fun st' => frowF_mono k p0 n x a ys bs st'
theorem fallF_mono (k : Nat) (p0 n : Int) (R : List (List Int)) (B : List S26) : ∀ (X : List (List Int)) (Y : List S26) (st : List (List Int) × List S26), LeO (fallF k p0 n R B X Y st) (fallF (k + 1) p0 n R B X Y st)
 | [], _, _ => by simp only [fallF]; exact LeO.refl _
 | _ :: _, [], _ => LeO.none _
 | y :: ys, b :: bs, st => by
  simp only [fallF]
  exact LeO.bind (frowF_mono _ _ _ _ _ _ _ _) fun st' => fallF_mono k p0 n R B ys bs st'
theorem fsetF_mono (k : Nat) (n : Int) (ring : Bool) (b : S26) : LeO (fsetF k n ring b) (fsetF (k + 1) n ring b) := by
 unfold fsetF
 exact LeO.bind (setF_mono _ _ _) fun _ => LeO.ite (ringF_mono _ _ _) (LeO.refl _)
theorem fblockF_mono (k : Nat) (n : Int) (ring : Bool) : ∀ (B : List S26) (st : List (List Int) × List S26), LeO (fblockF k n ring B st) (fblockF (k + 1) n ring B st)
 | [], _ => LeO.refl _
 | b :: bs, st => by
  simp only [fblockF]
  exact LeO.bind (fsetF_mono _ _ _ _) fun r => LeO.ite (LeO.bind (fallF_mono _ _ _ _ _ _ _ _) fun st' => fblockF_mono k n ring bs st') (LeO.refl _)
theorem ftakeF_mono (k : Nat) : ∀ (s y : List Int), LeO (ftakeF k s y) (ftakeF (k + 1) s y)
 | _, [] => by simp only [ftakeF]; exact LeO.refl _
 | s, z :: zs => by
  simp only [ftakeF]
  exact LeO.bind (spec_l1Put.mono _ _ _) fun s' => ftakeF_mono k s' zs
theorem ftakesF_mono (k : Nat) (l : List Int) : ∀ (X : List (List Int)), LeO (ftakesF k l X) (ftakesF (k + 1) l X)
 | [] => LeO.refl _
 | x :: xs => by
  simp only [ftakesF]
  exact LeO.bind (ftakeF_mono _ _ _) fun y => LeO.bind (ftakesF_mono k l xs) fun _ => LeO.refl _
theorem spec_l4Finals.mono : ∀ (n : Int) (ring : Bool) (l : List Int) (k : Nat), LeO (spec_l4Finals.f k n ring l) (spec_l4Finals.f (k + 1) n ring l) := by
 intro n ring l k
 unfold spec_l4Finals.f
 exact LeO.ite (LeO.bind (spec_l4Blocks.mono _ _ _ _) fun bl => LeO.ite (LeO.bind (fblockF_mono _ _ _ _ _) fun st => LeO.ite (LeO.bind (ftakesF_mono _ _ _) fun _ => LeO.refl _) (LeO.refl _)) (LeO.refl _)) (LeO.refl _)
theorem size22 : (Tryd.prog.info? 22).map (·.size) = some 1 := by kernel_rfl
/-- The element of a row of rows: a row of its own. -/
theorem elemL {w : World} {base : Nat} {g n c : Nat} {xs : List (List Int)} (h : Kd.R (Kd.slice 3 (Kd.int .i64)) 22 w base (fun _ => True) (.slice (some ⟨g, 0, none⟩) n c) xs) (i : Nat) (hi : i < xs.length) {y : List Int} (hy : xs[i]? = some y) :
  ∃ v, w.cell? ⟨g, i, none⟩ = some v ∧ Kd.R (Kd.int .i64) 3 w base (fun _ => True) v y := by
 have hn := (Kd.R_reads' h).1
 obtain ⟨c, hcl, hM, hcc, -⟩ := Kd.R_elem h [] (i : Int) (by omega) (by omega)
 have hr : xs.getD (i : Int).toNat [] = y := by simp [List.getD, hy]
 rw [hr] at hM
 obtain ⟨v, rfl, hv⟩ := hM
 have h0 := hcc 0 v rfl
 have e : (i : Int).toNat * (Kd.slice 3 (Kd.int .i64)).sz + 0 = i := by rw [Int.toNat_natCast]; exact Nat.mul_one i
 rw [e] at h0
 exact ⟨v, h0, Kd.R_mono hv (fun _ _ => trivial)⟩
/-- finals[i] = x': run. -/
theorem storeL {w0 W : World} {g n cap : Nat} {xs : List (List Int)} (HO : Kd.R (Kd.slice 3 (Kd.int .i64)) 22 W w0.heap.size (fun _ => True) (.slice (some ⟨g, 0, none⟩) n cap) xs) (i : Nat) (hi : i < xs.length) (v : Value) (x' : List Int) (hv : Kd.R (Kd.int .i64) 3 W w0.heap.size (fun _ => True) v x') (HB : Below w0.heap.size w0 W) :
  ∃ w1, (Instr.storeAt 22 (.pointer (some ⟨g, i, none⟩)) v).run Tryd.prog W = .ok () w1 ∧ Kd.R (Kd.slice 3 (Kd.int .i64)) 22 w1 w0.heap.size (fun _ => True) (.slice (some ⟨g, 0, none⟩) n cap) (xs.set i x') ∧ Below w0.heap.size w0 w1 ∧ W.grownBy w1 (some g) := by
 have hnx : n = xs.length := (Kd.R_reads' HO).1
 obtain ⟨y, hy⟩ : ∃ y, xs[i]? = some y := ⟨xs[i], by simp [hi]⟩
 obtain ⟨A0, c0, t0, -, -⟩ := cellL HO i hi hy
 have hcc : ∀ (j : Nat) (u : Value), ([.slice A0 y.length c0] : List Value)[j]? = some u → W.cell? ⟨g, (i : Int).toNat * (Kd.slice 3 (Kd.int .i64)).sz + j, none⟩ = some u := fun j u hu => by
  match j, hu with
  | 0, hu =>
   obtain rfl : Value.slice A0 y.length c0 = u := by simpa using hu
   have e : (i : Int).toNat * (Kd.slice 3 (Kd.int .i64)).sz + 0 = i := by rw [Int.toNat_natCast]; exact Nat.mul_one i
   rw [e]
   exact t0
  | j + 1, hu => simp at hu
 obtain ⟨cells, hcells⟩ := Kd.R_typed HO g (by simp [Value.ownBlock])
 obtain ⟨A1, c1, e1⟩ := Kd.R_slice hv
 have hone : v.oneCell' = true := by rw [e1]; rfl
 have hcel : v.cells.toList = [v] := by rw [e1]; rfl
 obtain ⟨hrow, hg⟩ := Kd.R_seg (okp := fun k => True ∧ k ≠ g) (x' := x') (seg := [v]) (j := 0) HO (i : Int) (by omega) (by omega) (c := [.slice A0 y.length c0]) rfl hcc (Nat.le_refl 1) (Kd.M_row (Kd.R_types hv hcells (by decide))) (fun _ h => h)
 have e : (i : Int).toNat * (Kd.slice 3 (Kd.int .i64)).sz + 0 = i := by rw [Int.toNat_natCast]; exact Nat.mul_one i
 rw [e, Int.toNat_natCast] at hrow
 rw [e] at hg
 have hbg : w0.heap.size ≤ g := Kd.R_base HO g (by simp [Value.ownBlock])
 refine ⟨_, ?_, hrow, ?_, hg⟩
 ·obtain ⟨_, inner, hown, hr⟩ := HO
  rcases hown.2 with ⟨hv, _⟩ | ⟨g', cap', cur, hv, hb, hh, hnc, hcm, hcs, _⟩
  ·injection hv with ha; cases ha
  injection hv with ha _ hc
  injection ha with ha
  injection ha with hg'
  subst hg'; subst hc
  have hs : (Kd.slice 3 (Kd.int .i64)).sz = 1 := rfl
  rw [hs] at hcs
  have h := run_store_run (P := Tryd.prog) (o := i) 22 v [v] hh hcel size22 (by show i + 1 ≤ _; omega) (by simpa using hone)
  exact h
 ·exact HB.trans ⟨hg.os, hg.tape, hg.output, hg.size, fun k hk => by
   rcases Nat.lt_or_ge k W.heap.size with hlt | hge
   ·exact hg.block k hlt (fun he => by injection he with he; omega)
   ·exact setCells_far _ _ k (by omega)⟩

theorem len24 {n : Nat} (h : n ≤ 1000000) : (n + 1) * 24 ≤ 140737488355328 := by omega
theorem len16 {n : Nat} (h : n ≤ 1000000) : (n + 1) * 16 ≤ 140737488355328 := by omega
theorem spec_l4Finals.calls (k : Nat) (n : Int) (ring : Bool) (A : Option Addr) (c : Nat) (l : List Int) (r1 : List (List Int)) (r2 : List S26) (w : World) (hr0_2 : Kd.C (Kd.int .i64) w A l.length l) (hc0_2 : l.length ≤ c) (h : spec_l4Finals.f k n ring l = some (r1, r2)) :
  Calls Tryd.prog 25 #[.agg #[.int .i64 n, .bool ring, .slice A l.length c]] w fun e w' => ∃ v0_ v1_ : Value, e = .returned (.tuple #[v0_, v1_]) ∧ Kd.R (Kd.slice 3 (Kd.int .i64)) 22 w' w.heap.size (fun _ => True) v0_ r1 ∧ Kd.R k26 26 w' w.heap.size (fun _ => True) v1_ r2 ∧ Below w.heap.size w w' := by
 unfold spec_l4Finals.f at h
 have hn : 1 ≤ n ∧ n ≤ 1000 ∧ l.length ≤ 1000 := by
  by_cases hc : 1 ≤ n ∧ n ≤ 1000 ∧ l.length ≤ 1000
  ·exact hc
  ·rw [if_neg hc] at h; simp at h
 rw [if_pos hn] at h
 obtain ⟨bl, hbl, h⟩ := Option.bind_eq_some_iff.mp h
 have hbn : bl.length ≤ 1000 := by
  by_cases hc : bl.length ≤ 1000
  ·exact hc
  ·rw [if_neg hc] at h; simp at h
 rw [if_pos hbn] at h
 obtain ⟨stf, hstf, h⟩ := Option.bind_eq_some_iff.mp h
 have hfn : stf.1.length ≤ 1000000 := by
  by_cases hc : stf.1.length ≤ 1000000
  ·exact hc
  ·rw [if_neg hc] at h; simp at h
 rw [if_pos hfn] at h
 obtain ⟨F, hF, h⟩ := Option.bind_eq_some_iff.mp h
 simp only [Option.some.injEq, Prod.mk.injEq] at h
 obtain ⟨rfl, rfl⟩ := h
 obtain ⟨N, rfl⟩ : ∃ N : Nat, n = N := ⟨n.toNat, by omega⟩
 have HR := A_.mk hr0_2
 have HC := A_.mk hc0_2
 have HN := A_.mk (show 0 < N ∧ N ≤ 1000 by omega)
 have HLN := A_.mk hn.2.2
 have HBL := A_.mk hbl
 have HBN := A_.mk hbn
 have HST := A_.mk hstf
 have HFN := A_.mk hfn
 have HF := A_.mk hF
 have HBw := A_.mk (Below.refl w.heap.size w)
 have z0 : (N = 0) = False := eq_false (by omega)
 have z1 : ((N : Int) = 0) = False := eq_false (by omega)
 have z2 : ((N : Int) == 0) = false := beq_eq_false_iff_ne.mpr (by omega)
 clear hr0_2 hc0_2 hn hbl hbn hstf hfn hF
 go_enter Tryd.func25, Tryd.ntmps25
 go_upto_region 1 with ((with_reducible refine gate_dst (N := 1) rfl ?_); refine box_event ?hg (N := 1) ?hd (cs := #[.int .i64 (N : Int), .bool ring, .slice A l.length c]) (t := 29) ?hr ?_; (case hd => rfl); (case hg => rfl); (case hr => (go_simp; done)); intro gb hg w1 hbox hb; have BK := A_.mk hbox; have HB1 := A_.mk (below_step HBw.out hb); clear hg hbox hb)
 go_upto_region 2 with (first
  | ((with_reducible refine gate_dst (N := 18) rfl ?_); refine Kd.R_lit (Kd.int .i64) w.heap.size 3 ?hg (N := 18) ?hd (xs := ([] : List Int)) (inner := []) (ok := fun _ => True) (okp := fun _ => True) ?hr ?hp (fun _ hk => hk) trivial HB1.out (below_size HB1.out) (by simp) ?_; (case hd => rfl); (case hg => rfl); (case hr => (go_simp; done)); (case hp => exact Reps.none _ _); intro v1 w2 hr hb hg hnew; obtain ⟨A1, d1, e1⟩ := Kd.R_slice hr; subst e1; have R1 := A_.mk hr; have B1 := A_.mk hb; have BK1 := A_.mk (blk_grown BK.out hg (by simp)); clear hr hb hg hnew)
  | ((with_reducible refine gate_dst (N := 19) rfl ?_); refine Kd.R_lit (Kd.slice 3 (Kd.int .i64)) w.heap.size 22 ?hg (N := 19) ?hd (xs := ([[]] : List (List Int))) (inner := [.slice A1 ([] : List Int).length d1]) (ok := fun _ => True) (okp := fun _ => True) ?hr ?hp (fun _ hk => hk) trivial B1.out (below_size B1.out) (by simp) ?_; (case hd => rfl); (case hg => rfl); (case hr => (go_simp; done)); (case hp => exact Reps.snoc (Reps.none _ _) (Kd.M_row R1.out) rfl); intro v2 w3 hr hb hg hnew; have R2 := A_.mk hr; have B2 := A_.mk hb; have BK2 := A_.mk (blk_grown BK1.out hg (by simp)); clear hr hb hg hnew)
  | ((with_reducible refine gate_dst (N := 21) rfl ?_); refine Kd.R_lit k26 w.heap.size 26 ?hg (N := 21) ?hd (xs := ([⟨1, 1⟩] : List S26)) (inner := [.int .i64 1, .int .i64 1]) (ok := fun _ => True) (okp := fun _ => True) ?hr ?hp (fun _ hk => hk) trivial B2.out (below_size B2.out) (by simp) ?_; (case hd => rfl); (case hg => rfl); (case hr => (go_simp; done)); (case hp => exact Reps.snoc (Reps.none _ _) (k26_mkM _ _ _ ⟨1, 1⟩) rfl); intro v3 w4 hr hb hg hnew; have R3 := A_.mk hr; have B3 := A_.mk hb; have BK3 := A_.mk (blk_grown BK2.out hg (by simp)); have SX := A_.mk (show Sx w w4 v2 v3 ([[]], [⟨1, 1⟩]) from ⟨hb, Kd.R_step R2.out (fun k _ hk => hg.block k hk (by simp)), hr⟩); clear hr hb hg hnew R1 R2 R3 B1 B2 B3 BK1 BK2))
 clear BK HB1
 have s0 : w4.cell? ⟨gb, 0, none⟩ = some (.int .i64 (N : Int)) := (blk_cell BK3.out 0).trans rfl
 have s1 : w4.cell? ⟨gb, 1, none⟩ = some (.bool ring) := (blk_cell BK3.out 1).trans rfl
 have s2 : w4.cell? ⟨gb, 2, none⟩ = some (.slice A l.length c) := (blk_cell BK3.out 2).trans rfl
 go_upto_region 3 with (go_at_call 50; (with_reducible refine (spec_l4Blocks.calls k (N : Int) ring A c l bl _ (Kd.C_below HR.out SX.out.bel) HC.out HBL.out).mono ?_); rintro e w5 ⟨v6, rfl, hr, hb⟩; have RB := A_.mk (Kd.R_lower hr SX.out.size); have BK5 := A_.mk (blk_below (o := .cells #[.int .i64 (N : Int), .bool ring, .slice A l.length c] 29 (0, 0)) BK3.out hb); have SX5 := A_.mk (SX.out.step hb); clear hr hb s0 s1 s2 SX BK3)
 obtain ⟨A6, d6, e6⟩ := Kd.R_slice RB.out
 subst e6
 go_wp2
 go_loopg [4, 5, 7] (bl.length + 1) (fun kq v4 v5 v7 w' => ∃ (i : Nat) (st : List (List Int) × List S26), v7 = .int .i64 (i : Int) ∧ A_ (i + kq = bl.length + 1) ∧ A_ (i ≤ bl.length) ∧ A_ (fblockF k (N : Int) ring (bl.drop i) st = some stf) ∧ A_ (Sx w w' v4 v5 st) ∧ A_ (Kd.R k26 26 w' w.heap.size (fun _ => True) (.slice A6 bl.length d6) bl) ∧ A_ (w'.heap[gb]? = some (.cells #[.int .i64 (N : Int), .bool ring, .slice A l.length c] 29 (0, 0))))
 case atStart => exact ⟨0, _, rfl, ⟨by omega⟩, ⟨by omega⟩, HST, SX5, RB, BK5⟩
 case round =>
  clear SX5 RB BK5 HST
  rename World => wo
  obtain ⟨i, st, rfl, hik, hil, HST, SX, RB, BK⟩ := hrel
  obtain ⟨ki, hki⟩ : ∃ ki, ki = gk := ⟨_, rfl⟩
  subst hki
  by_cases hli : i < bl.length
  ·have c5 : decide (i < bl.length) = true := decide_eq_true hli
   have hS := HST.out
   obtain ⟨b, hb⟩ : ∃ b, bl[i] = b := ⟨_, rfl⟩
   have hgb : bl[i]? = some b := by rw [← hb]; simp [hli]
   rw [List.drop_eq_getElem_cons hli, hb] at hS
   simp only [fblockF, fsetF] at hS
   obtain ⟨rf, hrf, hS⟩ := Option.bind_eq_some_iff.mp hS
   obtain ⟨rr, hrr, hrf⟩ := Option.bind_eq_some_iff.mp hrf
   have hc1 : rf.1.length ≤ 1000000 ∧ st.1.length ≤ 1000000 := by
    by_cases hc : rf.1.length ≤ 1000000 ∧ st.1.length ≤ 1000000
    ·exact hc
    ·rw [if_neg hc] at hS; simp at hS
   rw [if_pos hc1] at hS
   obtain ⟨st2, hst2, hS⟩ := Option.bind_eq_some_iff.mp hS
   have HS2 := A_.mk hS
   have Hst2 := A_.mk hst2
   have Hc1 := A_.mk hc1
   have Hrr := A_.mk hrr
   have Hrf := A_.mk hrf
   have Hgb := A_.mk hgb
   clear hS hst2 hc1 hrr hrf hb hgb HST
   obtain ⟨gB, qB, ev, -, -, -⟩ := Kd.R_form RB.out (by omega)
   injection ev with ev1 ev2 ev3
   subst ev1
   clear ev2 ev3
   obtain ⟨t0, t1⟩ := cell26 RB.out i hli Hgb.out
   go_upto_region 7 with (go_at_call 51; (with_reducible refine (sets_calls k k b.f1 rr _ Hrr.out).mono ?_); rintro e w6 ⟨v8, v9, rfl, hX⟩; have XR := A_.mk hX; clear hX)
   clear t0 t1
   have hXo := XR.out.bel
   have BK6 := A_.mk (blk_below (o := .cells #[.int .i64 (N : Int), .bool ring, .slice A l.length c] 29 (0, 0)) BK.out hXo)
   have RB6 := A_.mk (Kd.R_below RB.out hXo)
   clear hXo
   go_cut [50] (fun v50 wc => v50 = .bool (ring && b.f1 == (N : Int)) ∧ wc = w6.drew)
   case first =>
    have s0 : w6.drew.cell? ⟨gb, 0, none⟩ = some (.int .i64 (N : Int)) := (blk_cell BK6.out 0).trans rfl
    have s1 : w6.drew.cell? ⟨gb, 1, none⟩ = some (.bool ring) := (blk_cell BK6.out 1).trans rfl
    have t1 : w6.drew.cell? ⟨gB, i * 2 + 1, none⟩ = some (.int .i64 b.f1) := (cell26 RB6.out i hli Hgb.out).2
    refine start_ (n := 12) (S := fun w' => w'.cell? ⟨gb, 0, none⟩ = some (.int .i64 (N : Int)) ∧ w'.cell? ⟨gb, 1, none⟩ = some (.bool ring) ∧ w'.cell? ⟨gB, i * 2 + 1, none⟩ = some (.int .i64 b.f1)) (ds := []) (m_ 12 0) (by kernel_rfl) rfl rfl ⟨s0, s1, t1⟩ (fun hHeld => ?_)
    generalize w6.drew = wd at *
    cases ring with
    | false =>
     refine pure_ (i := 0) (N := some 39) (v := ?_) (a' := ?_) (m_ 12 1) rfl rfl (by kernel_rfl) (fun _ _ _ h => h) (Or.inl ⟨by rfl, ?_⟩) ?_ ?_
     rotate_left
     ·intro w'
      go_simp
      with_reducible rfl
     rotate_left
     ·simp only [Act.put, sI_, s0_, s1_, i64_w, i32_w]
      rfl
     refine take_ (i := 1) (N := some 40) (v := ?_) (a' := ?_) (m_ 12 3) rfl rfl (by kernel_rfl) (fun _ _ _ h => h) (Or.inl ⟨by rfl, ?_⟩) hHeld ?_ ?_
     rotate_left
     ·intro w' sh
      obtain ⟨s0, s1, s2⟩ := sh
      go_simp
      with_reducible rfl
     rotate_left
     ·simp only [Act.put, sI_, s0_, s1_, i64_w, i32_w]
      rfl
     refine pure_ (i := 2) (N := some 41) (v := ?_) (a' := ?_) (m_ 12 7) rfl rfl (by kernel_rfl) (fun _ _ _ h => h) (Or.inl ⟨by rfl, ?_⟩) ?_ ?_
     rotate_left
     ·intro w'
      go_simp
      with_reducible rfl
     rotate_left
     ·simp only [Act.put, sI_, s0_, s1_, i64_w, i32_w]
      rfl
     refine pure_ (i := 3) (N := some 42) (v := undef) (a' := ?_) (m_ 12 15) rfl rfl (by kernel_rfl) (fun _ _ _ h => h) (Or.inr ⟨by rfl, rfl⟩) ?_ ?_
     rotate_left
     ·simp only [Act.put, sI_, s0_, s1_, i64_w, i32_w]
      rfl
     refine pure_ (i := 4) (N := some 43) (v := undef) (a' := ?_) (m_ 12 31) rfl rfl (by kernel_rfl) (fun _ _ _ h => h) (Or.inr ⟨by rfl, rfl⟩) ?_ ?_
     rotate_left
     ·simp only [Act.put, sI_, s0_, s1_, i64_w, i32_w]
      rfl
     refine pure_ (i := 5) (N := some 44) (v := undef) (a' := ?_) (m_ 12 63) rfl rfl (by kernel_rfl) (fun _ _ _ h => h) (Or.inr ⟨by rfl, rfl⟩) ?_ ?_
     rotate_left
     ·simp only [Act.put, sI_, s0_, s1_, i64_w, i32_w]
      rfl
     refine pure_ (i := 6) (N := some 45) (v := undef) (a' := ?_) (m_ 12 127) rfl rfl (by kernel_rfl) (fun _ _ _ h => h) (Or.inr ⟨by rfl, rfl⟩) ?_ ?_
     rotate_left
     ·simp only [Act.put, sI_, s0_, s1_, i64_w, i32_w]
      rfl
     refine pure_ (i := 7) (N := some 46) (v := undef) (a' := ?_) (m_ 12 255) rfl rfl (by kernel_rfl) (fun _ _ _ h => h) (Or.inr ⟨by rfl, rfl⟩) ?_ ?_
     rotate_left
     ·simp only [Act.put, sI_, s0_, s1_, i64_w, i32_w]
      rfl
     refine pure_ (i := 8) (N := some 47) (v := undef) (a' := ?_) (m_ 12 511) rfl rfl (by kernel_rfl) (fun _ _ _ h => h) (Or.inr ⟨by rfl, rfl⟩) ?_ ?_
     rotate_left
     ·simp only [Act.put, sI_, s0_, s1_, i64_w, i32_w]
      rfl
     refine pure_ (i := 9) (N := some 48) (v := undef) (a' := ?_) (m_ 12 1023) rfl rfl (by kernel_rfl) (fun _ _ _ h => h) (Or.inr ⟨by rfl, rfl⟩) ?_ ?_
     rotate_left
     ·simp only [Act.put, sI_, s0_, s1_, i64_w, i32_w]
      rfl
     refine pure_ (i := 10) (N := some 49) (v := undef) (a' := ?_) (m_ 12 2047) rfl rfl (by kernel_rfl) (fun _ _ _ h => h) (Or.inr ⟨by rfl, rfl⟩) ?_ ?_
     rotate_left
     ·simp only [Act.put, sI_, s0_, s1_, i64_w, i32_w]
      rfl
     refine pure_ (i := 11) (N := some 50) (v := ?_) (a' := ?_) (m_ 12 4095) rfl rfl (by kernel_rfl) (fun _ _ _ h => h) (Or.inl ⟨by rfl, ?_⟩) ?_ ?_
     rotate_left
     ·intro w'
      go_simp
      with_reducible rfl
     rotate_left
     ·simp only [Act.put, sI_, s0_, s1_, i64_w, i32_w]
      rfl
     refine done_ (by kernel_rfl) ?_
     go_wp2
     go_meet
     case rel => exact ⟨rfl, rfl⟩
    | true =>
     refine pure_ (i := 0) (N := some 39) (v := ?_) (a' := ?_) (m_ 12 1) rfl rfl (by kernel_rfl) (fun _ _ _ h => h) (Or.inl ⟨by rfl, ?_⟩) ?_ ?_
     rotate_left
     ·intro w'
      go_simp
      with_reducible rfl
     rotate_left
     ·simp only [Act.put, sI_, s0_, s1_, i64_w, i32_w]
      rfl
     refine take_ (i := 1) (N := some 40) (v := ?_) (a' := ?_) (m_ 12 3) rfl rfl (by kernel_rfl) (fun _ _ _ h => h) (Or.inl ⟨by rfl, ?_⟩) hHeld ?_ ?_
     rotate_left
     ·intro w' sh
      obtain ⟨s0, s1, s2⟩ := sh
      go_simp
      with_reducible rfl
     rotate_left
     ·simp only [Act.put, sI_, s0_, s1_, i64_w, i32_w]
      rfl
     refine pure_ (i := 2) (N := some 41) (v := ?_) (a' := ?_) (m_ 12 7) rfl rfl (by kernel_rfl) (fun _ _ _ h => h) (Or.inl ⟨by rfl, ?_⟩) ?_ ?_
     rotate_left
     ·intro w'
      go_simp
      with_reducible rfl
     rotate_left
     ·simp only [Act.put, sI_, s0_, s1_, i64_w, i32_w]
      rfl
     refine pure_ (i := 3) (N := some 42) (v := ?_) (a' := ?_) (m_ 12 15) rfl rfl (by kernel_rfl) (fun _ _ _ h => h) (Or.inl ⟨by rfl, ?_⟩) ?_ ?_
     rotate_left
     ·intro w'
      go_simp
      with_reducible rfl
     rotate_left
     ·simp only [Act.put, sI_, s0_, s1_, i64_w, i32_w]
      rfl
     refine pure_ (i := 4) (N := some 43) (v := ?_) (a' := ?_) (m_ 12 31) rfl rfl (by kernel_rfl) (fun _ _ _ h => h) (Or.inl ⟨by rfl, ?_⟩) ?_ ?_
     rotate_left
     ·intro w'
      go_simp
      with_reducible rfl
     rotate_left
     ·simp only [Act.put, sI_, s0_, s1_, i64_w, i32_w]
      rfl
     refine pure_ (i := 5) (N := some 44) (v := ?_) (a' := ?_) (m_ 12 63) rfl rfl (by kernel_rfl) (fun _ _ _ h => h) (Or.inl ⟨by rfl, ?_⟩) ?_ ?_
     rotate_left
     ·intro w'
      go_simp
      with_reducible rfl
     rotate_left
     ·simp only [Act.put, sI_, s0_, s1_, i64_w, i32_w]
      rfl
     refine pure_ (i := 6) (N := some 45) (v := ?_) (a' := ?_) (m_ 12 127) rfl rfl (by kernel_rfl) (fun _ _ _ h => h) (Or.inl ⟨by rfl, ?_⟩) ?_ ?_
     rotate_left
     ·intro w'
      go_simp
      with_reducible rfl
     rotate_left
     ·simp only [Act.put, sI_, s0_, s1_, i64_w, i32_w]
      rfl
     refine take_ (i := 7) (N := some 46) (v := ?_) (a' := ?_) (m_ 12 255) rfl rfl (by kernel_rfl) (fun _ _ _ h => h) (Or.inl ⟨by rfl, ?_⟩) hHeld ?_ ?_
     rotate_left
     ·intro w' sh
      obtain ⟨s0, s1, s2⟩ := sh
      go_simp
      with_reducible rfl
     rotate_left
     ·simp only [Act.put, sI_, s0_, s1_, i64_w, i32_w]
      rfl
     refine pure_ (i := 8) (N := some 47) (v := ?_) (a' := ?_) (m_ 12 511) rfl rfl (by kernel_rfl) (fun _ _ _ h => h) (Or.inl ⟨by rfl, ?_⟩) ?_ ?_
     rotate_left
     ·intro w'
      go_simp
      with_reducible rfl
     rotate_left
     ·simp only [Act.put, sI_, s0_, s1_, i64_w, i32_w]
      rfl
     refine take_ (i := 9) (N := some 48) (v := ?_) (a' := ?_) (m_ 12 1023) rfl rfl (by kernel_rfl) (fun _ _ _ h => h) (Or.inl ⟨by rfl, ?_⟩) hHeld ?_ ?_
     rotate_left
     ·intro w' sh
      obtain ⟨s0, s1, s2⟩ := sh
      go_simp
      with_reducible rfl
     rotate_left
     ·simp only [Act.put, sI_, s0_, s1_, i64_w, i32_w]
      rfl
     refine pure_ (i := 10) (N := some 49) (v := ?_) (a' := ?_) (m_ 12 2047) rfl rfl (by kernel_rfl) (fun _ _ _ h => h) (Or.inl ⟨by rfl, ?_⟩) ?_ ?_
     rotate_left
     ·intro w'
      go_simp
      with_reducible rfl
     rotate_left
     ·simp only [Act.put, sI_, s0_, s1_, i64_w, i32_w]
      rfl
     refine pure_ (i := 11) (N := some 50) (v := ?_) (a' := ?_) (m_ 12 4095) rfl rfl (by kernel_rfl) (fun _ _ _ h => h) (Or.inl ⟨by rfl, ?_⟩) ?_ ?_
     rotate_left
     ·intro w'
      go_simp
      with_reducible rfl
     rotate_left
     ·simp only [Act.put, sI_, s0_, s1_, i64_w, i32_w]
      rfl
     refine done_ (by kernel_rfl) ?_
     go_wp2
     go_meet
     case rel => exact ⟨rfl, rfl⟩
   case rest =>
   obtain ⟨e50, ew⟩ := hcut
   subst e50
   subst ew
   have hrf := Hrf.out
   obtain ⟨q, hq⟩ : ∃ q, (ring && b.f1 == (N : Int)) = q := ⟨_, rfl⟩
   rw [hq] at hrf ⊢
   have Hrf2 := A_.mk hrf
   have X6 := A_.mk (show Sx wo w6.drew v8 v9 rr from XR.out.step (below_drew1 (Below.refl _ _)))
   have BK7 := A_.mk (blk_drew BK6.out)
   have s0 : w6.drew.cell? ⟨gb, 0, none⟩ = some (.int .i64 (N : Int)) := (blk_cell BK7.out 0).trans rfl
   clear hq hrf Hrf BK6 RB6 XR
   generalize w6.drew = wd at *
   go_upto_if 50 with fail
   go_cut [8, 9] (fun v8 v9 wc => Sx wo wc v8 v9 rf)
   case first =>
    cases q with
    | true =>
     have hr := Hrf2.out
     rw [if_pos rfl] at hr
     have Hr2 := A_.mk hr
     clear hr
     go_wp2_with (go_at_call 52; (with_reducible refine (rings_calls k k (N : Int) rf _ Hr2.out).mono ?_); rintro e w7 ⟨vS, vC, rfl, hX⟩; have XS := A_.mk hX; clear hX)
     go_meet
     case rel => exact ⟨below_step X6.out.bel XS.out.bel, Kd.R_lower XS.out.sets X6.out.size, Kd.R_lower XS.out.ch X6.out.size⟩
    | false =>
     have hr := Hrf2.out
     rw [if_neg (by decide)] at hr
     obtain rfl := Option.some.inj hr
     go_wp2
     go_meet
     case rel => exact X6.out
   case rest =>
   have XS := A_.mk hcut
   clear hcut X6 BK7 s0 Hrf2
   rename World => w8
   have hb8 := XS.out.bel
   have SX8 := A_.mk (SX.out.step hb8)
   have RB8 := A_.mk (Kd.R_below RB.out hb8)
   have BK8 := A_.mk (blk_below (o := .cells #[.int .i64 (N : Int), .bool ring, .slice A l.length c] 29 (0, 0)) BK.out hb8)
   have HB8 := A_.mk (Below.refl w8.heap.size w8)
   obtain ⟨A4, d4, e4⟩ := Kd.R_slice SX8.out.sets
   subst e4
   obtain ⟨A5, d5, e5⟩ := Kd.R_slice SX8.out.ch
   subst e5
   obtain ⟨A8, d8, e8⟩ := Kd.R_slice XS.out.sets
   subst e8
   obtain ⟨A9, d9, e9⟩ := Kd.R_slice XS.out.ch
   subst e9
   clear hb8 SX RB BK
   go_wp2_with (first
    | ((with_reducible refine gate_dst (N := 57) rfl ?_); refine Kd.R_lit (Kd.slice 3 (Kd.int .i64)) w8.heap.size 22 ?hg (N := 57) ?hd (xs := ([] : List (List Int))) (inner := []) (ok := fun _ => True) (okp := fun _ => True) ?hr ?hp (fun _ hk => hk) trivial HB8.out (Nat.le_refl _) (by simp) ?_; (case hd => rfl); (case hg => rfl); (case hr => (go_simp; done)); (case hp => exact Reps.none _ _); intro v10 w9 hr hb hg hnew; have R9 := A_.mk hr; have B9 := A_.mk hb; clear hr hb hg hnew)
    | ((with_reducible refine gate_dst (N := 58) rfl ?_); refine Kd.R_lit k26 w8.heap.size 26 ?hg (N := 58) ?hd (xs := ([] : List S26)) (inner := []) (ok := fun _ => True) (okp := fun _ => True) ?hr ?hp (fun _ hk => hk) trivial B9.out (below_size B9.out) (by simp) ?_; (case hd => rfl); (case hg => rfl); (case hr => (go_simp; done)); (case hp => exact Reps.none _ _); intro v11 w10 hr hb hg hnew; have X10 := A_.mk (show Sx w8 w10 v10 v11 ([], []) from ⟨hb, Kd.R_step R9.out (fun k _ hk => hg.block k hk (by simp)), hr⟩); clear hr hb hg hnew R9 B9))
   go_loopg [10, 11, 12] (st.1.length + 1) (fun kq v10 v11 v12 w' => ∃ (p : Nat) (mp : List (List Int) × List S26), v12 = .int .i64 (p : Int) ∧ A_ (p + kq = st.1.length + 1) ∧ A_ (p ≤ st.1.length) ∧ A_ (fallF k b.f0 (N : Int) rf.1 rf.2 (st.1.drop p) (st.2.drop p) mp = some st2) ∧ A_ (Sx w8 w' v10 v11 mp))
   case atStart => exact ⟨0, ([], []), rfl, ⟨by omega⟩, ⟨by omega⟩, Hst2, X10⟩
   case round =>
    clear X10 Hst2
    obtain ⟨p, mp, rfl, hpk, hpl, HA, XP⟩ := hrel
    rename World => wp
    obtain ⟨kp, hkp⟩ : ∃ kp, kp = gk := ⟨_, rfl⟩
    subst hkp
    by_cases hlp : p < st.1.length
    ·have c6 : decide (p < st.1.length) = true := decide_eq_true hlp
     have hA := HA.out
     rw [List.drop_eq_getElem_cons hlp] at hA
     obtain ⟨a, as_, mp2, hd, hrow, hA⟩ := fallF_len hA
     obtain ⟨x, hx⟩ : ∃ x, st.1[p] = x := ⟨_, rfl⟩
     have hgx : st.1[p]? = some x := by rw [← hx]; simp [hlp]
     have hga : st.2[p]? = some a := by have h := congrArg List.head? hd; simpa using h
     have hta : st.2.drop (p + 1) = as_ := by have h := congrArg List.tail hd; simpa using h
     have hla : p < st.2.length := (List.getElem?_eq_some_iff.1 hga).1
     rw [hx] at hrow
     rw [← hta] at hA
     have HA2 := A_.mk hA
     have HRW := A_.mk hrow
     have Hgx := A_.mk hgx
     have Hga := A_.mk hga
     clear hA hd hrow hx hgx hga hta HA
     obtain ⟨g4, q4, ev, -, -, -⟩ := Kd.R_form SX8.out.sets (by omega)
     injection ev with ev1 ev2 ev3
     subst ev1
     clear ev2 ev3
     obtain ⟨g5, q5, ev, -, -, -⟩ := Kd.R_form SX8.out.ch (by omega)
     injection ev with ev1 ev2 ev3
     subst ev1
     clear ev2 ev3
     go_wp2
     go_loopg [10, 11, 13] (rf.1.length + 1) (fun kq v10 v11 v13 w' => ∃ (j : Nat) (mj : List (List Int) × List S26), v13 = .int .i64 (j : Int) ∧ A_ (j + kq = rf.1.length + 1) ∧ A_ (j ≤ rf.1.length) ∧ A_ (frowF k b.f0 (N : Int) x a (rf.1.drop j) (rf.2.drop j) mj = some mp2) ∧ A_ (Sx w8 w' v10 v11 mj))
     case atStart => exact ⟨0, mp, rfl, ⟨by omega⟩, ⟨by omega⟩, HRW, XP⟩
     case round =>
      clear XP HRW
      obtain ⟨j, mj, rfl, hjk, hjl, HRW, XJ⟩ := hrel
      rename World => wj
      obtain ⟨kj, hkj⟩ : ∃ kj, kj = gk := ⟨_, rfl⟩
      subst hkj
      by_cases hlj : j < rf.1.length
      ·have c7 : decide (j < rf.1.length) = true := decide_eq_true hlj
       have hR := HRW.out
       rw [List.drop_eq_getElem_cons hlj] at hR
       obtain ⟨b2, bs, mj2, hd, hpair, hR⟩ := frowF_len hR
       obtain ⟨y, hy⟩ : ∃ y, rf.1[j] = y := ⟨_, rfl⟩
       have hgy : rf.1[j]? = some y := by rw [← hy]; simp [hlj]
       have hgb2 : rf.2[j]? = some b2 := by have h := congrArg List.head? hd; simpa using h
       have htb : rf.2.drop (j + 1) = bs := by have h := congrArg List.tail hd; simpa using h
       have hlb : j < rf.2.length := (List.getElem?_eq_some_iff.1 hgb2).1
       rw [hy] at hpair
       rw [← htb] at hR
       unfold fpairF at hpair
       by_cases hc : x.length ≤ 1000 ∧ y.length ≤ 1000 ∧ mj.1.length ≤ 1000000 ∧ mj.2.length ≤ 1000000
       ·rw [if_pos hc] at hpair
        obtain ⟨s, hs, hpair⟩ := Option.bind_eq_some_iff.mp hpair
        obtain ⟨u, hu, hpair⟩ := Option.bind_eq_some_iff.mp hpair
        obtain rfl := Option.some.inj hpair
        have HR2 := A_.mk hR
        have Hgy := A_.mk hgy
        have Hgb2 := A_.mk hgb2
        have Hc := A_.mk hc
        have Hs := A_.mk hs
        have Hu := A_.mk hu
        clear hR hd hpair hy hgy hgb2 htb hc hs hu HRW
        obtain ⟨g8, q8, ev, -, -, -⟩ := Kd.R_form XS.out.sets (by omega)
        injection ev with ev1 ev2 ev3
        subst ev1
        clear ev2 ev3
        obtain ⟨g9, q9, ev, -, -, -⟩ := Kd.R_form XS.out.ch (by omega)
        injection ev with ev1 ev2 ev3
        subst ev1
        clear ev2 ev3
        obtain ⟨Ax, cx, hcx, hxl, hCx⟩ := cellL (Kd.R_below SX8.out.sets XJ.out.bel) p hlp Hgx.out
        have HXL := A_.mk hxl
        have HCX := A_.mk hCx
        have hown : spec_l1Own.f x = some x := by
         unfold spec_l1Own.f
         simp only [Option.bind_some]
         rw [if_pos (by have := Hc.out.1; simp; omega)]
         simp
        have HOW := A_.mk hown
        clear hxl hCx hown
        go_wp2_with (go_at_call 53; (with_reducible refine (spec_l1Own.calls Ax cx x x wj HCX.out HXL.out HOW.out).mono ?_); rintro e w11 ⟨v14, rfl, hr, hb⟩; have R11 := A_.mk hr; have B11 := A_.mk hb; clear hr hb)
        clear hcx HCX HXL HOW
        go_loopg [14, 15] (y.length + 1) (fun kq v14 v15 w' => ∃ (m : Nat) (sm : List Int), v15 = .int .i64 (m : Int) ∧ A_ (m + kq = y.length + 1) ∧ A_ (m ≤ y.length) ∧ A_ (fseatF k b.f0 (N : Int) sm (y.drop m) = some s) ∧ A_ (Kd.R (Kd.int .i64) 3 w' wj.heap.size (fun _ => True) v14 sm) ∧ A_ (Below wj.heap.size wj w'))
        case atStart => exact ⟨0, x, rfl, ⟨by omega⟩, ⟨by omega⟩, Hs, R11, B11⟩
        case round =>
         clear R11 B11 Hs
         obtain ⟨m, sm, rfl, hmk, hml, HS, RM, BM⟩ := hrel
         rename World => wm
         obtain ⟨km, hkm⟩ : ∃ km, km = gk := ⟨_, rfl⟩
         subst hkm
         have X8M := A_.mk (below_step XJ.out.bel BM.out)
         obtain ⟨Ay, cy, hcy, hyl, hCy⟩ := cellL (Kd.R_below XS.out.sets X8M.out) j hlj Hgy.out
         by_cases hlm : m < y.length
         ·have c8 : decide (m < y.length) = true := decide_eq_true hlm
          obtain ⟨ad, e, hcell⟩ := Kd.at_int hCy (m : Int) (by omega) (by omega)
          cases e
          rw [Int.toNat_natCast] at hcell
          obtain ⟨z, hz⟩ : ∃ z, y[m] = z := ⟨_, rfl⟩
          have hrd : rd y (m : Int) = z := by rw [← hz]; simp [rd, List.getD, hlm]
          rw [hrd] at hcell
          have hS := HS.out
          rw [List.drop_eq_getElem_cons hlm, hz] at hS
          simp only [fseatF] at hS
          obtain ⟨s2, hs2, hS⟩ := Option.bind_eq_some_iff.mp hS
          have Hs2 := A_.mk hs2
          have HS3 := A_.mk hS
          clear hz hrd hCy hS hs2 HS hyl
          go_wp2
          have hcy2 : wm.drew.cell? ⟨g8, j, none⟩ = some (.slice (some ad) y.length cy) := hcy
          have hce2 : wm.drew.cell? (ad.add m) = some (.int .i64 z) := hcell
          have t0 : wm.drew.cell? ⟨gB, i * 2, none⟩ = some (.int .i64 b.f0) := (cell26 (Kd.R_below RB8.out X8M.out) i hli Hgb.out).1
          have s0 : wm.drew.cell? ⟨gb, 0, none⟩ = some (.int .i64 (N : Int)) := (blk_cell (blk_below (o := .cells #[.int .i64 (N : Int), .bool ring, .slice A l.length c] 29 (0, 0)) BK8.out X8M.out) 0).trans rfl
          have RMd := A_.mk (Kd.R_drew RM.out)
          have BMd := A_.mk (below_drew1 BM.out)
          clear hcy hcell RM BM
          refine start_ (n := 19) (S := fun w' => w'.cell? ⟨g8, j, none⟩ = some (.slice (some ad) y.length cy) ∧ w'.cell? (ad.add m) = some (.int .i64 z) ∧ w'.cell? ⟨gB, i * 2, none⟩ = some (.int .i64 b.f0) ∧ w'.cell? ⟨gb, 0, none⟩ = some (.int .i64 (N : Int))) (ds := [17]) (m_ 19 0) (by kernel_rfl) rfl rfl ⟨hcy2, hce2, t0, s0⟩ (fun hHeld => ?_)
          generalize wm.drew = wd at *
          refine pure_ (i := 0) (N := some 85) (v := ?_) (a' := ?_) (m_ 19 1) rfl rfl (by kernel_rfl) (fun _ _ _ h => h) (Or.inl ⟨by rfl, ?_⟩) ?_ ?_
          rotate_left
          ·intro w'
           go_simp
           with_reducible rfl
          rotate_left
          ·simp only [Act.put, sI_, s0_, s1_, i64_w, i32_w]
           rfl
          refine pure_ (i := 1) (N := some 86) (v := ?_) (a' := ?_) (m_ 19 3) rfl rfl (by kernel_rfl) (fun _ _ _ h => h) (Or.inl ⟨by rfl, ?_⟩) ?_ ?_
          rotate_left
          ·intro w'
           go_simp
           with_reducible rfl
          rotate_left
          ·simp only [Act.put, sI_, s0_, s1_, i64_w, i32_w]
           rfl
          refine pure_ (i := 2) (N := some 87) (v := ?_) (a' := ?_) (m_ 19 7) rfl rfl (by kernel_rfl) (fun _ _ _ h => h) (Or.inl ⟨by rfl, ?_⟩) ?_ ?_
          rotate_left
          ·intro w'
           go_simp
           with_reducible rfl
          rotate_left
          ·simp only [Act.put, sI_, s0_, s1_, i64_w, i32_w]
           rfl
          refine pure_ (i := 3) (N := some 88) (v := ?_) (a' := ?_) (m_ 19 15) rfl rfl (by kernel_rfl) (fun _ _ _ h => h) (Or.inl ⟨by rfl, ?_⟩) ?_ ?_
          rotate_left
          ·intro w'
           go_simp
           with_reducible rfl
          rotate_left
          ·simp only [Act.put, sI_, s0_, s1_, i64_w, i32_w]
           rfl
          refine pure_ (i := 4) (N := some 89) (v := ?_) (a' := ?_) (m_ 19 31) rfl rfl (by kernel_rfl) (fun _ _ _ h => h) (Or.inl ⟨by rfl, ?_⟩) ?_ ?_
          rotate_left
          ·intro w'
           go_simp
           with_reducible rfl
          rotate_left
          ·simp only [Act.put, sI_, s0_, s1_, i64_w, i32_w]
           rfl
          refine take_ (i := 5) (N := some 90) (v := ?_) (a' := ?_) (m_ 19 63) rfl rfl (by kernel_rfl) (fun _ _ _ h => h) (Or.inl ⟨by rfl, ?_⟩) hHeld ?_ ?_
          rotate_left
          ·intro w' sh
           obtain ⟨s0, s1, s2, s3⟩ := sh
           go_simp
           with_reducible rfl
          rotate_left
          ·simp only [Act.put, sI_, s0_, s1_, i64_w, i32_w]
           rfl
          refine pure_ (i := 6) (N := some 91) (v := ?_) (a' := ?_) (m_ 19 127) rfl rfl (by kernel_rfl) (fun _ _ _ h => h) (Or.inl ⟨by rfl, ?_⟩) ?_ ?_
          rotate_left
          ·intro w'
           go_simp
           with_reducible rfl
          rotate_left
          ·simp only [Act.put, sI_, s0_, s1_, i64_w, i32_w]
           rfl
          refine pure_ (i := 7) (N := some 92) (v := ?_) (a' := ?_) (m_ 19 255) rfl rfl (by kernel_rfl) (fun _ _ _ h => h) (Or.inl ⟨by rfl, ?_⟩) ?_ ?_
          rotate_left
          ·intro w'
           go_simp
           with_reducible rfl
          rotate_left
          ·simp only [Act.put, sI_, s0_, s1_, i64_w, i32_w]
           rfl
          refine pure_ (i := 8) (N := some 93) (v := ?_) (a' := ?_) (m_ 19 511) rfl rfl (by kernel_rfl) (fun _ _ _ h => h) (Or.inl ⟨by rfl, ?_⟩) ?_ ?_
          rotate_left
          ·intro w'
           go_simp
           with_reducible rfl
          rotate_left
          ·simp only [Act.put, sI_, s0_, s1_, i64_w, i32_w]
           rfl
          refine take_ (i := 9) (N := some 94) (v := ?_) (a' := ?_) (m_ 19 1023) rfl rfl (by kernel_rfl) (fun _ _ _ h => h) (Or.inl ⟨by rfl, ?_⟩) hHeld ?_ ?_
          rotate_left
          ·intro w' sh
           obtain ⟨s0, s1, s2, s3⟩ := sh
           go_simp
           with_reducible rfl
          rotate_left
          ·simp only [Act.put, sI_, s0_, s1_, i64_w, i32_w]
           rfl
          refine pure_ (i := 10) (N := some 95) (v := ?_) (a' := ?_) (m_ 19 2047) rfl rfl (by kernel_rfl) (fun _ _ _ h => h) (Or.inl ⟨by rfl, ?_⟩) ?_ ?_
          rotate_left
          ·intro w'
           go_simp
           with_reducible rfl
          rotate_left
          ·simp only [Act.put, sI_, s0_, s1_, i64_w, i32_w]
           rfl
          refine pure_ (i := 11) (N := some 96) (v := ?_) (a' := ?_) (m_ 19 4095) rfl rfl (by kernel_rfl) (fun _ _ _ h => h) (Or.inl ⟨by rfl, ?_⟩) ?_ ?_
          rotate_left
          ·intro w'
           go_simp
           with_reducible rfl
          rotate_left
          ·simp only [Act.put, sI_, s0_, s1_, i64_w, i32_w]
           rfl
          refine take_ (i := 12) (N := some 97) (v := ?_) (a' := ?_) (m_ 19 8191) rfl rfl (by kernel_rfl) (fun _ _ _ h => h) (Or.inl ⟨by rfl, ?_⟩) hHeld ?_ ?_
          rotate_left
          ·intro w' sh
           obtain ⟨s0, s1, s2, s3⟩ := sh
           go_simp
           with_reducible rfl
          rotate_left
          ·simp only [Act.put, sI_, s0_, s1_, i64_w, i32_w]
           rfl
          refine pure_ (i := 13) (N := some 98) (v := ?_) (a' := ?_) (m_ 19 16383) rfl rfl (by kernel_rfl) (fun _ _ _ h => h) (Or.inl ⟨by rfl, ?_⟩) ?_ ?_
          rotate_left
          ·intro w'
           go_simp
           with_reducible rfl
          rotate_left
          ·simp only [Act.put, sI_, s0_, s1_, i64_w, i32_w]
           rfl
          refine pure_ (i := 14) (N := some 99) (v := ?_) (a' := ?_) (m_ 19 32767) rfl rfl (by kernel_rfl) (fun _ _ _ h => h) (Or.inl ⟨by rfl, ?_⟩) ?_ ?_
          rotate_left
          ·intro w'
           go_simp
           with_reducible rfl
          rotate_left
          ·simp only [Act.put, sI_, s0_, s1_, i64_w, i32_w]
           rfl
          refine take_ (i := 15) (N := some 100) (v := ?_) (a' := ?_) (m_ 19 65535) rfl rfl (by kernel_rfl) (fun _ _ _ h => h) (Or.inl ⟨by rfl, ?_⟩) hHeld ?_ ?_
          rotate_left
          ·intro w' sh
           obtain ⟨s0, s1, s2, s3⟩ := sh
           go_simp
           with_reducible rfl
          rotate_left
          ·simp only [Act.put, sI_, s0_, s1_, i64_w, i32_w]
           rfl
          refine pure_ (i := 16) (N := some 101) (v := ?_) (a' := ?_) (m_ 19 131071) rfl rfl (by kernel_rfl) (fun _ _ _ h => h) (Or.inl ⟨by rfl, ?_⟩) ?_ ?_
          rotate_left
          ·intro w'
           go_simp
           with_reducible rfl
          rotate_left
          ·simp only [Act.put, sI_, s0_, s1_, i64_w, i32_w]
           rfl
          refine last_ (i := 17) (N := some 102) (m_ 19 262143) rfl rfl (by kernel_rfl) (by decide) (fun K hK => ?_)
          refine goes_ Tryd.func54 (by kernel_rfl) rfl #[u14, .int .i64 (Int.tmod (wrap64 (b.f0 + z)) (N : Int))] (by rfl) rfl rfl (by (try simp only [List.map_toArray, List.map_cons, List.map_nil]); (rfl)) ?_
          refine (put_calls k wj wd u14 sm (Int.tmod (wrap64 (b.f0 + z)) (N : Int)) s2 RMd.out (below_size BMd.out) Hs2.out).mono ?_
          rintro e w12 ⟨v12, rfl, hr, hb⟩
          refine ⟨_, rfl, ?_⟩
          have R12 := A_.mk hr
          have B12 := A_.mk (below_step BMd.out hb)
          refine hK.out _ _ ?_
          clear hK K hHeld hr hb RMd BMd hcy2 hce2 t0 s0
          refine norm_ (a' := ?_) ?_ ?_
          rotate_left
          ·show Act.put _ (some 102) _ = _
           simp only [Act.put, sI_, s0_, s1_, i64_w, i32_w]
           rfl
          refine pure_ (i := 18) (N := some 14) (v := ?_) (a' := ?_) (m_ 19 524287) rfl rfl (by kernel_rfl) (fun _ _ _ h => h) (Or.inl ⟨by rfl, ?_⟩) ?_ ?_
          rotate_left
          ·intro w'
           go_simp
           with_reducible rfl
          rotate_left
          ·simp only [Act.put, sI_, s0_, s1_, i64_w, i32_w]
           rfl
          refine done_ (by kernel_rfl) ?_
          try go_wp2
          have hw : wrap64 ((m : Int) + 1) = ((m + 1 : Nat) : Int) := w_next (Nat.lt_of_lt_of_le hlm (Nat.le_trans Hc.out.2.1 (by decide)))
          go_roundg (km - 1)
          case measure => exact k_less hmk.out (Nat.le_of_lt hlm)
          case rel => exact ⟨m + 1, s2, by rw [hw], ⟨k_next hmk.out hlm⟩, ⟨hlm⟩, HS3, R12, B12⟩
         ·obtain rfl : m = y.length := by have := hml.out; omega
          have c8 : decide (y.length < y.length) = false := decide_eq_false (by omega)
          have hS := HS.out
          rw [List.drop_length] at hS
          simp only [fseatF, Option.some.injEq] at hS
          subst hS
          clear hCy HS hyl
          have HMO := A_.mk (Kd.R_below XJ.out.sets BM.out)
          have HMC := A_.mk (Kd.R_below XJ.out.ch BM.out)
          have HAP := A_.mk (Kd.R_apartR (Kd.R_lower RM.out XJ.out.size) HMO.out (by decide))
          obtain ⟨A14, d14, e14⟩ := Kd.R_slice RM.out
          subst e14
          clear RM
          go_wp2_with ((with_reducible refine gate_builtin (b := .append) (xs := #[.tmp 103, .tmp 105]) rfl ?_); at_builtin; refine Kd.R_append (Kd.slice 3 (Kd.int .i64)) (w0 := w8) w8.heap.size rfl (.tmp 103) (.tmp 105) 46 22 (.slice none 0 0) 24 rfl Tryd.underlying46 info22 rfl (by decide) (by omega) u10 mj.1 sm [.slice A14 sm.length d14] (fun _ => True) (fun k => True ∧ some k ≠ u10.ownBlock) rfl rfl (Kd.M_row HAP.out) (fun _ hk => hk) (fun _ _ => trivial) HMO.out X8M.out (below_size X8M.out) (len24 Hc.out.2.2.1) ?_; intro v13 w13 ho hb hg hat; have R13 := A_.mk ho; have B13 := A_.mk hb; have C13 := A_.mk (Kd.R_over HMC.out HMO.out (by decide) hg); clear ho hb hg hat)
          obtain ⟨t0, t1⟩ := cell26 (Kd.R_drew (Kd.R_below SX8.out.ch B13.out)) p hla Hga.out
          obtain ⟨t2, t3⟩ := cell26 (Kd.R_drew (Kd.R_below XS.out.ch B13.out)) j hlb Hgb2.out
          have Bd := A_.mk (below_drew1 B13.out)
          have Rd := A_.mk (Kd.R_drew R13.out)
          have Cd := A_.mk (Kd.R_drew C13.out)
          clear R13 B13 C13 HMO HMC HAP hcy
          refine start_ (n := 13) (S := fun w' => w'.cell? ⟨g5, p * 2, none⟩ = some (.int .i64 a.f0) ∧ w'.cell? ⟨g5, p * 2 + 1, none⟩ = some (.int .i64 a.f1) ∧ w'.cell? ⟨g9, j * 2, none⟩ = some (.int .i64 b2.f0) ∧ w'.cell? ⟨g9, j * 2 + 1, none⟩ = some (.int .i64 b2.f1)) (ds := [11]) (m_ 13 0) (by kernel_rfl) rfl rfl ⟨t0, t1, t2, t3⟩ (fun hHeld => ?_)
          generalize w13.drew = wd at *
          refine pure_ (i := 0) (N := some 107) (v := ?_) (a' := ?_) (m_ 13 1) rfl rfl (by kernel_rfl) (fun _ _ _ h => h) (Or.inl ⟨by rfl, ?_⟩) ?_ ?_
          rotate_left
          ·intro w'
           go_simp
           with_reducible rfl
          rotate_left
          ·simp only [Act.put, sI_, s0_, s1_, i64_w, i32_w]
           rfl
          refine pure_ (i := 1) (N := some 108) (v := ?_) (a' := ?_) (m_ 13 3) rfl rfl (by kernel_rfl) (fun _ _ _ h => h) (Or.inl ⟨by rfl, ?_⟩) ?_ ?_
          rotate_left
          ·intro w'
           go_simp
           with_reducible rfl
          rotate_left
          ·simp only [Act.put, sI_, s0_, s1_, i64_w, i32_w]
           rfl
          refine pure_ (i := 2) (N := some 109) (v := ?_) (a' := ?_) (m_ 13 7) rfl rfl (by kernel_rfl) (fun _ _ _ h => h) (Or.inl ⟨by rfl, ?_⟩) ?_ ?_
          rotate_left
          ·intro w'
           go_simp
           with_reducible rfl
          rotate_left
          ·simp only [Act.put, sI_, s0_, s1_, i64_w, i32_w]
           rfl
          refine pure_ (i := 3) (N := some 110) (v := ?_) (a' := ?_) (m_ 13 15) rfl rfl (by kernel_rfl) (fun _ _ _ h => h) (Or.inl ⟨by rfl, ?_⟩) ?_ ?_
          rotate_left
          ·intro w'
           go_simp
           with_reducible rfl
          rotate_left
          ·simp only [Act.put, sI_, s0_, s1_, i64_w, i32_w]
           rfl
          refine take_ (i := 4) (N := some 111) (v := ?_) (a' := ?_) (m_ 13 31) rfl rfl (by kernel_rfl) (fun _ _ _ h => h) (Or.inl ⟨by rfl, ?_⟩) hHeld ?_ ?_
          rotate_left
          ·intro w' sh
           obtain ⟨s0, s1, s2, s3⟩ := sh
           go_simp
           with_reducible rfl
          rotate_left
          ·simp only [Act.put, sI_, s0_, s1_, i64_w, i32_w]
           rfl
          refine pure_ (i := 5) (N := some 112) (v := ?_) (a' := ?_) (m_ 13 63) rfl rfl (by kernel_rfl) (fun _ _ _ h => h) (Or.inl ⟨by rfl, ?_⟩) ?_ ?_
          rotate_left
          ·intro w'
           go_simp
           with_reducible rfl
          rotate_left
          ·simp only [Act.put, sI_, s0_, s1_, i64_w, i32_w]
           rfl
          refine pure_ (i := 6) (N := some 113) (v := ?_) (a' := ?_) (m_ 13 127) rfl rfl (by kernel_rfl) (fun _ _ _ h => h) (Or.inl ⟨by rfl, ?_⟩) ?_ ?_
          rotate_left
          ·intro w'
           go_simp
           with_reducible rfl
          rotate_left
          ·simp only [Act.put, sI_, s0_, s1_, i64_w, i32_w]
           rfl
          refine pure_ (i := 7) (N := some 114) (v := ?_) (a' := ?_) (m_ 13 255) rfl rfl (by kernel_rfl) (fun _ _ _ h => h) (Or.inl ⟨by rfl, ?_⟩) ?_ ?_
          rotate_left
          ·intro w'
           go_simp
           with_reducible rfl
          rotate_left
          ·simp only [Act.put, sI_, s0_, s1_, i64_w, i32_w]
           rfl
          refine take_ (i := 8) (N := some 115) (v := ?_) (a' := ?_) (m_ 13 511) rfl rfl (by kernel_rfl) (fun _ _ _ h => h) (Or.inl ⟨by rfl, ?_⟩) hHeld ?_ ?_
          rotate_left
          ·intro w' sh
           obtain ⟨s0, s1, s2, s3⟩ := sh
           go_simp
           with_reducible rfl
          rotate_left
          ·simp only [Act.put, sI_, s0_, s1_, i64_w, i32_w]
           rfl
          refine one_ (i := 9) (N := some 116) (m_ 13 1023) rfl rfl (by kernel_rfl) (by decide) (fun K hK => ?_)
          refine goes_ Tryd.func55 (by kernel_rfl) rfl #[.agg #[.int .i64 a.f0, .int .i64 a.f1], .agg #[.int .i64 b2.f0, .int .i64 b2.f1]] (by rfl) rfl rfl (by (try simp only [List.map_toArray, List.map_cons, List.map_nil]); (rfl)) ?_
          refine (spec_l2Times.calls k a.f0 a.f1 b2.f0 b2.f1 u.1 u.2 wd Hu.out).mono ?_
          rintro e w14 ⟨rfl, hb⟩
          refine ⟨_, rfl, ?_⟩
          have B14 := A_.mk (below_step Bd.out hb)
          have R14 := A_.mk (Kd.R_below Rd.out hb)
          have C14 := A_.mk (Kd.R_below Cd.out hb)
          refine hK.out _ _ ⟨(pw_cell_below hb hHeld.1).trans rfl, (pw_cell_below hb hHeld.2.1).trans rfl, (pw_cell_below hb hHeld.2.2.1).trans rfl, (pw_cell_below hb hHeld.2.2.2).trans rfl⟩ (fun hHeld2 => ?_)
          clear hK K hHeld hb Bd Rd Cd t0 t1 t2 t3
          refine norm_ (a' := ?_) ?_ ?_
          rotate_left
          ·show Act.put _ (some 116) _ = _
           simp only [Act.put, sI_, s0_, s1_, i64_w, i32_w]
           rfl
          refine one_ (i := 10) (N := some 117) (m_ 13 2047) rfl rfl (by kernel_rfl) (by decide) (fun K hK => ?_)
          refine value_ (w1 := w14.alloc (.cells #[.int .i64 u.1, .int .i64 u.2] 26)) (v := .slice (some ⟨w14.heap.size, 0, none⟩) 1 1) (by rfl) rfl (by (go_simp; done)) ?_
          have hb := below_alloc (Below.refl w14.heap.size w14) (.cells #[.int .i64 u.1, .int .i64 u.2] 26)
          refine hK.out _ _ ⟨(pw_cell_below hb hHeld2.1).trans rfl, (pw_cell_below hb hHeld2.2.1).trans rfl, (pw_cell_below hb hHeld2.2.2.1).trans rfl, (pw_cell_below hb hHeld2.2.2.2).trans rfl⟩ (fun hHeld3 => ?_)
          clear hK K hHeld2 hb
          refine norm_ (a' := ?_) ?_ ?_
          rotate_left
          ·show Act.put _ (some 117) _ = _
           simp only [Act.put, sI_, s0_, s1_, i64_w, i32_w]
           rfl
          refine last_ (i := 11) (N := some 118) (m_ 13 4095) rfl rfl (by kernel_rfl) (by decide) (fun K hK => ?_)
          refine Kd.R_append_step k26 (w0 := w8) w8.heap.size (by rfl) (.tmp 107) (.tmp 117) 47 26 (.agg #[(.int .i64 0), (.int .i64 0)]) 16 rfl Tryd.underlying47 info26 rfl (by decide) (by omega) u11 mj.2 ⟨u.1, u.2⟩ [.int .i64 u.1, .int .i64 u.2] (fun _ => True) (fun _ => False) rfl rfl (k26_mkM _ _ _ ⟨u.1, u.2⟩) (fun _ hk => hk.elim) (fun _ _ => trivial) C14.out B14.out (below_size B14.out) (len16 Hc.out.2.2.2) ?_
          intro v15 w15 ho hb hg hat
          have X15 := A_.mk (show Sx w8 w15 v13 v15 (mj.1 ++ [sm], mj.2 ++ [⟨u.1, u.2⟩]) from ⟨hb, Kd.R_over R14.out C14.out (by decide) hg, ho⟩)
          refine hK.out _ _ ?_
          clear hK K hHeld3 ho hb hg hat R14 C14 B14
          refine norm_ (a' := ?_) ?_ ?_
          rotate_left
          ·show Act.put _ (some 118) _ = _
           simp only [Act.put, sI_, s0_, s1_, i64_w, i32_w]
           rfl
          refine pure_ (i := 12) (N := some 11) (v := ?_) (a' := ?_) (m_ 13 8191) rfl rfl (by kernel_rfl) (fun _ _ _ h => h) (Or.inl ⟨by rfl, ?_⟩) ?_ ?_
          rotate_left
          ·intro w'
           go_simp
           with_reducible rfl
          rotate_left
          ·simp only [Act.put, sI_, s0_, s1_, i64_w, i32_w]
           rfl
          refine done_ (by kernel_rfl) ?_
          try go_wp2
          have hw : wrap64 ((j : Int) + 1) = ((j + 1 : Nat) : Int) := w_next (Nat.lt_of_lt_of_le hlj (Nat.le_trans Hc1.out.1 (by decide)))
          go_roundg (kj - 1)
          case measure => exact k_less hjk.out (Nat.le_of_lt hlj)
          case rel => exact ⟨j + 1, (mj.1 ++ [sm], mj.2 ++ [⟨u.1, u.2⟩]), by rw [hw], ⟨k_next hjk.out hlj⟩, ⟨hlj⟩, HR2, X15⟩
       ·rw [if_neg hc] at hpair; simp at hpair
      ·obtain rfl : j = rf.1.length := by have := hjl.out; omega
       have c7 : decide (rf.1.length < rf.1.length) = false := decide_eq_false (by omega)
       have hR := HRW.out
       rw [List.drop_length] at hR
       simp only [frowF, Option.some.injEq] at hR
       obtain rfl := hR
       go_wp2
       have hw : wrap64 ((p : Int) + 1) = ((p + 1 : Nat) : Int) := w_next (Nat.lt_of_lt_of_le hlp (Nat.le_trans Hc1.out.2 (by decide)))
       go_roundg (kp - 1)
       case measure => exact k_less hpk.out (Nat.le_of_lt hlp)
       case rel => exact ⟨p + 1, mj, by rw [hw], ⟨k_next hpk.out hlp⟩, ⟨hlp⟩, HA2, XJ⟩
    ·obtain rfl : p = st.1.length := by have := hpl.out; omega
     have c6 : decide (st.1.length < st.1.length) = false := decide_eq_false (by omega)
     have hA := HA.out
     rw [List.drop_length] at hA
     simp only [fallF, Option.some.injEq] at hA
     obtain rfl := hA
     go_wp2
     have hw : wrap64 ((i : Int) + 1) = ((i + 1 : Nat) : Int) := w_next (Nat.lt_of_lt_of_le hli (Nat.le_trans HBN.out (by decide)))
     go_roundg (ki - 1)
     case measure => exact k_less hik.out (Nat.le_of_lt hli)
     case rel => exact ⟨i + 1, mp, by rw [hw], ⟨k_next hik.out hli⟩, ⟨hli⟩, HS2, ⟨below_weaken SX8.out.bel SX8.out.size XP.out.bel, Kd.R_lower XP.out.sets SX8.out.size, Kd.R_lower XP.out.ch SX8.out.size⟩, ⟨Kd.R_below RB8.out XP.out.bel⟩, ⟨blk_below (o := .cells #[.int .i64 (N : Int), .bool ring, .slice A l.length c] 29 (0, 0)) BK8.out XP.out.bel⟩⟩
  ·obtain rfl : i = bl.length := by have := hil.out; omega
   have c5 : decide (bl.length < bl.length) = false := decide_eq_false (by omega)
   have hS := HST.out
   rw [List.drop_length] at hS
   simp only [fblockF, Option.some.injEq] at hS
   subst hS
   obtain ⟨A4, d4, e4⟩ := Kd.R_slice SX.out.sets
   subst e4
   clear RB HST
   go_wp2
   go_loopg [16] (st.1.length + 1) (fun kq v16 w' => ∃ (p : Nat) (D Rf : List (List Int)), v16 = .int .i64 (p : Int) ∧ A_ (p + kq = st.1.length + 1) ∧ A_ (D.length = p) ∧ A_ (p ≤ st.1.length) ∧ A_ (ftakesF k l (st.1.drop p) = some Rf) ∧ A_ (D ++ Rf = F) ∧ A_ (Kd.R (Kd.slice 3 (Kd.int .i64)) 22 w' w.heap.size (fun _ => True) (.slice A4 st.1.length d4) (D ++ st.1.drop p)) ∧ A_ (Kd.R k26 26 w' w.heap.size (fun _ => True) u5 st.2) ∧ A_ (Below w.heap.size w w') ∧ A_ (w'.heap[gb]? = some (.cells #[.int .i64 (N : Int), .bool ring, .slice A l.length c] 29 (0, 0))))
   case atStart => exact ⟨0, [], F, rfl, ⟨by omega⟩, ⟨rfl⟩, ⟨by omega⟩, HF, ⟨rfl⟩, ⟨SX.out.sets⟩, ⟨SX.out.ch⟩, ⟨SX.out.bel⟩, BK⟩
   case round =>
    clear SX BK HF
    obtain ⟨p, D, Rf, rfl, hpk, hD, hpl, HT, HE, RF, RC, BW, BK⟩ := hrel
    rename World => wp
    obtain ⟨kp, hkp⟩ : ∃ kp, kp = gk := ⟨_, rfl⟩
    subst hkp
    by_cases hlp : p < st.1.length
    ·have c6 : decide (p < st.1.length) = true := decide_eq_true hlp
     have hT := HT.out
     obtain ⟨x, hx⟩ : ∃ x, st.1[p] = x := ⟨_, rfl⟩
     have hgx : st.1[p]? = some x := by rw [← hx]; simp [hlp]
     have RF2 := RF.out
     rw [List.drop_eq_getElem_cons hlp, hx] at hT RF2
     simp only [ftakesF] at hT
     obtain ⟨y, hy, hT⟩ := Option.bind_eq_some_iff.mp hT
     obtain ⟨ys, hys, hT⟩ := Option.bind_eq_some_iff.mp hT
     obtain rfl := Option.some.inj hT
     obtain ⟨g4, q4, ev, -, -, -⟩ := Kd.R_form RF2 (by rw [List.length_append, List.length_cons]; exact Nat.lt_of_lt_of_le (Nat.succ_pos _) (Nat.le_add_left _ _))
     have ev1 : A4 = some ⟨g4, 0, none⟩ := by injection ev
     subst ev1
     have Hy := A_.mk hy
     have Hys := A_.mk hys
     have RF3 := A_.mk RF2
     clear hT hx hgx RF2 hy hys ev HT RF
     have s2 : wp.cell? ⟨gb, 2, none⟩ = some (.slice A l.length c) := (blk_cell BK.out 2).trans rfl
     go_wp2
     clear s2
     go_loopg [17] (l.length + 1) (fun kq v17 w' => ∃ (m : Nat) (xm : List Int), v17 = .int .i64 (m : Int) ∧ A_ (m + kq = l.length + 1) ∧ A_ (m ≤ l.length) ∧ A_ (ftakeF k xm (l.drop m) = some y) ∧ A_ (Kd.R (Kd.slice 3 (Kd.int .i64)) 22 w' w.heap.size (fun _ => True) (.slice (some ⟨g4, 0, none⟩) st.1.length d4) (D ++ xm :: st.1.drop (p + 1))) ∧ A_ (Kd.R k26 26 w' w.heap.size (fun _ => True) u5 st.2) ∧ A_ (Below w.heap.size w w') ∧ A_ (w'.heap[gb]? = some (.cells #[.int .i64 (N : Int), .bool ring, .slice A l.length c] 29 (0, 0))))
     case atStart => exact ⟨0, x, rfl, ⟨by omega⟩, ⟨by omega⟩, Hy, RF3, RC, BW, BK⟩
     case round =>
      clear Hy RF3 RC BW BK
      obtain ⟨m, xm, rfl, hmk, hml, HM, RFm, RCm, BWm, BKm⟩ := hrel
      rename World => wm
      obtain ⟨km, hkm⟩ : ∃ km, km = gk := ⟨_, rfl⟩
      subst hkm
      have s2 : wm.cell? ⟨gb, 2, none⟩ = some (.slice A l.length c) := (blk_cell BKm.out 2).trans rfl
      by_cases hlm : m < l.length
      ·have c8 : decide (m < l.length) = true := decide_eq_true hlm
       obtain ⟨ad, e, hcell⟩ := Kd.at_int (Kd.C_below HR.out BWm.out) (m : Int) (by omega) (by omega)
       cases e
       rw [Int.toNat_natCast] at hcell
       obtain ⟨z, hz⟩ : ∃ z, l[m] = z := ⟨_, rfl⟩
       have hrd : rd l (m : Int) = z := by rw [← hz]; simp [rd, List.getD, hlm]
       rw [hrd] at hcell
       have hM := HM.out
       rw [List.drop_eq_getElem_cons hlm, hz] at hM
       simp only [ftakeF] at hM
       obtain ⟨x2, hx2, hM⟩ := Option.bind_eq_some_iff.mp hM
       have hgp : (D ++ xm :: st.1.drop (p + 1))[p]? = some xm := by rw [List.getElem?_append_right (by have := hD.out; omega), hD.out, Nat.sub_self]; rfl
       have hlD : p < (D ++ xm :: st.1.drop (p + 1)).length := (List.getElem?_eq_some_iff.1 hgp).1
       obtain ⟨vxx, hvx, hRx⟩ := elemL RFm.out p hlD hgp
       have HRx := A_.mk (Kd.R_drew hRx)
       have Hx2 := A_.mk hx2
       have HM2 := A_.mk hM
       have HlD := A_.mk hlD
       clear hz hrd hM hx2 hgp hRx hlD HM
       go_wp2
       have s2d : wm.drew.cell? ⟨gb, 2, none⟩ = some (.slice (some ad) l.length c) := s2
       have hcd : wm.drew.cell? (ad.add m) = some (.int .i64 z) := hcell
       have hvd : wm.drew.cell? ⟨g4, p, none⟩ = some vxx := hvx
       have RFd := A_.mk (Kd.R_drew RFm.out)
       have RCd := A_.mk (Kd.R_drew RCm.out)
       have BWd := A_.mk (below_drew1 BWm.out)
       have BKd := A_.mk (blk_drew BKm.out)
       clear s2 hcell hvx RFm RCm BWm BKm
       refine start_ (n := 14) (S := fun w' => w'.cell? ⟨g4, p, none⟩ = some vxx ∧ w'.cell? ⟨gb, 2, none⟩ = some (.slice (some ad) l.length c) ∧ w'.cell? (ad.add m) = some (.int .i64 z)) (ds := [11, 13]) (m_ 14 0) (by kernel_rfl) rfl rfl ⟨hvd, s2d, hcd⟩ (fun hHeld => ?_)
       generalize wm.drew = wd at *
       refine pure_ (i := 0) (N := some 134) (v := ?_) (a' := ?_) (m_ 14 1) rfl rfl (by kernel_rfl) (fun _ _ _ h => h) (Or.inl ⟨by rfl, ?_⟩) ?_ ?_
       rotate_left
       ·intro w'
        go_simp
        with_reducible rfl
       rotate_left
       ·simp only [Act.put, sI_, s0_, s1_, i64_w, i32_w]
        rfl
       refine pure_ (i := 1) (N := some 135) (v := ?_) (a' := ?_) (m_ 14 3) rfl rfl (by kernel_rfl) (fun _ _ _ h => h) (Or.inl ⟨by rfl, ?_⟩) ?_ ?_
       rotate_left
       ·intro w'
        go_simp
        with_reducible rfl
       rotate_left
       ·simp only [Act.put, sI_, s0_, s1_, i64_w, i32_w]
        rfl
       refine pure_ (i := 2) (N := some 136) (v := ?_) (a' := ?_) (m_ 14 7) rfl rfl (by kernel_rfl) (fun _ _ _ h => h) (Or.inl ⟨by rfl, ?_⟩) ?_ ?_
       rotate_left
       ·intro w'
        go_simp
        with_reducible rfl
       rotate_left
       ·simp only [Act.put, sI_, s0_, s1_, i64_w, i32_w]
        rfl
       refine pure_ (i := 3) (N := some 137) (v := ?_) (a' := ?_) (m_ 14 15) rfl rfl (by kernel_rfl) (fun _ _ _ h => h) (Or.inl ⟨by rfl, ?_⟩) ?_ ?_
       rotate_left
       ·intro w'
        go_simp
        with_reducible rfl
       rotate_left
       ·simp only [Act.put, sI_, s0_, s1_, i64_w, i32_w]
        rfl
       refine pure_ (i := 4) (N := some 138) (v := ?_) (a' := ?_) (m_ 14 31) rfl rfl (by kernel_rfl) (fun _ _ _ h => h) (Or.inl ⟨by rfl, ?_⟩) ?_ ?_
       rotate_left
       ·intro w'
        go_simp
        with_reducible rfl
       rotate_left
       ·simp only [Act.put, sI_, s0_, s1_, i64_w, i32_w]
        rfl
       refine take_ (i := 5) (N := some 139) (v := ?_) (a' := ?_) (m_ 14 63) rfl rfl (by kernel_rfl) (fun _ _ _ h => h) (Or.inl ⟨by rfl, ?_⟩) hHeld ?_ ?_
       rotate_left
       ·intro w' sh
        obtain ⟨s0, s1, s2⟩ := sh
        go_simp
        with_reducible rfl
       rotate_left
       ·simp only [Act.put, sI_, s0_, s1_, i64_w, i32_w]
        rfl
       refine pure_ (i := 6) (N := some 140) (v := ?_) (a' := ?_) (m_ 14 127) rfl rfl (by kernel_rfl) (fun _ _ _ h => h) (Or.inl ⟨by rfl, ?_⟩) ?_ ?_
       rotate_left
       ·intro w'
        go_simp
        with_reducible rfl
       rotate_left
       ·simp only [Act.put, sI_, s0_, s1_, i64_w, i32_w]
        rfl
       refine take_ (i := 7) (N := some 141) (v := ?_) (a' := ?_) (m_ 14 255) rfl rfl (by kernel_rfl) (fun _ _ _ h => h) (Or.inl ⟨by rfl, ?_⟩) hHeld ?_ ?_
       rotate_left
       ·intro w' sh
        obtain ⟨s0, s1, s2⟩ := sh
        go_simp
        with_reducible rfl
       rotate_left
       ·simp only [Act.put, sI_, s0_, s1_, i64_w, i32_w]
        rfl
       refine pure_ (i := 8) (N := some 142) (v := ?_) (a' := ?_) (m_ 14 511) rfl rfl (by kernel_rfl) (fun _ _ _ h => h) (Or.inl ⟨by rfl, ?_⟩) ?_ ?_
       rotate_left
       ·intro w'
        go_simp
        with_reducible rfl
       rotate_left
       ·simp only [Act.put, sI_, s0_, s1_, i64_w, i32_w]
        rfl
       refine pure_ (i := 9) (N := some 143) (v := ?_) (a' := ?_) (m_ 14 1023) rfl rfl (by kernel_rfl) (fun _ _ _ h => h) (Or.inl ⟨by rfl, ?_⟩) ?_ ?_
       rotate_left
       ·intro w'
        go_simp
        with_reducible rfl
       rotate_left
       ·simp only [Act.put, sI_, s0_, s1_, i64_w, i32_w]
        rfl
       refine take_ (i := 10) (N := some 144) (v := ?_) (a' := ?_) (m_ 14 2047) rfl rfl (by kernel_rfl) (fun _ _ _ h => h) (Or.inl ⟨by rfl, ?_⟩) hHeld ?_ ?_
       rotate_left
       ·intro w' sh
        obtain ⟨s0, s1, s2⟩ := sh
        go_simp
        with_reducible rfl
       rotate_left
       ·simp only [Act.put, sI_, s0_, s1_, i64_w, i32_w]
        rfl
       refine last_ (i := 11) (N := some 145) (m_ 14 4095) rfl rfl (by kernel_rfl) (by decide) (fun K hK => ?_)
       refine goes_ Tryd.func54 (by kernel_rfl) rfl #[vxx, .int .i64 z] (by rfl) rfl rfl (by (try simp only [List.map_toArray, List.map_cons, List.map_nil]); (rfl)) ?_
       refine (put_calls k w wd vxx xm z x2 HRx.out (below_size BWd.out) Hx2.out).mono ?_
       rintro e w12 ⟨v12, rfl, hr, hb⟩
       refine ⟨_, rfl, ?_⟩
       have R12 := A_.mk hr
       have B12 := A_.mk (below_step BWd.out hb)
       have F12 := A_.mk (Kd.R_below RFd.out hb)
       have C12 := A_.mk (Kd.R_below RCd.out hb)
       have K12 := A_.mk (blk_below (o := .cells #[.int .i64 (N : Int), .bool ring, .slice (some ad) l.length c] 29 (0, 0)) BKd.out hb)
       refine hK.out _ _ ?_
       clear hK K hHeld hr hb RFd RCd BWd BKd HRx s2d hcd hvd
       refine norm_ (a' := ?_) ?_ ?_
       rotate_left
       ·show Act.put _ (some 145) _ = _
        simp only [Act.put, sI_, s0_, s1_, i64_w, i32_w]
        rfl
       refine pure_ (i := 12) (N := some 146) (v := ?_) (a' := ?_) (m_ 14 8191) rfl rfl (by kernel_rfl) (fun _ _ _ h => h) (Or.inl ⟨by rfl, ?_⟩) ?_ ?_
       rotate_left
       ·intro w'
        go_simp
        with_reducible rfl
       rotate_left
       ·simp only [Act.put, sI_, s0_, s1_, i64_w, i32_w]
        rfl
       refine last_ (i := 13) (N := none) (m_ 14 16383) rfl rfl (by kernel_rfl) (by decide) (fun K hK => ?_)
       obtain ⟨w13, hrun, hr, hb, hg⟩ := storeL F12.out p HlD.out v12 x2 R12.out B12.out
       refine skip_ (w1 := w13) (by rfl) rfl ?_ ?_
       ·unfold execOp
        simp [Act.eval, hrun]
       have hset : (D ++ xm :: st.1.drop (p + 1)).set p x2 = D ++ x2 :: st.1.drop (p + 1) := by
        rw [List.set_append_right _ _ (by have := hD.out; omega), hD.out, Nat.sub_self]
        rfl
       rw [hset] at hr
       have R13 := A_.mk hr
       have B13 := A_.mk hb
       have C13 := A_.mk (Kd.R_over C12.out F12.out (by decide) hg)
       have K13 := A_.mk (blk_grown K12.out hg (Kd.R_ne F12.out K12.out (by decide)))
       refine hK.out _ _ ?_
       clear hK K hrun hr hb hg hset R12 B12 F12 C12 K12
       refine done_ (by kernel_rfl) ?_
       try go_wp2
       have hw : wrap64 ((m : Int) + 1) = ((m + 1 : Nat) : Int) := w_next (Nat.lt_of_lt_of_le hlm (Nat.le_trans HLN.out (by decide)))
       go_roundg (km - 1)
       case measure => exact k_less hmk.out (Nat.le_of_lt hlm)
       case rel => exact ⟨m + 1, x2, by rw [hw], ⟨k_next hmk.out hlm⟩, ⟨hlm⟩, HM2, R13, C13, B13, K13⟩
      ·obtain rfl : m = l.length := by have := hml.out; omega
       have c8 : decide (l.length < l.length) = false := decide_eq_false (by omega)
       have hM := HM.out
       rw [List.drop_length] at hM
       simp only [ftakeF, Option.some.injEq] at hM
       subst hM
       go_wp2
       have hw : wrap64 ((p : Int) + 1) = ((p + 1 : Nat) : Int) := w_next (Nat.lt_of_lt_of_le hlp (Nat.le_trans HFN.out (by decide)))
       go_roundg (kp - 1)
       case measure => exact k_less hpk.out (Nat.le_of_lt hlp)
       case rel => exact ⟨p + 1, D ++ [xm], ys, by rw [hw], ⟨k_next hpk.out hlp⟩, ⟨by have := hD.out; simp [this]⟩, ⟨hlp⟩, Hys, ⟨by rw [List.append_assoc]; exact HE.out⟩, ⟨by rw [List.append_assoc]; exact RFm.out⟩, RCm, BWm, BKm⟩
    ·obtain rfl : p = st.1.length := by have := hpl.out; omega
     have c6 : decide (st.1.length < st.1.length) = false := decide_eq_false (by omega)
     have hT := HT.out
     rw [List.drop_length] at hT
     simp only [ftakesF, Option.some.injEq] at hT
     subst hT
     have e1 := HE.out
     rw [List.append_nil] at e1
     subst e1
     have R1 := RF.out
     rw [List.drop_length, List.append_nil] at R1
     have R2 := A_.mk R1
     clear R1 hD
     go_wp2
     go_ret2
     exact ⟨_, _, rfl, R2.out, RC.out, BW.out⟩

end Go.Proofs.YtihifglmnjocfaaDoor.PFnExactFinalRows
