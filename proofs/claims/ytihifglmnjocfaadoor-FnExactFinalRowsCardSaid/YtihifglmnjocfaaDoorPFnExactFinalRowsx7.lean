/- Given functions as plain Lean functions, and that their calls answer these. -/
import Derived.Test.YtihifglmnjocfaaDoorPFnExactFinalRowsx0
import Derived.Test.YtihifglmnjocfaaDoorPFnExactFinalRowsx6
namespace Go.Proofs.YtihifglmnjocfaaDoor.PFnExactFinalRows
open Go.RowKit Go.Proofs.YtihifglmnjocfaaDoorW.PrintWords Go.Proofs.YtihifglmnjocfaaDoorW.PrintLast Go.Proofs.YtihifglmnjocfaaDoorW.PrintMore
attribute [local go_sem] max2_int min2_int max_two min_two max_three min_three max_four min_four
set_option maxHeartbeats 8000000
set_option maxRecDepth 100000
set_option linter.unusedVariables false
set_option linter.unusedSimpArgs false

theorem joinX7_ {P : Program} {md : Region.Mode} {ops : Array Oper} {Q : Exit → Act → World → Prop} {S : World → Prop} {ds : List Nat} {σ : Type} {fuel : Nat} {l : Array Bool} {a : Act} {w : World} (fuel' : Nat) (l' : Array Bool) (ns : σ → List (Tmp × Value)) (F : σ → World → Prop)
    (h : (∀ s w', F s w' → wpAnyLast P md ops Q S ds fuel' l' (putAll a (ns s)) w') → wpAnyLast P md ops Q S ds fuel l a w)
    (hcont : ∀ s w', F s w' → wpAnyLast P md ops Q S ds fuel' l' (putAll a (ns s)) w') : wpAnyLast P md ops Q S ds fuel l a w := join_ fuel' l' ns F hcont h
/-! ### spec_l2Times: function 55 -/
def spec_l2Times.f (k : Nat) (a0_0 : Int) (a0_1 : Int) (a1_0 : Int) (a1_1 : Int) : Option (Int × Int) := (spec_l2Cut.f k a0_0 a1_1).bind fun bt261 => ((spec_l2Cut.f k a1_0 a0_1).bind fun bt263 => (some (wrap64 (bt261.1 * bt263.1), wrap64 (bt261.2 * bt263.2))))
theorem spec_l2Times.mono : ∀ a0 a1 a2 a3 k, LeO (spec_l2Times.f k a0 a1 a2 a3) (spec_l2Times.f (k + 1) a0 a1 a2 a3) := by
 intro a0 a1 a2 a3 k
 unfold spec_l2Times.f
 repeat' first
   | (with_reducible exact spec_l2Cut.mono _ _ _)
   | (with_reducible exact LeO.refl _)
   | (with_reducible exact LeO.none _)
   | (with_reducible refine LeO.ite ?_ ?_)
   | (with_reducible refine LeO.bind ?_ (fun _ => ?_))
   | exact spec_l2Cut.mono _ _ _
   | exact LeO.none _
   | refine LeO.ite ?_ ?_
   | refine LeO.bind ?_ (fun _ => ?_)
def spec_l2Times.T1 : Bool × List (List Nat × List Nat) := (true, [([], []), ([0], [0]), ([], []), ([2], [2]), ([1, 3], [1, 3]), ([], []), ([5], [5]), ([], []), ([7], [7]), ([6, 8, 4], [6, 8]), ([], []), ([], []), ([10, 4, 9, 0, 1, 2, 3, 4, 10, 11], [4, 10]), ([11, 9, 12, 0, 1, 2, 3, 4, 5, 6, 7, 8, 9, 10, 11, 12], [9, 11])])
def spec_l2Times.B1 : List Nat := [0, 1, 0, 4, 15, 0, 32, 0, 128, 511, 0, 0, 4095, 8191]
theorem spec_l2Times.tab1 : rtab .any (opsOf Tryd.f55 1) = spec_l2Times.T1 := by kernel_rfl
theorem spec_l2Times.bits1 : waitsOk spec_l2Times.T1.2 spec_l2Times.B1 = true := by kernel_rfl
theorem spec_l2Times.calls (k : Nat) (a0_0 : Int) (a0_1 : Int) (a1_0 : Int) (a1_1 : Int) (r1 : Int) (r2 : Int) (w : World) (h : spec_l2Times.f k a0_0 a0_1 a1_0 a1_1 = some (r1, r2)) :
  Calls Tryd.prog 55 #[.agg #[.int .i64 a0_0, .int .i64 a0_1], .agg #[.int .i64 a1_0, .int .i64 a1_1]] w fun e w' => e = .returned (.agg #[.int .i64 r1, .int .i64 r2]) ∧ Below w.heap.size w w' := by
 have hu26 := Tryd.underlying26
 have HB := A_.mk (Below.refl w.heap.size w)
 have H : ((spec_l2Cut.f k a0_0 a1_1).bind fun bt261 => ((spec_l2Cut.f k a1_0 a0_1).bind fun bt263 => (some (wrap64 (bt261.1 * bt263.1), wrap64 (bt261.2 * bt263.2))))) = some (r1, r2) := h
 clear h
 replace H := Option.bind_eq_some_iff.mp H
 obtain ⟨⟨t261, t262⟩, A30, H⟩ := H
 replace H : ((spec_l2Cut.f k a1_0 a0_1).bind fun bt263 => (some (wrap64 (t261 * bt263.1), wrap64 (t262 * bt263.2)))) = some (r1, r2) := H
 have A3 := A_.mk A30
 clear A30
 replace H := Option.bind_eq_some_iff.mp H
 obtain ⟨⟨t263, t264⟩, A40, H⟩ := H
 replace H : (some (wrap64 (t261 * t263), wrap64 (t262 * t264))) = some (r1, r2) := H
 have A4 := A_.mk A40
 clear A40
 simp only [Option.some.injEq, Prod.mk.injEq] at H
 obtain ⟨rfl, rfl⟩ := H
 go_enter Tryd.func55, Tryd.ntmps55
 try go_wp2_with (first | ((with_reducible refine gate_dst (N := 2) rfl ?_); refine box_event ?hg (N := 2) ?hd (cs := #[.int .i64 a0_0, .int .i64 a0_1]) (t := 26) ?hr ?_; (case hd => rfl); (case hg => rfl); (case hr => (go_simp; done)); intro gb258 hg w5 hbox hb; replace HB := A_.mk (below_step HB.out hb); have BK258 := A_.mk (hbox); clear hb hbox hg) | ((with_reducible refine gate_dst (N := 3) rfl ?_); refine box_event ?hg (N := 3) ?hd (cs := #[.int .i64 a1_0, .int .i64 a1_1]) (t := 26) ?hr ?_; (case hd => rfl); (case hg => rfl); (case hr => (go_simp; done)); intro gb259 hg w6 hbox hb; replace BK258 := A_.mk (blk_below BK258.out hb); replace HB := A_.mk (below_step HB.out hb); have BK259 := A_.mk (hbox); clear hb hbox hg) | ((with_reducible refine gate_dst (N := 4) rfl ?_); refine box_event ?hg (N := 4) ?hd (cs := #[.int .i64 0, .int .i64 0]) (t := 26) ?hr ?_; (case hd => rfl); (case hg => rfl); (case hr => (go_simp; done)); intro gb260 hg w7 hbox hb; have BK260 := A_.mk (hbox); have GE260 := A_.mk ((by rw [hg]; exact (below_size HB.out) : w.heap.size ≤ gb260)); replace HB := A_.mk (below_step HB.out hb); have NB258_260 := A_.mk ((by rw [hg]; exact Nat.ne_of_lt (blk_lt BK258.out) : gb258 ≠ gb260)); have NB260_258 := A_.mk ((by rw [hg]; exact Nat.ne_of_gt (blk_lt BK258.out) : gb260 ≠ gb258)); replace BK258 := A_.mk (blk_below BK258.out hb); have NB259_260 := A_.mk ((by rw [hg]; exact Nat.ne_of_lt (blk_lt BK259.out) : gb259 ≠ gb260)); have NB260_259 := A_.mk ((by rw [hg]; exact Nat.ne_of_gt (blk_lt BK259.out) : gb260 ≠ gb259)); replace BK259 := A_.mk (blk_below BK259.out hb); clear hb hbox hg))
 replace BK258 := A_.mk (blk_drew BK258.out)
 replace BK259 := A_.mk (blk_drew BK259.out)
 replace BK260 := A_.mk (blk_drew BK260.out)
 replace HB := A_.mk (below_drew1 HB.out)
 refine start_ (n := 14) (S := fun w' => w'.cell? ⟨gb258, 0, none⟩ = some (.int .i64 a0_0) ∧ w'.cell? ⟨gb258, 1, none⟩ = some (.int .i64 a0_1) ∧ w'.cell? ⟨gb259, 0, none⟩ = some (.int .i64 a1_0) ∧ w'.cell? ⟨gb259, 1, none⟩ = some (.int .i64 a1_1)) (ds := []) (m_ 14 0) (by kernel_rfl) rfl rfl ⟨(blk_cell BK258.out 0).trans rfl, (blk_cell BK258.out 1).trans rfl, (blk_cell BK259.out 0).trans rfl, (blk_cell BK259.out 1).trans rfl⟩ (fun hHeld => ?_); refine with_tabW spec_l2Times.tab1 spec_l2Times.bits1 (fun HT_ HW_ => ?_)
 generalize w7.drew = w8 at BK258 BK259 BK260 HB hHeld ⊢
 refine pure_ (i := 0) (N := some 7) (v := ?_) (a' := ?_) (m_ 14 1) rfl rfl (any_of HT_.out (by kernel_rfl)) (fun _ _ _ h => h) (Or.inl ⟨by rfl, ?_⟩) ?_ ?_
 rotate_left
 ·intro w'
  go_simp
  with_reducible rfl
 rotate_left
 ·simp only [Act.put, sI_, s0_, s1_, i64_w, i32_w]
  rfl
 refine pure_ (i := 2) (N := some 9) (v := ?_) (a' := ?_) (m_ 14 5) rfl rfl (any_of HT_.out (by kernel_rfl)) (fun _ _ _ h => h) (Or.inl ⟨by rfl, ?_⟩) ?_ ?_
 rotate_left
 ·intro w'
  go_simp
  with_reducible rfl
 rotate_left
 ·simp only [Act.put, sI_, s0_, s1_, i64_w, i32_w]
  rfl
 refine pure_ (i := 5) (N := some 12) (v := ?_) (a' := ?_) (m_ 14 37) rfl rfl (any_of HT_.out (by kernel_rfl)) (fun _ _ _ h => h) (Or.inl ⟨by rfl, ?_⟩) ?_ ?_
 rotate_left
 ·intro w'
  go_simp
  with_reducible rfl
 rotate_left
 ·simp only [Act.put, sI_, s0_, s1_, i64_w, i32_w]
  rfl
 refine pure_ (i := 7) (N := some 14) (v := ?_) (a' := ?_) (m_ 14 165) rfl rfl (any_of HT_.out (by kernel_rfl)) (fun _ _ _ h => h) (Or.inl ⟨by rfl, ?_⟩) ?_ ?_
 rotate_left
 ·intro w'
  go_simp
  with_reducible rfl
 rotate_left
 ·simp only [Act.put, sI_, s0_, s1_, i64_w, i32_w]
  rfl
 refine take_ (i := 1) (N := some 8) (v := ?_) (a' := ?_) (m_ 14 167) rfl rfl (take_ofW HT_.out HW_.out (by kernel_rfl)) (fun _ _ _ h => h) (Or.inl ⟨by rfl, ?_⟩) hHeld ?_ ?_
 rotate_left
 ·rintro w' ⟨s0, s1, s2, s3⟩
  go_simp
  with_reducible rfl
 rotate_left
 ·simp only [Act.put, sI_, s0_, s1_, i64_w, i32_w]
  rfl
 refine take_ (i := 3) (N := some 10) (v := ?_) (a' := ?_) (m_ 14 175) rfl rfl (take_ofW HT_.out HW_.out (by kernel_rfl)) (fun _ _ _ h => h) (Or.inl ⟨by rfl, ?_⟩) hHeld ?_ ?_
 rotate_left
 ·rintro w' ⟨s0, s1, s2, s3⟩
  go_simp
  with_reducible rfl
 rotate_left
 ·simp only [Act.put, sI_, s0_, s1_, i64_w, i32_w]
  rfl
 refine take_ (i := 6) (N := some 13) (v := ?_) (a' := ?_) (m_ 14 239) rfl rfl (take_ofW HT_.out HW_.out (by kernel_rfl)) (fun _ _ _ h => h) (Or.inl ⟨by rfl, ?_⟩) hHeld ?_ ?_
 rotate_left
 ·rintro w' ⟨s0, s1, s2, s3⟩
  go_simp
  with_reducible rfl
 rotate_left
 ·simp only [Act.put, sI_, s0_, s1_, i64_w, i32_w]
  rfl
 refine take_ (i := 8) (N := some 15) (v := ?_) (a' := ?_) (m_ 14 495) rfl rfl (take_ofW HT_.out HW_.out (by kernel_rfl)) (fun _ _ _ h => h) (Or.inl ⟨by rfl, ?_⟩) hHeld ?_ ?_
 rotate_left
 ·rintro w' ⟨s0, s1, s2, s3⟩
  go_simp
  with_reducible rfl
 rotate_left
 ·simp only [Act.put, sI_, s0_, s1_, i64_w, i32_w]
  rfl
 refine joinX7_ (σ := Nat × Nat) 2 (m_ 14 4095) (fun s_ => [(11, .agg #[.int .i64 t261, .int .i64 t262]), (16, .agg #[.int .i64 t263, .int .i64 t264]), (5, .pointer (some ⟨s_.1, 0, none⟩)), (6, .pointer (some ⟨s_.2, 0, none⟩))]) (fun s_ w' => (w'.cell? ⟨gb258, 0, none⟩ = some (.int .i64 a0_0) ∧ w'.cell? ⟨gb258, 1, none⟩ = some (.int .i64 a0_1) ∧ w'.cell? ⟨gb259, 0, none⟩ = some (.int .i64 a1_0) ∧ w'.cell? ⟨gb259, 1, none⟩ = some (.int .i64 a1_1)) ∧ (w'.heap[gb258]? = some (.cells #[.int .i64 a0_0, .int .i64 a0_1] 26 (0, 0))) ∧ (w'.heap[gb259]? = some (.cells #[.int .i64 a1_0, .int .i64 a1_1] 26 (0, 0))) ∧ (w'.heap[gb260]? = some (.cells #[.int .i64 0, .int .i64 0] 26 (0, 0))) ∧ (w'.heap[s_.1]? = some (.cells #[.int .i64 0, .int .i64 0] 26 (0, 0))) ∧ (w'.heap[s_.2]? = some (.cells #[.int .i64 0, .int .i64 0] 26 (0, 0))) ∧ (w.heap.size ≤ s_.1) ∧ (w.heap.size ≤ s_.1) ∧ (gb258 ≠ s_.1) ∧ (s_.1 ≠ gb258) ∧ (gb259 ≠ s_.1) ∧ (s_.1 ≠ gb259) ∧ (gb260 ≠ s_.1) ∧ (s_.1 ≠ gb260) ∧ (s_.2 ≠ s_.1) ∧ (s_.1 ≠ s_.2) ∧ (w.heap.size ≤ s_.2) ∧ (w.heap.size ≤ s_.2) ∧ (gb258 ≠ s_.2) ∧ (s_.2 ≠ gb258) ∧ (gb259 ≠ s_.2) ∧ (s_.2 ≠ gb259) ∧ (gb260 ≠ s_.2) ∧ (s_.2 ≠ gb260) ∧ (Below w.heap.size w w')) ?_ ?_
 intro hJ4_9_10_11
 refine joinX7_ (σ := Nat) 3 (m_ 14 2047) (fun s_ => [(11, .agg #[.int .i64 t261, .int .i64 t262]), (16, .agg #[.int .i64 t263, .int .i64 t264]), (5, .pointer (some ⟨s_, 0, none⟩))]) (fun s_ w' => (w'.cell? ⟨gb258, 0, none⟩ = some (.int .i64 a0_0) ∧ w'.cell? ⟨gb258, 1, none⟩ = some (.int .i64 a0_1) ∧ w'.cell? ⟨gb259, 0, none⟩ = some (.int .i64 a1_0) ∧ w'.cell? ⟨gb259, 1, none⟩ = some (.int .i64 a1_1)) ∧ (w'.heap[gb258]? = some (.cells #[.int .i64 a0_0, .int .i64 a0_1] 26 (0, 0))) ∧ (w'.heap[gb259]? = some (.cells #[.int .i64 a1_0, .int .i64 a1_1] 26 (0, 0))) ∧ (w'.heap[gb260]? = some (.cells #[.int .i64 0, .int .i64 0] 26 (0, 0))) ∧ (w'.heap[s_]? = some (.cells #[.int .i64 0, .int .i64 0] 26 (0, 0))) ∧ (w.heap.size ≤ s_) ∧ (w.heap.size ≤ s_) ∧ (gb258 ≠ s_) ∧ (s_ ≠ gb258) ∧ (gb259 ≠ s_) ∧ (s_ ≠ gb259) ∧ (gb260 ≠ s_) ∧ (s_ ≠ gb260) ∧ (Below w.heap.size w w')) ?_ ?_
 intro hJ4_9_10
 refine joinX7_ (σ := Nat) 3 (m_ 14 3071) (fun s_ => [(11, .agg #[.int .i64 t261, .int .i64 t262]), (16, .agg #[.int .i64 t263, .int .i64 t264]), (6, .pointer (some ⟨s_, 0, none⟩))]) (fun s_ w' => (w'.cell? ⟨gb258, 0, none⟩ = some (.int .i64 a0_0) ∧ w'.cell? ⟨gb258, 1, none⟩ = some (.int .i64 a0_1) ∧ w'.cell? ⟨gb259, 0, none⟩ = some (.int .i64 a1_0) ∧ w'.cell? ⟨gb259, 1, none⟩ = some (.int .i64 a1_1)) ∧ (w'.heap[gb258]? = some (.cells #[.int .i64 a0_0, .int .i64 a0_1] 26 (0, 0))) ∧ (w'.heap[gb259]? = some (.cells #[.int .i64 a1_0, .int .i64 a1_1] 26 (0, 0))) ∧ (w'.heap[gb260]? = some (.cells #[.int .i64 0, .int .i64 0] 26 (0, 0))) ∧ (w'.heap[s_]? = some (.cells #[.int .i64 0, .int .i64 0] 26 (0, 0))) ∧ (w.heap.size ≤ s_) ∧ (w.heap.size ≤ s_) ∧ (gb258 ≠ s_) ∧ (s_ ≠ gb258) ∧ (gb259 ≠ s_) ∧ (s_ ≠ gb259) ∧ (gb260 ≠ s_) ∧ (s_ ≠ gb260) ∧ (Below w.heap.size w w')) ?_ ?_
 intro hJ4_9_11
 refine joinX7_ (σ := Nat × Nat) 3 (m_ 14 3583) (fun s_ => [(11, .agg #[.int .i64 t261, .int .i64 t262]), (5, .pointer (some ⟨s_.1, 0, none⟩)), (6, .pointer (some ⟨s_.2, 0, none⟩))]) (fun s_ w' => (w'.cell? ⟨gb258, 0, none⟩ = some (.int .i64 a0_0) ∧ w'.cell? ⟨gb258, 1, none⟩ = some (.int .i64 a0_1) ∧ w'.cell? ⟨gb259, 0, none⟩ = some (.int .i64 a1_0) ∧ w'.cell? ⟨gb259, 1, none⟩ = some (.int .i64 a1_1)) ∧ (w'.heap[gb258]? = some (.cells #[.int .i64 a0_0, .int .i64 a0_1] 26 (0, 0))) ∧ (w'.heap[gb259]? = some (.cells #[.int .i64 a1_0, .int .i64 a1_1] 26 (0, 0))) ∧ (w'.heap[gb260]? = some (.cells #[.int .i64 0, .int .i64 0] 26 (0, 0))) ∧ (w'.heap[s_.1]? = some (.cells #[.int .i64 0, .int .i64 0] 26 (0, 0))) ∧ (w'.heap[s_.2]? = some (.cells #[.int .i64 0, .int .i64 0] 26 (0, 0))) ∧ (w.heap.size ≤ s_.1) ∧ (w.heap.size ≤ s_.1) ∧ (gb258 ≠ s_.1) ∧ (s_.1 ≠ gb258) ∧ (gb259 ≠ s_.1) ∧ (s_.1 ≠ gb259) ∧ (gb260 ≠ s_.1) ∧ (s_.1 ≠ gb260) ∧ (s_.2 ≠ s_.1) ∧ (s_.1 ≠ s_.2) ∧ (w.heap.size ≤ s_.2) ∧ (w.heap.size ≤ s_.2) ∧ (gb258 ≠ s_.2) ∧ (s_.2 ≠ gb258) ∧ (gb259 ≠ s_.2) ∧ (s_.2 ≠ gb259) ∧ (gb260 ≠ s_.2) ∧ (s_.2 ≠ gb260) ∧ (Below w.heap.size w w')) ?_ ?_
 intro hJ4_10_11
 refine joinX7_ (σ := Unit) 4 (m_ 14 1023) (fun s_ => [(11, .agg #[.int .i64 t261, .int .i64 t262]), (16, .agg #[.int .i64 t263, .int .i64 t264])]) (fun s_ w' => (w'.cell? ⟨gb258, 0, none⟩ = some (.int .i64 a0_0) ∧ w'.cell? ⟨gb258, 1, none⟩ = some (.int .i64 a0_1) ∧ w'.cell? ⟨gb259, 0, none⟩ = some (.int .i64 a1_0) ∧ w'.cell? ⟨gb259, 1, none⟩ = some (.int .i64 a1_1)) ∧ (w'.heap[gb258]? = some (.cells #[.int .i64 a0_0, .int .i64 a0_1] 26 (0, 0))) ∧ (w'.heap[gb259]? = some (.cells #[.int .i64 a1_0, .int .i64 a1_1] 26 (0, 0))) ∧ (w'.heap[gb260]? = some (.cells #[.int .i64 0, .int .i64 0] 26 (0, 0))) ∧ (Below w.heap.size w w')) ?_ ?_
 intro hJ4_9
 refine joinX7_ (σ := Nat) 4 (m_ 14 1535) (fun s_ => [(11, .agg #[.int .i64 t261, .int .i64 t262]), (5, .pointer (some ⟨s_, 0, none⟩))]) (fun s_ w' => (w'.cell? ⟨gb258, 0, none⟩ = some (.int .i64 a0_0) ∧ w'.cell? ⟨gb258, 1, none⟩ = some (.int .i64 a0_1) ∧ w'.cell? ⟨gb259, 0, none⟩ = some (.int .i64 a1_0) ∧ w'.cell? ⟨gb259, 1, none⟩ = some (.int .i64 a1_1)) ∧ (w'.heap[gb258]? = some (.cells #[.int .i64 a0_0, .int .i64 a0_1] 26 (0, 0))) ∧ (w'.heap[gb259]? = some (.cells #[.int .i64 a1_0, .int .i64 a1_1] 26 (0, 0))) ∧ (w'.heap[gb260]? = some (.cells #[.int .i64 0, .int .i64 0] 26 (0, 0))) ∧ (w'.heap[s_]? = some (.cells #[.int .i64 0, .int .i64 0] 26 (0, 0))) ∧ (w.heap.size ≤ s_) ∧ (w.heap.size ≤ s_) ∧ (gb258 ≠ s_) ∧ (s_ ≠ gb258) ∧ (gb259 ≠ s_) ∧ (s_ ≠ gb259) ∧ (gb260 ≠ s_) ∧ (s_ ≠ gb260) ∧ (Below w.heap.size w w')) ?_ ?_
 intro hJ4_10
 refine joinX7_ (σ := Nat) 4 (m_ 14 2559) (fun s_ => [(11, .agg #[.int .i64 t261, .int .i64 t262]), (6, .pointer (some ⟨s_, 0, none⟩))]) (fun s_ w' => (w'.cell? ⟨gb258, 0, none⟩ = some (.int .i64 a0_0) ∧ w'.cell? ⟨gb258, 1, none⟩ = some (.int .i64 a0_1) ∧ w'.cell? ⟨gb259, 0, none⟩ = some (.int .i64 a1_0) ∧ w'.cell? ⟨gb259, 1, none⟩ = some (.int .i64 a1_1)) ∧ (w'.heap[gb258]? = some (.cells #[.int .i64 a0_0, .int .i64 a0_1] 26 (0, 0))) ∧ (w'.heap[gb259]? = some (.cells #[.int .i64 a1_0, .int .i64 a1_1] 26 (0, 0))) ∧ (w'.heap[gb260]? = some (.cells #[.int .i64 0, .int .i64 0] 26 (0, 0))) ∧ (w'.heap[s_]? = some (.cells #[.int .i64 0, .int .i64 0] 26 (0, 0))) ∧ (w.heap.size ≤ s_) ∧ (w.heap.size ≤ s_) ∧ (gb258 ≠ s_) ∧ (s_ ≠ gb258) ∧ (gb259 ≠ s_) ∧ (s_ ≠ gb259) ∧ (gb260 ≠ s_) ∧ (s_ ≠ gb260) ∧ (Below w.heap.size w w')) ?_ ?_
 intro hJ4_11
 refine joinX7_ (σ := Nat × Nat) 4 (m_ 14 3567) (fun s_ => [(5, .pointer (some ⟨s_.1, 0, none⟩)), (6, .pointer (some ⟨s_.2, 0, none⟩))]) (fun s_ w' => (w'.cell? ⟨gb258, 0, none⟩ = some (.int .i64 a0_0) ∧ w'.cell? ⟨gb258, 1, none⟩ = some (.int .i64 a0_1) ∧ w'.cell? ⟨gb259, 0, none⟩ = some (.int .i64 a1_0) ∧ w'.cell? ⟨gb259, 1, none⟩ = some (.int .i64 a1_1)) ∧ (w'.heap[gb258]? = some (.cells #[.int .i64 a0_0, .int .i64 a0_1] 26 (0, 0))) ∧ (w'.heap[gb259]? = some (.cells #[.int .i64 a1_0, .int .i64 a1_1] 26 (0, 0))) ∧ (w'.heap[gb260]? = some (.cells #[.int .i64 0, .int .i64 0] 26 (0, 0))) ∧ (w'.heap[s_.1]? = some (.cells #[.int .i64 0, .int .i64 0] 26 (0, 0))) ∧ (w'.heap[s_.2]? = some (.cells #[.int .i64 0, .int .i64 0] 26 (0, 0))) ∧ (w.heap.size ≤ s_.1) ∧ (w.heap.size ≤ s_.1) ∧ (gb258 ≠ s_.1) ∧ (s_.1 ≠ gb258) ∧ (gb259 ≠ s_.1) ∧ (s_.1 ≠ gb259) ∧ (gb260 ≠ s_.1) ∧ (s_.1 ≠ gb260) ∧ (s_.2 ≠ s_.1) ∧ (s_.1 ≠ s_.2) ∧ (w.heap.size ≤ s_.2) ∧ (w.heap.size ≤ s_.2) ∧ (gb258 ≠ s_.2) ∧ (s_.2 ≠ gb258) ∧ (gb259 ≠ s_.2) ∧ (s_.2 ≠ gb259) ∧ (gb260 ≠ s_.2) ∧ (s_.2 ≠ gb260) ∧ (Below w.heap.size w w')) ?_ ?_
 intro hJ10_11
 refine joinX7_ (σ := Unit) 5 (m_ 14 511) (fun s_ => [(11, .agg #[.int .i64 t261, .int .i64 t262])]) (fun s_ w' => (w'.cell? ⟨gb258, 0, none⟩ = some (.int .i64 a0_0) ∧ w'.cell? ⟨gb258, 1, none⟩ = some (.int .i64 a0_1) ∧ w'.cell? ⟨gb259, 0, none⟩ = some (.int .i64 a1_0) ∧ w'.cell? ⟨gb259, 1, none⟩ = some (.int .i64 a1_1)) ∧ (w'.heap[gb258]? = some (.cells #[.int .i64 a0_0, .int .i64 a0_1] 26 (0, 0))) ∧ (w'.heap[gb259]? = some (.cells #[.int .i64 a1_0, .int .i64 a1_1] 26 (0, 0))) ∧ (w'.heap[gb260]? = some (.cells #[.int .i64 0, .int .i64 0] 26 (0, 0))) ∧ (Below w.heap.size w w')) ?_ ?_
 intro hJ4
 refine joinX7_ (σ := Nat) 5 (m_ 14 1519) (fun s_ => [(5, .pointer (some ⟨s_, 0, none⟩))]) (fun s_ w' => (w'.cell? ⟨gb258, 0, none⟩ = some (.int .i64 a0_0) ∧ w'.cell? ⟨gb258, 1, none⟩ = some (.int .i64 a0_1) ∧ w'.cell? ⟨gb259, 0, none⟩ = some (.int .i64 a1_0) ∧ w'.cell? ⟨gb259, 1, none⟩ = some (.int .i64 a1_1)) ∧ (w'.heap[gb258]? = some (.cells #[.int .i64 a0_0, .int .i64 a0_1] 26 (0, 0))) ∧ (w'.heap[gb259]? = some (.cells #[.int .i64 a1_0, .int .i64 a1_1] 26 (0, 0))) ∧ (w'.heap[gb260]? = some (.cells #[.int .i64 0, .int .i64 0] 26 (0, 0))) ∧ (w'.heap[s_]? = some (.cells #[.int .i64 0, .int .i64 0] 26 (0, 0))) ∧ (w.heap.size ≤ s_) ∧ (w.heap.size ≤ s_) ∧ (gb258 ≠ s_) ∧ (s_ ≠ gb258) ∧ (gb259 ≠ s_) ∧ (s_ ≠ gb259) ∧ (gb260 ≠ s_) ∧ (s_ ≠ gb260) ∧ (Below w.heap.size w w')) ?_ ?_
 intro hJ10
 refine joinX7_ (σ := Nat) 5 (m_ 14 2543) (fun s_ => [(6, .pointer (some ⟨s_, 0, none⟩))]) (fun s_ w' => (w'.cell? ⟨gb258, 0, none⟩ = some (.int .i64 a0_0) ∧ w'.cell? ⟨gb258, 1, none⟩ = some (.int .i64 a0_1) ∧ w'.cell? ⟨gb259, 0, none⟩ = some (.int .i64 a1_0) ∧ w'.cell? ⟨gb259, 1, none⟩ = some (.int .i64 a1_1)) ∧ (w'.heap[gb258]? = some (.cells #[.int .i64 a0_0, .int .i64 a0_1] 26 (0, 0))) ∧ (w'.heap[gb259]? = some (.cells #[.int .i64 a1_0, .int .i64 a1_1] 26 (0, 0))) ∧ (w'.heap[gb260]? = some (.cells #[.int .i64 0, .int .i64 0] 26 (0, 0))) ∧ (w'.heap[s_]? = some (.cells #[.int .i64 0, .int .i64 0] 26 (0, 0))) ∧ (w.heap.size ≤ s_) ∧ (w.heap.size ≤ s_) ∧ (gb258 ≠ s_) ∧ (s_ ≠ gb258) ∧ (gb259 ≠ s_) ∧ (s_ ≠ gb259) ∧ (gb260 ≠ s_) ∧ (s_ ≠ gb260) ∧ (Below w.heap.size w w')) ?_ ?_
 intro hJ11
 refine three_ (i := 4) (j := 10) (k := 11) (Ni := some 11) (Nj := some 5) (Nk := some 6) (m_ 14 511) (m_ 14 1519) (m_ 14 2543) rfl rfl rfl rfl rfl rfl (three_of HT_.out (by kernel_rfl)) (by decide) (by decide) (by decide) (fun K hK => ?_) (fun K hK => ?_) (fun K hK => ?_)
 ·refine goes_ Tryd.func69 (by kernel_rfl) rfl #[.int .i64 a0_0, .int .i64 a1_1] (by rfl) rfl rfl (by (try simp only [List.map_toArray, List.map_cons, List.map_nil]); (rfl)) ?_
  with_reducible refine (spec_l2Cut.calls k a0_0 a1_1 t261 t262 _ A3.out).mono ?_
  rintro e w9 ⟨rfl, hb⟩
  refine ⟨_, rfl, ?_⟩
  replace BK258 := A_.mk (blk_below BK258.out hb)
  replace BK259 := A_.mk (blk_below BK259.out hb)
  replace BK260 := A_.mk (blk_below BK260.out hb)
  replace HB := A_.mk (below_step HB.out hb)
  (try clear hb)
  skip
  skip
  skip
  refine hK.out _ _ ⟨(blk_cell BK258.out 0).trans rfl, (blk_cell BK258.out 1).trans rfl, (blk_cell BK259.out 0).trans rfl, (blk_cell BK259.out 1).trans rfl⟩ (fun hHeld => ?_)
  clear hK K
  exact norm_ (by simp only [putAll, Act.put, sI_, s0_, s1_]; try rfl) (hJ4 () _ ⟨hHeld, BK258.out, BK259.out, BK260.out, HB.out⟩)
 ·refine box_step ?hg (N := 5) ?hd (cs := #[.int .i64 0, .int .i64 0]) (t := 26) ?hr ?_; (case hd => rfl); (case hg => rfl); (case hr => (go_simp; done))
  intro gb265 hg w9 hbox hb
  have BK265 := A_.mk (hbox)
  have GW265 := A_.mk ((by rw [hg]; exact (below_size HB.out) : w.heap.size ≤ gb265))
  have GE265 := A_.mk ((by rw [hg]; exact (below_size HB.out) : w.heap.size ≤ gb265))
  replace HB := A_.mk (below_step HB.out hb)
  have NB258_265 := A_.mk ((by rw [hg]; exact Nat.ne_of_lt (blk_lt BK258.out) : gb258 ≠ gb265))
  have NB265_258 := A_.mk ((by rw [hg]; exact Nat.ne_of_gt (blk_lt BK258.out) : gb265 ≠ gb258))
  replace BK258 := A_.mk (blk_below BK258.out hb)
  have NB259_265 := A_.mk ((by rw [hg]; exact Nat.ne_of_lt (blk_lt BK259.out) : gb259 ≠ gb265))
  have NB265_259 := A_.mk ((by rw [hg]; exact Nat.ne_of_gt (blk_lt BK259.out) : gb265 ≠ gb259))
  replace BK259 := A_.mk (blk_below BK259.out hb)
  have NB260_265 := A_.mk ((by rw [hg]; exact Nat.ne_of_lt (blk_lt BK260.out) : gb260 ≠ gb265))
  have NB265_260 := A_.mk ((by rw [hg]; exact Nat.ne_of_gt (blk_lt BK260.out) : gb265 ≠ gb260))
  replace BK260 := A_.mk (blk_below BK260.out hb)
  clear hb hbox hg
  refine hK.out _ _ ⟨(blk_cell BK258.out 0).trans rfl, (blk_cell BK258.out 1).trans rfl, (blk_cell BK259.out 0).trans rfl, (blk_cell BK259.out 1).trans rfl⟩ (fun hHeld => ?_)
  clear hK K
  exact norm_ (by simp only [putAll, Act.put, sI_, s0_, s1_]; try rfl) (hJ10 (gb265) _ ⟨hHeld, BK258.out, BK259.out, BK260.out, BK265.out, GW265.out, GE265.out, NB258_265.out, NB265_258.out, NB259_265.out, NB265_259.out, NB260_265.out, NB265_260.out, HB.out⟩)
 ·refine box_step ?hg (N := 6) ?hd (cs := #[.int .i64 0, .int .i64 0]) (t := 26) ?hr ?_; (case hd => rfl); (case hg => rfl); (case hr => (go_simp; done))
  intro gb266 hg w9 hbox hb
  have BK266 := A_.mk (hbox)
  have GW266 := A_.mk ((by rw [hg]; exact (below_size HB.out) : w.heap.size ≤ gb266))
  have GE266 := A_.mk ((by rw [hg]; exact (below_size HB.out) : w.heap.size ≤ gb266))
  replace HB := A_.mk (below_step HB.out hb)
  have NB258_266 := A_.mk ((by rw [hg]; exact Nat.ne_of_lt (blk_lt BK258.out) : gb258 ≠ gb266))
  have NB266_258 := A_.mk ((by rw [hg]; exact Nat.ne_of_gt (blk_lt BK258.out) : gb266 ≠ gb258))
  replace BK258 := A_.mk (blk_below BK258.out hb)
  have NB259_266 := A_.mk ((by rw [hg]; exact Nat.ne_of_lt (blk_lt BK259.out) : gb259 ≠ gb266))
  have NB266_259 := A_.mk ((by rw [hg]; exact Nat.ne_of_gt (blk_lt BK259.out) : gb266 ≠ gb259))
  replace BK259 := A_.mk (blk_below BK259.out hb)
  have NB260_266 := A_.mk ((by rw [hg]; exact Nat.ne_of_lt (blk_lt BK260.out) : gb260 ≠ gb266))
  have NB266_260 := A_.mk ((by rw [hg]; exact Nat.ne_of_gt (blk_lt BK260.out) : gb266 ≠ gb260))
  replace BK260 := A_.mk (blk_below BK260.out hb)
  clear hb hbox hg
  refine hK.out _ _ ⟨(blk_cell BK258.out 0).trans rfl, (blk_cell BK258.out 1).trans rfl, (blk_cell BK259.out 0).trans rfl, (blk_cell BK259.out 1).trans rfl⟩ (fun hHeld => ?_)
  clear hK K
  exact norm_ (by simp only [putAll, Act.put, sI_, s0_, s1_]; try rfl) (hJ11 (gb266) _ ⟨hHeld, BK258.out, BK259.out, BK260.out, BK266.out, GW266.out, GE266.out, NB258_266.out, NB266_258.out, NB259_266.out, NB266_259.out, NB260_266.out, NB266_260.out, HB.out⟩)
 ·rintro gb266 w10 ⟨hS_, h0_, h1_, h2_, h3_, h4_, h5_, h6_, h7_, h8_, h9_, h10_, h11_, h12_⟩
  have n0_ : A_ (w10.heap[gb258]? = some (.cells #[.int .i64 a0_0, .int .i64 a0_1] 26 (0, 0))) := ⟨h0_⟩
  have n1_ : A_ (w10.heap[gb259]? = some (.cells #[.int .i64 a1_0, .int .i64 a1_1] 26 (0, 0))) := ⟨h1_⟩
  have n2_ : A_ (w10.heap[gb260]? = some (.cells #[.int .i64 0, .int .i64 0] 26 (0, 0))) := ⟨h2_⟩
  have n3_ : A_ (w10.heap[gb266]? = some (.cells #[.int .i64 0, .int .i64 0] 26 (0, 0))) := ⟨h3_⟩
  have n4_ : A_ (w.heap.size ≤ gb266) := ⟨h4_⟩
  have n5_ : A_ (w.heap.size ≤ gb266) := ⟨h5_⟩
  have n6_ : A_ (gb258 ≠ gb266) := ⟨h6_⟩
  have n7_ : A_ (gb266 ≠ gb258) := ⟨h7_⟩
  have n8_ : A_ (gb259 ≠ gb266) := ⟨h8_⟩
  have n9_ : A_ (gb266 ≠ gb259) := ⟨h9_⟩
  have n10_ : A_ (gb260 ≠ gb266) := ⟨h10_⟩
  have n11_ : A_ (gb266 ≠ gb260) := ⟨h11_⟩
  have n12_ : A_ (Below w.heap.size w w10) := ⟨h12_⟩
  clear BK258
  clear BK259
  clear BK260
  clear HB
  clear h0_ h1_ h2_ h3_ h4_ h5_ h6_ h7_ h8_ h9_ h10_ h11_ h12_
  have BK258 := n0_
  have BK259 := n1_
  have BK260 := n2_
  have BK266 := n3_
  have GW266 := n4_
  have GE266 := n5_
  have NB258_266 := n6_
  have NB266_258 := n7_
  have NB259_266 := n8_
  have NB266_259 := n9_
  have NB260_266 := n10_
  have NB266_260 := n11_
  have HB := n12_
  clear n0_ n1_ n2_ n3_ n4_ n5_ n6_ n7_ n8_ n9_ n10_ n11_ n12_
  have hHeld : w10.cell? ⟨gb258, 0, none⟩ = some (.int .i64 a0_0) ∧ w10.cell? ⟨gb258, 1, none⟩ = some (.int .i64 a0_1) ∧ w10.cell? ⟨gb259, 0, none⟩ = some (.int .i64 a1_0) ∧ w10.cell? ⟨gb259, 1, none⟩ = some (.int .i64 a1_1) := hS_
  refine norm_ (a' := ?_) ?_ ?_
  rotate_left
  ·simp only [putAll, Act.put, sI_, s0_, s1_]
   rfl
  refine two_ (i := 4) (j := 10) (Ni := some 11) (Nj := some 5) (m_ 14 2559) (m_ 14 3567) rfl rfl rfl rfl (two_of HT_.out (by kernel_rfl)) (by decide) (by decide) (fun K hK => ?_) (fun K hK => ?_)
  ·refine goes_ Tryd.func69 (by kernel_rfl) rfl #[.int .i64 a0_0, .int .i64 a1_1] (by rfl) rfl rfl (by (try simp only [List.map_toArray, List.map_cons, List.map_nil]); (rfl)) ?_
   with_reducible refine (spec_l2Cut.calls k a0_0 a1_1 t261 t262 _ A3.out).mono ?_
   rintro e w11 ⟨rfl, hb⟩
   refine ⟨_, rfl, ?_⟩
   replace BK258 := A_.mk (blk_below BK258.out hb)
   replace BK259 := A_.mk (blk_below BK259.out hb)
   replace BK260 := A_.mk (blk_below BK260.out hb)
   replace BK266 := A_.mk (blk_below BK266.out hb)
   replace HB := A_.mk (below_step HB.out hb)
   (try clear hb)
   skip
   skip
   skip
   refine hK.out _ _ ⟨(blk_cell BK258.out 0).trans rfl, (blk_cell BK258.out 1).trans rfl, (blk_cell BK259.out 0).trans rfl, (blk_cell BK259.out 1).trans rfl⟩ (fun hHeld => ?_)
   clear hK K
   exact norm_ (by simp only [putAll, Act.put, sI_, s0_, s1_]; try rfl) (hJ4_11 (gb266) _ ⟨hHeld, BK258.out, BK259.out, BK260.out, BK266.out, GW266.out, GE266.out, NB258_266.out, NB266_258.out, NB259_266.out, NB266_259.out, NB260_266.out, NB266_260.out, HB.out⟩)
  ·refine box_step ?hg (N := 5) ?hd (cs := #[.int .i64 0, .int .i64 0]) (t := 26) ?hr ?_; (case hd => rfl); (case hg => rfl); (case hr => (go_simp; done))
   intro gb265 hg w11 hbox hb
   have BK265 := A_.mk (hbox)
   have GW265 := A_.mk ((by rw [hg]; exact (below_size HB.out) : w.heap.size ≤ gb265))
   have GE265 := A_.mk ((by rw [hg]; exact (below_size HB.out) : w.heap.size ≤ gb265))
   replace HB := A_.mk (below_step HB.out hb)
   have NB258_265 := A_.mk ((by rw [hg]; exact Nat.ne_of_lt (blk_lt BK258.out) : gb258 ≠ gb265))
   have NB265_258 := A_.mk ((by rw [hg]; exact Nat.ne_of_gt (blk_lt BK258.out) : gb265 ≠ gb258))
   replace BK258 := A_.mk (blk_below BK258.out hb)
   have NB259_265 := A_.mk ((by rw [hg]; exact Nat.ne_of_lt (blk_lt BK259.out) : gb259 ≠ gb265))
   have NB265_259 := A_.mk ((by rw [hg]; exact Nat.ne_of_gt (blk_lt BK259.out) : gb265 ≠ gb259))
   replace BK259 := A_.mk (blk_below BK259.out hb)
   have NB260_265 := A_.mk ((by rw [hg]; exact Nat.ne_of_lt (blk_lt BK260.out) : gb260 ≠ gb265))
   have NB265_260 := A_.mk ((by rw [hg]; exact Nat.ne_of_gt (blk_lt BK260.out) : gb265 ≠ gb260))
   replace BK260 := A_.mk (blk_below BK260.out hb)
   have NB266_265 := A_.mk ((by rw [hg]; exact Nat.ne_of_lt (blk_lt BK266.out) : gb266 ≠ gb265))
   have NB265_266 := A_.mk ((by rw [hg]; exact Nat.ne_of_gt (blk_lt BK266.out) : gb265 ≠ gb266))
   replace BK266 := A_.mk (blk_below BK266.out hb)
   clear hb hbox hg
   refine hK.out _ _ ⟨(blk_cell BK258.out 0).trans rfl, (blk_cell BK258.out 1).trans rfl, (blk_cell BK259.out 0).trans rfl, (blk_cell BK259.out 1).trans rfl⟩ (fun hHeld => ?_)
   clear hK K
   exact norm_ (by simp only [putAll, Act.put, sI_, s0_, s1_]; try rfl) (hJ10_11 (gb265, gb266) _ ⟨hHeld, BK258.out, BK259.out, BK260.out, BK265.out, BK266.out, GW265.out, GE265.out, NB258_265.out, NB265_258.out, NB259_265.out, NB265_259.out, NB260_265.out, NB265_260.out, NB266_265.out, NB265_266.out, GW266.out, GE266.out, NB258_266.out, NB266_258.out, NB259_266.out, NB266_259.out, NB260_266.out, NB266_260.out, HB.out⟩)
 ·rintro gb265 w10 ⟨hS_, h0_, h1_, h2_, h3_, h4_, h5_, h6_, h7_, h8_, h9_, h10_, h11_, h12_⟩
  have n0_ : A_ (w10.heap[gb258]? = some (.cells #[.int .i64 a0_0, .int .i64 a0_1] 26 (0, 0))) := ⟨h0_⟩
  have n1_ : A_ (w10.heap[gb259]? = some (.cells #[.int .i64 a1_0, .int .i64 a1_1] 26 (0, 0))) := ⟨h1_⟩
  have n2_ : A_ (w10.heap[gb260]? = some (.cells #[.int .i64 0, .int .i64 0] 26 (0, 0))) := ⟨h2_⟩
  have n3_ : A_ (w10.heap[gb265]? = some (.cells #[.int .i64 0, .int .i64 0] 26 (0, 0))) := ⟨h3_⟩
  have n4_ : A_ (w.heap.size ≤ gb265) := ⟨h4_⟩
  have n5_ : A_ (w.heap.size ≤ gb265) := ⟨h5_⟩
  have n6_ : A_ (gb258 ≠ gb265) := ⟨h6_⟩
  have n7_ : A_ (gb265 ≠ gb258) := ⟨h7_⟩
  have n8_ : A_ (gb259 ≠ gb265) := ⟨h8_⟩
  have n9_ : A_ (gb265 ≠ gb259) := ⟨h9_⟩
  have n10_ : A_ (gb260 ≠ gb265) := ⟨h10_⟩
  have n11_ : A_ (gb265 ≠ gb260) := ⟨h11_⟩
  have n12_ : A_ (Below w.heap.size w w10) := ⟨h12_⟩
  clear BK258
  clear BK259
  clear BK260
  clear HB
  clear h0_ h1_ h2_ h3_ h4_ h5_ h6_ h7_ h8_ h9_ h10_ h11_ h12_
  have BK258 := n0_
  have BK259 := n1_
  have BK260 := n2_
  have BK265 := n3_
  have GW265 := n4_
  have GE265 := n5_
  have NB258_265 := n6_
  have NB265_258 := n7_
  have NB259_265 := n8_
  have NB265_259 := n9_
  have NB260_265 := n10_
  have NB265_260 := n11_
  have HB := n12_
  clear n0_ n1_ n2_ n3_ n4_ n5_ n6_ n7_ n8_ n9_ n10_ n11_ n12_
  have hHeld : w10.cell? ⟨gb258, 0, none⟩ = some (.int .i64 a0_0) ∧ w10.cell? ⟨gb258, 1, none⟩ = some (.int .i64 a0_1) ∧ w10.cell? ⟨gb259, 0, none⟩ = some (.int .i64 a1_0) ∧ w10.cell? ⟨gb259, 1, none⟩ = some (.int .i64 a1_1) := hS_
  refine norm_ (a' := ?_) ?_ ?_
  rotate_left
  ·simp only [putAll, Act.put, sI_, s0_, s1_]
   rfl
  refine two_ (i := 4) (j := 11) (Ni := some 11) (Nj := some 6) (m_ 14 1535) (m_ 14 3567) rfl rfl rfl rfl (two_of HT_.out (by kernel_rfl)) (by decide) (by decide) (fun K hK => ?_) (fun K hK => ?_)
  ·refine goes_ Tryd.func69 (by kernel_rfl) rfl #[.int .i64 a0_0, .int .i64 a1_1] (by rfl) rfl rfl (by (try simp only [List.map_toArray, List.map_cons, List.map_nil]); (rfl)) ?_
   with_reducible refine (spec_l2Cut.calls k a0_0 a1_1 t261 t262 _ A3.out).mono ?_
   rintro e w11 ⟨rfl, hb⟩
   refine ⟨_, rfl, ?_⟩
   replace BK258 := A_.mk (blk_below BK258.out hb)
   replace BK259 := A_.mk (blk_below BK259.out hb)
   replace BK260 := A_.mk (blk_below BK260.out hb)
   replace BK265 := A_.mk (blk_below BK265.out hb)
   replace HB := A_.mk (below_step HB.out hb)
   (try clear hb)
   skip
   skip
   skip
   refine hK.out _ _ ⟨(blk_cell BK258.out 0).trans rfl, (blk_cell BK258.out 1).trans rfl, (blk_cell BK259.out 0).trans rfl, (blk_cell BK259.out 1).trans rfl⟩ (fun hHeld => ?_)
   clear hK K
   exact norm_ (by simp only [putAll, Act.put, sI_, s0_, s1_]; try rfl) (hJ4_10 (gb265) _ ⟨hHeld, BK258.out, BK259.out, BK260.out, BK265.out, GW265.out, GE265.out, NB258_265.out, NB265_258.out, NB259_265.out, NB265_259.out, NB260_265.out, NB265_260.out, HB.out⟩)
  ·refine box_step ?hg (N := 6) ?hd (cs := #[.int .i64 0, .int .i64 0]) (t := 26) ?hr ?_; (case hd => rfl); (case hg => rfl); (case hr => (go_simp; done))
   intro gb266 hg w11 hbox hb
   have BK266 := A_.mk (hbox)
   have GW266 := A_.mk ((by rw [hg]; exact (below_size HB.out) : w.heap.size ≤ gb266))
   have GE266 := A_.mk ((by rw [hg]; exact (below_size HB.out) : w.heap.size ≤ gb266))
   replace HB := A_.mk (below_step HB.out hb)
   have NB258_266 := A_.mk ((by rw [hg]; exact Nat.ne_of_lt (blk_lt BK258.out) : gb258 ≠ gb266))
   have NB266_258 := A_.mk ((by rw [hg]; exact Nat.ne_of_gt (blk_lt BK258.out) : gb266 ≠ gb258))
   replace BK258 := A_.mk (blk_below BK258.out hb)
   have NB259_266 := A_.mk ((by rw [hg]; exact Nat.ne_of_lt (blk_lt BK259.out) : gb259 ≠ gb266))
   have NB266_259 := A_.mk ((by rw [hg]; exact Nat.ne_of_gt (blk_lt BK259.out) : gb266 ≠ gb259))
   replace BK259 := A_.mk (blk_below BK259.out hb)
   have NB260_266 := A_.mk ((by rw [hg]; exact Nat.ne_of_lt (blk_lt BK260.out) : gb260 ≠ gb266))
   have NB266_260 := A_.mk ((by rw [hg]; exact Nat.ne_of_gt (blk_lt BK260.out) : gb266 ≠ gb260))
   replace BK260 := A_.mk (blk_below BK260.out hb)
   have NB265_266 := A_.mk ((by rw [hg]; exact Nat.ne_of_lt (blk_lt BK265.out) : gb265 ≠ gb266))
   have NB266_265 := A_.mk ((by rw [hg]; exact Nat.ne_of_gt (blk_lt BK265.out) : gb266 ≠ gb265))
   replace BK265 := A_.mk (blk_below BK265.out hb)
   clear hb hbox hg
   refine hK.out _ _ ⟨(blk_cell BK258.out 0).trans rfl, (blk_cell BK258.out 1).trans rfl, (blk_cell BK259.out 0).trans rfl, (blk_cell BK259.out 1).trans rfl⟩ (fun hHeld => ?_)
   clear hK K
   exact norm_ (by simp only [putAll, Act.put, sI_, s0_, s1_]; try rfl) (hJ10_11 (gb265, gb266) _ ⟨hHeld, BK258.out, BK259.out, BK260.out, BK265.out, BK266.out, GW265.out, GE265.out, NB258_265.out, NB265_258.out, NB259_265.out, NB265_259.out, NB260_265.out, NB265_260.out, NB266_265.out, NB265_266.out, GW266.out, GE266.out, NB258_266.out, NB266_258.out, NB259_266.out, NB266_259.out, NB260_266.out, NB266_260.out, HB.out⟩)
 ·rintro _ w10 ⟨hS_, h0_, h1_, h2_, h3_⟩
  have n0_ : A_ (w10.heap[gb258]? = some (.cells #[.int .i64 a0_0, .int .i64 a0_1] 26 (0, 0))) := ⟨h0_⟩
  have n1_ : A_ (w10.heap[gb259]? = some (.cells #[.int .i64 a1_0, .int .i64 a1_1] 26 (0, 0))) := ⟨h1_⟩
  have n2_ : A_ (w10.heap[gb260]? = some (.cells #[.int .i64 0, .int .i64 0] 26 (0, 0))) := ⟨h2_⟩
  have n3_ : A_ (Below w.heap.size w w10) := ⟨h3_⟩
  clear BK258
  clear BK259
  clear BK260
  clear HB
  clear h0_ h1_ h2_ h3_
  have BK258 := n0_
  have BK259 := n1_
  have BK260 := n2_
  have HB := n3_
  clear n0_ n1_ n2_ n3_
  have hHeld : w10.cell? ⟨gb258, 0, none⟩ = some (.int .i64 a0_0) ∧ w10.cell? ⟨gb258, 1, none⟩ = some (.int .i64 a0_1) ∧ w10.cell? ⟨gb259, 0, none⟩ = some (.int .i64 a1_0) ∧ w10.cell? ⟨gb259, 1, none⟩ = some (.int .i64 a1_1) := hS_
  refine norm_ (a' := ?_) ?_ ?_
  rotate_left
  ·simp only [putAll, Act.put, sI_, s0_, s1_]
   rfl
  refine three_ (i := 9) (j := 10) (k := 11) (Ni := some 16) (Nj := some 5) (Nk := some 6) (m_ 14 1023) (m_ 14 1535) (m_ 14 2559) rfl rfl rfl rfl rfl rfl (three_of HT_.out (by kernel_rfl)) (by decide) (by decide) (by decide) (fun K hK => ?_) (fun K hK => ?_) (fun K hK => ?_)
  ·refine goes_ Tryd.func69 (by kernel_rfl) rfl #[.int .i64 a1_0, .int .i64 a0_1] (by rfl) rfl rfl (by (try simp only [List.map_toArray, List.map_cons, List.map_nil]); (rfl)) ?_
   with_reducible refine (spec_l2Cut.calls k a1_0 a0_1 t263 t264 _ A4.out).mono ?_
   rintro e w11 ⟨rfl, hb⟩
   refine ⟨_, rfl, ?_⟩
   replace BK258 := A_.mk (blk_below BK258.out hb)
   replace BK259 := A_.mk (blk_below BK259.out hb)
   replace BK260 := A_.mk (blk_below BK260.out hb)
   replace HB := A_.mk (below_step HB.out hb)
   (try clear hb)
   skip
   skip
   skip
   refine hK.out _ _ ⟨(blk_cell BK258.out 0).trans rfl, (blk_cell BK258.out 1).trans rfl, (blk_cell BK259.out 0).trans rfl, (blk_cell BK259.out 1).trans rfl⟩ (fun hHeld => ?_)
   clear hK K
   exact norm_ (by simp only [putAll, Act.put, sI_, s0_, s1_]; try rfl) (hJ4_9 () _ ⟨hHeld, BK258.out, BK259.out, BK260.out, HB.out⟩)
  ·refine box_step ?hg (N := 5) ?hd (cs := #[.int .i64 0, .int .i64 0]) (t := 26) ?hr ?_; (case hd => rfl); (case hg => rfl); (case hr => (go_simp; done))
   intro gb265 hg w11 hbox hb
   have BK265 := A_.mk (hbox)
   have GW265 := A_.mk ((by rw [hg]; exact (below_size HB.out) : w.heap.size ≤ gb265))
   have GE265 := A_.mk ((by rw [hg]; exact (below_size HB.out) : w.heap.size ≤ gb265))
   replace HB := A_.mk (below_step HB.out hb)
   have NB258_265 := A_.mk ((by rw [hg]; exact Nat.ne_of_lt (blk_lt BK258.out) : gb258 ≠ gb265))
   have NB265_258 := A_.mk ((by rw [hg]; exact Nat.ne_of_gt (blk_lt BK258.out) : gb265 ≠ gb258))
   replace BK258 := A_.mk (blk_below BK258.out hb)
   have NB259_265 := A_.mk ((by rw [hg]; exact Nat.ne_of_lt (blk_lt BK259.out) : gb259 ≠ gb265))
   have NB265_259 := A_.mk ((by rw [hg]; exact Nat.ne_of_gt (blk_lt BK259.out) : gb265 ≠ gb259))
   replace BK259 := A_.mk (blk_below BK259.out hb)
   have NB260_265 := A_.mk ((by rw [hg]; exact Nat.ne_of_lt (blk_lt BK260.out) : gb260 ≠ gb265))
   have NB265_260 := A_.mk ((by rw [hg]; exact Nat.ne_of_gt (blk_lt BK260.out) : gb265 ≠ gb260))
   replace BK260 := A_.mk (blk_below BK260.out hb)
   clear hb hbox hg
   refine hK.out _ _ ⟨(blk_cell BK258.out 0).trans rfl, (blk_cell BK258.out 1).trans rfl, (blk_cell BK259.out 0).trans rfl, (blk_cell BK259.out 1).trans rfl⟩ (fun hHeld => ?_)
   clear hK K
   exact norm_ (by simp only [putAll, Act.put, sI_, s0_, s1_]; try rfl) (hJ4_10 (gb265) _ ⟨hHeld, BK258.out, BK259.out, BK260.out, BK265.out, GW265.out, GE265.out, NB258_265.out, NB265_258.out, NB259_265.out, NB265_259.out, NB260_265.out, NB265_260.out, HB.out⟩)
  ·refine box_step ?hg (N := 6) ?hd (cs := #[.int .i64 0, .int .i64 0]) (t := 26) ?hr ?_; (case hd => rfl); (case hg => rfl); (case hr => (go_simp; done))
   intro gb266 hg w11 hbox hb
   have BK266 := A_.mk (hbox)
   have GW266 := A_.mk ((by rw [hg]; exact (below_size HB.out) : w.heap.size ≤ gb266))
   have GE266 := A_.mk ((by rw [hg]; exact (below_size HB.out) : w.heap.size ≤ gb266))
   replace HB := A_.mk (below_step HB.out hb)
   have NB258_266 := A_.mk ((by rw [hg]; exact Nat.ne_of_lt (blk_lt BK258.out) : gb258 ≠ gb266))
   have NB266_258 := A_.mk ((by rw [hg]; exact Nat.ne_of_gt (blk_lt BK258.out) : gb266 ≠ gb258))
   replace BK258 := A_.mk (blk_below BK258.out hb)
   have NB259_266 := A_.mk ((by rw [hg]; exact Nat.ne_of_lt (blk_lt BK259.out) : gb259 ≠ gb266))
   have NB266_259 := A_.mk ((by rw [hg]; exact Nat.ne_of_gt (blk_lt BK259.out) : gb266 ≠ gb259))
   replace BK259 := A_.mk (blk_below BK259.out hb)
   have NB260_266 := A_.mk ((by rw [hg]; exact Nat.ne_of_lt (blk_lt BK260.out) : gb260 ≠ gb266))
   have NB266_260 := A_.mk ((by rw [hg]; exact Nat.ne_of_gt (blk_lt BK260.out) : gb266 ≠ gb260))
   replace BK260 := A_.mk (blk_below BK260.out hb)
   clear hb hbox hg
   refine hK.out _ _ ⟨(blk_cell BK258.out 0).trans rfl, (blk_cell BK258.out 1).trans rfl, (blk_cell BK259.out 0).trans rfl, (blk_cell BK259.out 1).trans rfl⟩ (fun hHeld => ?_)
   clear hK K
   exact norm_ (by simp only [putAll, Act.put, sI_, s0_, s1_]; try rfl) (hJ4_11 (gb266) _ ⟨hHeld, BK258.out, BK259.out, BK260.out, BK266.out, GW266.out, GE266.out, NB258_266.out, NB266_258.out, NB259_266.out, NB266_259.out, NB260_266.out, NB266_260.out, HB.out⟩)
 ·rintro ⟨gb265, gb266⟩ w11 ⟨hS_, h0_, h1_, h2_, h3_, h4_, h5_, h6_, h7_, h8_, h9_, h10_, h11_, h12_, h13_, h14_, h15_, h16_, h17_, h18_, h19_, h20_, h21_, h22_, h23_⟩
  have n0_ : A_ (w11.heap[gb258]? = some (.cells #[.int .i64 a0_0, .int .i64 a0_1] 26 (0, 0))) := ⟨h0_⟩
  have n1_ : A_ (w11.heap[gb259]? = some (.cells #[.int .i64 a1_0, .int .i64 a1_1] 26 (0, 0))) := ⟨h1_⟩
  have n2_ : A_ (w11.heap[gb260]? = some (.cells #[.int .i64 0, .int .i64 0] 26 (0, 0))) := ⟨h2_⟩
  have n3_ : A_ (w11.heap[gb265]? = some (.cells #[.int .i64 0, .int .i64 0] 26 (0, 0))) := ⟨h3_⟩
  have n4_ : A_ (w11.heap[gb266]? = some (.cells #[.int .i64 0, .int .i64 0] 26 (0, 0))) := ⟨h4_⟩
  have n5_ : A_ (w.heap.size ≤ gb265) := ⟨h5_⟩
  have n6_ : A_ (w.heap.size ≤ gb265) := ⟨h6_⟩
  have n7_ : A_ (gb258 ≠ gb265) := ⟨h7_⟩
  have n8_ : A_ (gb265 ≠ gb258) := ⟨h8_⟩
  have n9_ : A_ (gb259 ≠ gb265) := ⟨h9_⟩
  have n10_ : A_ (gb265 ≠ gb259) := ⟨h10_⟩
  have n11_ : A_ (gb260 ≠ gb265) := ⟨h11_⟩
  have n12_ : A_ (gb265 ≠ gb260) := ⟨h12_⟩
  have n13_ : A_ (gb266 ≠ gb265) := ⟨h13_⟩
  have n14_ : A_ (gb265 ≠ gb266) := ⟨h14_⟩
  have n15_ : A_ (w.heap.size ≤ gb266) := ⟨h15_⟩
  have n16_ : A_ (w.heap.size ≤ gb266) := ⟨h16_⟩
  have n17_ : A_ (gb258 ≠ gb266) := ⟨h17_⟩
  have n18_ : A_ (gb266 ≠ gb258) := ⟨h18_⟩
  have n19_ : A_ (gb259 ≠ gb266) := ⟨h19_⟩
  have n20_ : A_ (gb266 ≠ gb259) := ⟨h20_⟩
  have n21_ : A_ (gb260 ≠ gb266) := ⟨h21_⟩
  have n22_ : A_ (gb266 ≠ gb260) := ⟨h22_⟩
  have n23_ : A_ (Below w.heap.size w w11) := ⟨h23_⟩
  clear BK258
  clear BK259
  clear BK260
  clear HB
  clear h0_ h1_ h2_ h3_ h4_ h5_ h6_ h7_ h8_ h9_ h10_ h11_ h12_ h13_ h14_ h15_ h16_ h17_ h18_ h19_ h20_ h21_ h22_ h23_
  have BK258 := n0_
  have BK259 := n1_
  have BK260 := n2_
  have BK265 := n3_
  have BK266 := n4_
  have GW265 := n5_
  have GE265 := n6_
  have NB258_265 := n7_
  have NB265_258 := n8_
  have NB259_265 := n9_
  have NB265_259 := n10_
  have NB260_265 := n11_
  have NB265_260 := n12_
  have NB266_265 := n13_
  have NB265_266 := n14_
  have GW266 := n15_
  have GE266 := n16_
  have NB258_266 := n17_
  have NB266_258 := n18_
  have NB259_266 := n19_
  have NB266_259 := n20_
  have NB260_266 := n21_
  have NB266_260 := n22_
  have HB := n23_
  clear n0_ n1_ n2_ n3_ n4_ n5_ n6_ n7_ n8_ n9_ n10_ n11_ n12_ n13_ n14_ n15_ n16_ n17_ n18_ n19_ n20_ n21_ n22_ n23_
  have hHeld : w11.cell? ⟨gb258, 0, none⟩ = some (.int .i64 a0_0) ∧ w11.cell? ⟨gb258, 1, none⟩ = some (.int .i64 a0_1) ∧ w11.cell? ⟨gb259, 0, none⟩ = some (.int .i64 a1_0) ∧ w11.cell? ⟨gb259, 1, none⟩ = some (.int .i64 a1_1) := hS_
  refine norm_ (a' := ?_) ?_ ?_
  rotate_left
  ·simp only [putAll, Act.put, sI_, s0_, s1_]
   rfl
  refine one_ (i := 4) (N := some 11) (m_ 14 3583) rfl rfl (one_of HT_.out (by kernel_rfl)) (by decide) (fun K hK => ?_)
  refine goes_ Tryd.func69 (by kernel_rfl) rfl #[.int .i64 a0_0, .int .i64 a1_1] (by rfl) rfl rfl (by (try simp only [List.map_toArray, List.map_cons, List.map_nil]); (rfl)) ?_
  with_reducible refine (spec_l2Cut.calls k a0_0 a1_1 t261 t262 _ A3.out).mono ?_
  rintro e w12 ⟨rfl, hb⟩
  refine ⟨_, rfl, ?_⟩
  replace BK258 := A_.mk (blk_below BK258.out hb)
  replace BK259 := A_.mk (blk_below BK259.out hb)
  replace BK260 := A_.mk (blk_below BK260.out hb)
  replace BK265 := A_.mk (blk_below BK265.out hb)
  replace BK266 := A_.mk (blk_below BK266.out hb)
  replace HB := A_.mk (below_step HB.out hb)
  (try clear hb)
  skip
  skip
  skip
  refine hK.out _ _ ⟨(blk_cell BK258.out 0).trans rfl, (blk_cell BK258.out 1).trans rfl, (blk_cell BK259.out 0).trans rfl, (blk_cell BK259.out 1).trans rfl⟩ (fun hHeld => ?_)
  clear hK K
  exact norm_ (by simp only [putAll, Act.put, sI_, s0_, s1_]; try rfl) (hJ4_10_11 (gb265, gb266) _ ⟨hHeld, BK258.out, BK259.out, BK260.out, BK265.out, BK266.out, GW265.out, GE265.out, NB258_265.out, NB265_258.out, NB259_265.out, NB265_259.out, NB260_265.out, NB265_260.out, NB266_265.out, NB265_266.out, GW266.out, GE266.out, NB258_266.out, NB266_258.out, NB259_266.out, NB266_259.out, NB260_266.out, NB266_260.out, HB.out⟩)
 ·rintro gb266 w11 ⟨hS_, h0_, h1_, h2_, h3_, h4_, h5_, h6_, h7_, h8_, h9_, h10_, h11_, h12_⟩
  have n0_ : A_ (w11.heap[gb258]? = some (.cells #[.int .i64 a0_0, .int .i64 a0_1] 26 (0, 0))) := ⟨h0_⟩
  have n1_ : A_ (w11.heap[gb259]? = some (.cells #[.int .i64 a1_0, .int .i64 a1_1] 26 (0, 0))) := ⟨h1_⟩
  have n2_ : A_ (w11.heap[gb260]? = some (.cells #[.int .i64 0, .int .i64 0] 26 (0, 0))) := ⟨h2_⟩
  have n3_ : A_ (w11.heap[gb266]? = some (.cells #[.int .i64 0, .int .i64 0] 26 (0, 0))) := ⟨h3_⟩
  have n4_ : A_ (w.heap.size ≤ gb266) := ⟨h4_⟩
  have n5_ : A_ (w.heap.size ≤ gb266) := ⟨h5_⟩
  have n6_ : A_ (gb258 ≠ gb266) := ⟨h6_⟩
  have n7_ : A_ (gb266 ≠ gb258) := ⟨h7_⟩
  have n8_ : A_ (gb259 ≠ gb266) := ⟨h8_⟩
  have n9_ : A_ (gb266 ≠ gb259) := ⟨h9_⟩
  have n10_ : A_ (gb260 ≠ gb266) := ⟨h10_⟩
  have n11_ : A_ (gb266 ≠ gb260) := ⟨h11_⟩
  have n12_ : A_ (Below w.heap.size w w11) := ⟨h12_⟩
  clear BK258
  clear BK259
  clear BK260
  clear HB
  clear h0_ h1_ h2_ h3_ h4_ h5_ h6_ h7_ h8_ h9_ h10_ h11_ h12_
  have BK258 := n0_
  have BK259 := n1_
  have BK260 := n2_
  have BK266 := n3_
  have GW266 := n4_
  have GE266 := n5_
  have NB258_266 := n6_
  have NB266_258 := n7_
  have NB259_266 := n8_
  have NB266_259 := n9_
  have NB260_266 := n10_
  have NB266_260 := n11_
  have HB := n12_
  clear n0_ n1_ n2_ n3_ n4_ n5_ n6_ n7_ n8_ n9_ n10_ n11_ n12_
  have hHeld : w11.cell? ⟨gb258, 0, none⟩ = some (.int .i64 a0_0) ∧ w11.cell? ⟨gb258, 1, none⟩ = some (.int .i64 a0_1) ∧ w11.cell? ⟨gb259, 0, none⟩ = some (.int .i64 a1_0) ∧ w11.cell? ⟨gb259, 1, none⟩ = some (.int .i64 a1_1) := hS_
  refine norm_ (a' := ?_) ?_ ?_
  rotate_left
  ·simp only [putAll, Act.put, sI_, s0_, s1_]
   rfl
  refine two_ (i := 9) (j := 10) (Ni := some 16) (Nj := some 5) (m_ 14 3071) (m_ 14 3583) rfl rfl rfl rfl (two_of HT_.out (by kernel_rfl)) (by decide) (by decide) (fun K hK => ?_) (fun K hK => ?_)
  ·refine goes_ Tryd.func69 (by kernel_rfl) rfl #[.int .i64 a1_0, .int .i64 a0_1] (by rfl) rfl rfl (by (try simp only [List.map_toArray, List.map_cons, List.map_nil]); (rfl)) ?_
   with_reducible refine (spec_l2Cut.calls k a1_0 a0_1 t263 t264 _ A4.out).mono ?_
   rintro e w12 ⟨rfl, hb⟩
   refine ⟨_, rfl, ?_⟩
   replace BK258 := A_.mk (blk_below BK258.out hb)
   replace BK259 := A_.mk (blk_below BK259.out hb)
   replace BK260 := A_.mk (blk_below BK260.out hb)
   replace BK266 := A_.mk (blk_below BK266.out hb)
   replace HB := A_.mk (below_step HB.out hb)
   (try clear hb)
   skip
   skip
   skip
   refine hK.out _ _ ⟨(blk_cell BK258.out 0).trans rfl, (blk_cell BK258.out 1).trans rfl, (blk_cell BK259.out 0).trans rfl, (blk_cell BK259.out 1).trans rfl⟩ (fun hHeld => ?_)
   clear hK K
   exact norm_ (by simp only [putAll, Act.put, sI_, s0_, s1_]; try rfl) (hJ4_9_11 (gb266) _ ⟨hHeld, BK258.out, BK259.out, BK260.out, BK266.out, GW266.out, GE266.out, NB258_266.out, NB266_258.out, NB259_266.out, NB266_259.out, NB260_266.out, NB266_260.out, HB.out⟩)
  ·refine box_step ?hg (N := 5) ?hd (cs := #[.int .i64 0, .int .i64 0]) (t := 26) ?hr ?_; (case hd => rfl); (case hg => rfl); (case hr => (go_simp; done))
   intro gb265 hg w12 hbox hb
   have BK265 := A_.mk (hbox)
   have GW265 := A_.mk ((by rw [hg]; exact (below_size HB.out) : w.heap.size ≤ gb265))
   have GE265 := A_.mk ((by rw [hg]; exact (below_size HB.out) : w.heap.size ≤ gb265))
   replace HB := A_.mk (below_step HB.out hb)
   have NB258_265 := A_.mk ((by rw [hg]; exact Nat.ne_of_lt (blk_lt BK258.out) : gb258 ≠ gb265))
   have NB265_258 := A_.mk ((by rw [hg]; exact Nat.ne_of_gt (blk_lt BK258.out) : gb265 ≠ gb258))
   replace BK258 := A_.mk (blk_below BK258.out hb)
   have NB259_265 := A_.mk ((by rw [hg]; exact Nat.ne_of_lt (blk_lt BK259.out) : gb259 ≠ gb265))
   have NB265_259 := A_.mk ((by rw [hg]; exact Nat.ne_of_gt (blk_lt BK259.out) : gb265 ≠ gb259))
   replace BK259 := A_.mk (blk_below BK259.out hb)
   have NB260_265 := A_.mk ((by rw [hg]; exact Nat.ne_of_lt (blk_lt BK260.out) : gb260 ≠ gb265))
   have NB265_260 := A_.mk ((by rw [hg]; exact Nat.ne_of_gt (blk_lt BK260.out) : gb265 ≠ gb260))
   replace BK260 := A_.mk (blk_below BK260.out hb)
   have NB266_265 := A_.mk ((by rw [hg]; exact Nat.ne_of_lt (blk_lt BK266.out) : gb266 ≠ gb265))
   have NB265_266 := A_.mk ((by rw [hg]; exact Nat.ne_of_gt (blk_lt BK266.out) : gb265 ≠ gb266))
   replace BK266 := A_.mk (blk_below BK266.out hb)
   clear hb hbox hg
   refine hK.out _ _ ⟨(blk_cell BK258.out 0).trans rfl, (blk_cell BK258.out 1).trans rfl, (blk_cell BK259.out 0).trans rfl, (blk_cell BK259.out 1).trans rfl⟩ (fun hHeld => ?_)
   clear hK K
   exact norm_ (by simp only [putAll, Act.put, sI_, s0_, s1_]; try rfl) (hJ4_10_11 (gb265, gb266) _ ⟨hHeld, BK258.out, BK259.out, BK260.out, BK265.out, BK266.out, GW265.out, GE265.out, NB258_265.out, NB265_258.out, NB259_265.out, NB265_259.out, NB260_265.out, NB265_260.out, NB266_265.out, NB265_266.out, GW266.out, GE266.out, NB258_266.out, NB266_258.out, NB259_266.out, NB266_259.out, NB260_266.out, NB266_260.out, HB.out⟩)
 ·rintro gb265 w11 ⟨hS_, h0_, h1_, h2_, h3_, h4_, h5_, h6_, h7_, h8_, h9_, h10_, h11_, h12_⟩
  have n0_ : A_ (w11.heap[gb258]? = some (.cells #[.int .i64 a0_0, .int .i64 a0_1] 26 (0, 0))) := ⟨h0_⟩
  have n1_ : A_ (w11.heap[gb259]? = some (.cells #[.int .i64 a1_0, .int .i64 a1_1] 26 (0, 0))) := ⟨h1_⟩
  have n2_ : A_ (w11.heap[gb260]? = some (.cells #[.int .i64 0, .int .i64 0] 26 (0, 0))) := ⟨h2_⟩
  have n3_ : A_ (w11.heap[gb265]? = some (.cells #[.int .i64 0, .int .i64 0] 26 (0, 0))) := ⟨h3_⟩
  have n4_ : A_ (w.heap.size ≤ gb265) := ⟨h4_⟩
  have n5_ : A_ (w.heap.size ≤ gb265) := ⟨h5_⟩
  have n6_ : A_ (gb258 ≠ gb265) := ⟨h6_⟩
  have n7_ : A_ (gb265 ≠ gb258) := ⟨h7_⟩
  have n8_ : A_ (gb259 ≠ gb265) := ⟨h8_⟩
  have n9_ : A_ (gb265 ≠ gb259) := ⟨h9_⟩
  have n10_ : A_ (gb260 ≠ gb265) := ⟨h10_⟩
  have n11_ : A_ (gb265 ≠ gb260) := ⟨h11_⟩
  have n12_ : A_ (Below w.heap.size w w11) := ⟨h12_⟩
  clear BK258
  clear BK259
  clear BK260
  clear HB
  clear h0_ h1_ h2_ h3_ h4_ h5_ h6_ h7_ h8_ h9_ h10_ h11_ h12_
  have BK258 := n0_
  have BK259 := n1_
  have BK260 := n2_
  have BK265 := n3_
  have GW265 := n4_
  have GE265 := n5_
  have NB258_265 := n6_
  have NB265_258 := n7_
  have NB259_265 := n8_
  have NB265_259 := n9_
  have NB260_265 := n10_
  have NB265_260 := n11_
  have HB := n12_
  clear n0_ n1_ n2_ n3_ n4_ n5_ n6_ n7_ n8_ n9_ n10_ n11_ n12_
  have hHeld : w11.cell? ⟨gb258, 0, none⟩ = some (.int .i64 a0_0) ∧ w11.cell? ⟨gb258, 1, none⟩ = some (.int .i64 a0_1) ∧ w11.cell? ⟨gb259, 0, none⟩ = some (.int .i64 a1_0) ∧ w11.cell? ⟨gb259, 1, none⟩ = some (.int .i64 a1_1) := hS_
  refine norm_ (a' := ?_) ?_ ?_
  rotate_left
  ·simp only [putAll, Act.put, sI_, s0_, s1_]
   rfl
  refine two_ (i := 9) (j := 11) (Ni := some 16) (Nj := some 6) (m_ 14 2047) (m_ 14 3583) rfl rfl rfl rfl (two_of HT_.out (by kernel_rfl)) (by decide) (by decide) (fun K hK => ?_) (fun K hK => ?_)
  ·refine goes_ Tryd.func69 (by kernel_rfl) rfl #[.int .i64 a1_0, .int .i64 a0_1] (by rfl) rfl rfl (by (try simp only [List.map_toArray, List.map_cons, List.map_nil]); (rfl)) ?_
   with_reducible refine (spec_l2Cut.calls k a1_0 a0_1 t263 t264 _ A4.out).mono ?_
   rintro e w12 ⟨rfl, hb⟩
   refine ⟨_, rfl, ?_⟩
   replace BK258 := A_.mk (blk_below BK258.out hb)
   replace BK259 := A_.mk (blk_below BK259.out hb)
   replace BK260 := A_.mk (blk_below BK260.out hb)
   replace BK265 := A_.mk (blk_below BK265.out hb)
   replace HB := A_.mk (below_step HB.out hb)
   (try clear hb)
   skip
   skip
   skip
   refine hK.out _ _ ⟨(blk_cell BK258.out 0).trans rfl, (blk_cell BK258.out 1).trans rfl, (blk_cell BK259.out 0).trans rfl, (blk_cell BK259.out 1).trans rfl⟩ (fun hHeld => ?_)
   clear hK K
   exact norm_ (by simp only [putAll, Act.put, sI_, s0_, s1_]; try rfl) (hJ4_9_10 (gb265) _ ⟨hHeld, BK258.out, BK259.out, BK260.out, BK265.out, GW265.out, GE265.out, NB258_265.out, NB265_258.out, NB259_265.out, NB265_259.out, NB260_265.out, NB265_260.out, HB.out⟩)
  ·refine box_step ?hg (N := 6) ?hd (cs := #[.int .i64 0, .int .i64 0]) (t := 26) ?hr ?_; (case hd => rfl); (case hg => rfl); (case hr => (go_simp; done))
   intro gb266 hg w12 hbox hb
   have BK266 := A_.mk (hbox)
   have GW266 := A_.mk ((by rw [hg]; exact (below_size HB.out) : w.heap.size ≤ gb266))
   have GE266 := A_.mk ((by rw [hg]; exact (below_size HB.out) : w.heap.size ≤ gb266))
   replace HB := A_.mk (below_step HB.out hb)
   have NB258_266 := A_.mk ((by rw [hg]; exact Nat.ne_of_lt (blk_lt BK258.out) : gb258 ≠ gb266))
   have NB266_258 := A_.mk ((by rw [hg]; exact Nat.ne_of_gt (blk_lt BK258.out) : gb266 ≠ gb258))
   replace BK258 := A_.mk (blk_below BK258.out hb)
   have NB259_266 := A_.mk ((by rw [hg]; exact Nat.ne_of_lt (blk_lt BK259.out) : gb259 ≠ gb266))
   have NB266_259 := A_.mk ((by rw [hg]; exact Nat.ne_of_gt (blk_lt BK259.out) : gb266 ≠ gb259))
   replace BK259 := A_.mk (blk_below BK259.out hb)
   have NB260_266 := A_.mk ((by rw [hg]; exact Nat.ne_of_lt (blk_lt BK260.out) : gb260 ≠ gb266))
   have NB266_260 := A_.mk ((by rw [hg]; exact Nat.ne_of_gt (blk_lt BK260.out) : gb266 ≠ gb260))
   replace BK260 := A_.mk (blk_below BK260.out hb)
   have NB265_266 := A_.mk ((by rw [hg]; exact Nat.ne_of_lt (blk_lt BK265.out) : gb265 ≠ gb266))
   have NB266_265 := A_.mk ((by rw [hg]; exact Nat.ne_of_gt (blk_lt BK265.out) : gb266 ≠ gb265))
   replace BK265 := A_.mk (blk_below BK265.out hb)
   clear hb hbox hg
   refine hK.out _ _ ⟨(blk_cell BK258.out 0).trans rfl, (blk_cell BK258.out 1).trans rfl, (blk_cell BK259.out 0).trans rfl, (blk_cell BK259.out 1).trans rfl⟩ (fun hHeld => ?_)
   clear hK K
   exact norm_ (by simp only [putAll, Act.put, sI_, s0_, s1_]; try rfl) (hJ4_10_11 (gb265, gb266) _ ⟨hHeld, BK258.out, BK259.out, BK260.out, BK265.out, BK266.out, GW265.out, GE265.out, NB258_265.out, NB265_258.out, NB259_265.out, NB265_259.out, NB260_265.out, NB265_260.out, NB266_265.out, NB265_266.out, GW266.out, GE266.out, NB258_266.out, NB266_258.out, NB259_266.out, NB266_259.out, NB260_266.out, NB266_260.out, HB.out⟩)
 ·rintro _ w11 ⟨hS_, h0_, h1_, h2_, h3_⟩
  have n0_ : A_ (w11.heap[gb258]? = some (.cells #[.int .i64 a0_0, .int .i64 a0_1] 26 (0, 0))) := ⟨h0_⟩
  have n1_ : A_ (w11.heap[gb259]? = some (.cells #[.int .i64 a1_0, .int .i64 a1_1] 26 (0, 0))) := ⟨h1_⟩
  have n2_ : A_ (w11.heap[gb260]? = some (.cells #[.int .i64 0, .int .i64 0] 26 (0, 0))) := ⟨h2_⟩
  have n3_ : A_ (Below w.heap.size w w11) := ⟨h3_⟩
  clear BK258
  clear BK259
  clear BK260
  clear HB
  clear h0_ h1_ h2_ h3_
  have BK258 := n0_
  have BK259 := n1_
  have BK260 := n2_
  have HB := n3_
  clear n0_ n1_ n2_ n3_
  have hHeld : w11.cell? ⟨gb258, 0, none⟩ = some (.int .i64 a0_0) ∧ w11.cell? ⟨gb258, 1, none⟩ = some (.int .i64 a0_1) ∧ w11.cell? ⟨gb259, 0, none⟩ = some (.int .i64 a1_0) ∧ w11.cell? ⟨gb259, 1, none⟩ = some (.int .i64 a1_1) := hS_
  refine norm_ (a' := ?_) ?_ ?_
  rotate_left
  ·simp only [putAll, Act.put, sI_, s0_, s1_]
   rfl
  refine two_ (i := 10) (j := 11) (Ni := some 5) (Nj := some 6) (m_ 14 2047) (m_ 14 3071) rfl rfl rfl rfl (two_of HT_.out (by kernel_rfl)) (by decide) (by decide) (fun K hK => ?_) (fun K hK => ?_)
  ·refine box_step ?hg (N := 5) ?hd (cs := #[.int .i64 0, .int .i64 0]) (t := 26) ?hr ?_; (case hd => rfl); (case hg => rfl); (case hr => (go_simp; done))
   intro gb265 hg w12 hbox hb
   have BK265 := A_.mk (hbox)
   have GW265 := A_.mk ((by rw [hg]; exact (below_size HB.out) : w.heap.size ≤ gb265))
   have GE265 := A_.mk ((by rw [hg]; exact (below_size HB.out) : w.heap.size ≤ gb265))
   replace HB := A_.mk (below_step HB.out hb)
   have NB258_265 := A_.mk ((by rw [hg]; exact Nat.ne_of_lt (blk_lt BK258.out) : gb258 ≠ gb265))
   have NB265_258 := A_.mk ((by rw [hg]; exact Nat.ne_of_gt (blk_lt BK258.out) : gb265 ≠ gb258))
   replace BK258 := A_.mk (blk_below BK258.out hb)
   have NB259_265 := A_.mk ((by rw [hg]; exact Nat.ne_of_lt (blk_lt BK259.out) : gb259 ≠ gb265))
   have NB265_259 := A_.mk ((by rw [hg]; exact Nat.ne_of_gt (blk_lt BK259.out) : gb265 ≠ gb259))
   replace BK259 := A_.mk (blk_below BK259.out hb)
   have NB260_265 := A_.mk ((by rw [hg]; exact Nat.ne_of_lt (blk_lt BK260.out) : gb260 ≠ gb265))
   have NB265_260 := A_.mk ((by rw [hg]; exact Nat.ne_of_gt (blk_lt BK260.out) : gb265 ≠ gb260))
   replace BK260 := A_.mk (blk_below BK260.out hb)
   clear hb hbox hg
   refine hK.out _ _ ⟨(blk_cell BK258.out 0).trans rfl, (blk_cell BK258.out 1).trans rfl, (blk_cell BK259.out 0).trans rfl, (blk_cell BK259.out 1).trans rfl⟩ (fun hHeld => ?_)
   clear hK K
   exact norm_ (by simp only [putAll, Act.put, sI_, s0_, s1_]; try rfl) (hJ4_9_10 (gb265) _ ⟨hHeld, BK258.out, BK259.out, BK260.out, BK265.out, GW265.out, GE265.out, NB258_265.out, NB265_258.out, NB259_265.out, NB265_259.out, NB260_265.out, NB265_260.out, HB.out⟩)
  ·refine box_step ?hg (N := 6) ?hd (cs := #[.int .i64 0, .int .i64 0]) (t := 26) ?hr ?_; (case hd => rfl); (case hg => rfl); (case hr => (go_simp; done))
   intro gb266 hg w12 hbox hb
   have BK266 := A_.mk (hbox)
   have GW266 := A_.mk ((by rw [hg]; exact (below_size HB.out) : w.heap.size ≤ gb266))
   have GE266 := A_.mk ((by rw [hg]; exact (below_size HB.out) : w.heap.size ≤ gb266))
   replace HB := A_.mk (below_step HB.out hb)
   have NB258_266 := A_.mk ((by rw [hg]; exact Nat.ne_of_lt (blk_lt BK258.out) : gb258 ≠ gb266))
   have NB266_258 := A_.mk ((by rw [hg]; exact Nat.ne_of_gt (blk_lt BK258.out) : gb266 ≠ gb258))
   replace BK258 := A_.mk (blk_below BK258.out hb)
   have NB259_266 := A_.mk ((by rw [hg]; exact Nat.ne_of_lt (blk_lt BK259.out) : gb259 ≠ gb266))
   have NB266_259 := A_.mk ((by rw [hg]; exact Nat.ne_of_gt (blk_lt BK259.out) : gb266 ≠ gb259))
   replace BK259 := A_.mk (blk_below BK259.out hb)
   have NB260_266 := A_.mk ((by rw [hg]; exact Nat.ne_of_lt (blk_lt BK260.out) : gb260 ≠ gb266))
   have NB266_260 := A_.mk ((by rw [hg]; exact Nat.ne_of_gt (blk_lt BK260.out) : gb266 ≠ gb260))
   replace BK260 := A_.mk (blk_below BK260.out hb)
   clear hb hbox hg
   refine hK.out _ _ ⟨(blk_cell BK258.out 0).trans rfl, (blk_cell BK258.out 1).trans rfl, (blk_cell BK259.out 0).trans rfl, (blk_cell BK259.out 1).trans rfl⟩ (fun hHeld => ?_)
   clear hK K
   exact norm_ (by simp only [putAll, Act.put, sI_, s0_, s1_]; try rfl) (hJ4_9_11 (gb266) _ ⟨hHeld, BK258.out, BK259.out, BK260.out, BK266.out, GW266.out, GE266.out, NB258_266.out, NB266_258.out, NB259_266.out, NB266_259.out, NB260_266.out, NB266_260.out, HB.out⟩)
 ·rintro ⟨gb265, gb266⟩ w12 ⟨hS_, h0_, h1_, h2_, h3_, h4_, h5_, h6_, h7_, h8_, h9_, h10_, h11_, h12_, h13_, h14_, h15_, h16_, h17_, h18_, h19_, h20_, h21_, h22_, h23_⟩
  have n0_ : A_ (w12.heap[gb258]? = some (.cells #[.int .i64 a0_0, .int .i64 a0_1] 26 (0, 0))) := ⟨h0_⟩
  have n1_ : A_ (w12.heap[gb259]? = some (.cells #[.int .i64 a1_0, .int .i64 a1_1] 26 (0, 0))) := ⟨h1_⟩
  have n2_ : A_ (w12.heap[gb260]? = some (.cells #[.int .i64 0, .int .i64 0] 26 (0, 0))) := ⟨h2_⟩
  have n3_ : A_ (w12.heap[gb265]? = some (.cells #[.int .i64 0, .int .i64 0] 26 (0, 0))) := ⟨h3_⟩
  have n4_ : A_ (w12.heap[gb266]? = some (.cells #[.int .i64 0, .int .i64 0] 26 (0, 0))) := ⟨h4_⟩
  have n5_ : A_ (w.heap.size ≤ gb265) := ⟨h5_⟩
  have n6_ : A_ (w.heap.size ≤ gb265) := ⟨h6_⟩
  have n7_ : A_ (gb258 ≠ gb265) := ⟨h7_⟩
  have n8_ : A_ (gb265 ≠ gb258) := ⟨h8_⟩
  have n9_ : A_ (gb259 ≠ gb265) := ⟨h9_⟩
  have n10_ : A_ (gb265 ≠ gb259) := ⟨h10_⟩
  have n11_ : A_ (gb260 ≠ gb265) := ⟨h11_⟩
  have n12_ : A_ (gb265 ≠ gb260) := ⟨h12_⟩
  have n13_ : A_ (gb266 ≠ gb265) := ⟨h13_⟩
  have n14_ : A_ (gb265 ≠ gb266) := ⟨h14_⟩
  have n15_ : A_ (w.heap.size ≤ gb266) := ⟨h15_⟩
  have n16_ : A_ (w.heap.size ≤ gb266) := ⟨h16_⟩
  have n17_ : A_ (gb258 ≠ gb266) := ⟨h17_⟩
  have n18_ : A_ (gb266 ≠ gb258) := ⟨h18_⟩
  have n19_ : A_ (gb259 ≠ gb266) := ⟨h19_⟩
  have n20_ : A_ (gb266 ≠ gb259) := ⟨h20_⟩
  have n21_ : A_ (gb260 ≠ gb266) := ⟨h21_⟩
  have n22_ : A_ (gb266 ≠ gb260) := ⟨h22_⟩
  have n23_ : A_ (Below w.heap.size w w12) := ⟨h23_⟩
  clear BK258
  clear BK259
  clear BK260
  clear HB
  clear h0_ h1_ h2_ h3_ h4_ h5_ h6_ h7_ h8_ h9_ h10_ h11_ h12_ h13_ h14_ h15_ h16_ h17_ h18_ h19_ h20_ h21_ h22_ h23_
  have BK258 := n0_
  have BK259 := n1_
  have BK260 := n2_
  have BK265 := n3_
  have BK266 := n4_
  have GW265 := n5_
  have GE265 := n6_
  have NB258_265 := n7_
  have NB265_258 := n8_
  have NB259_265 := n9_
  have NB265_259 := n10_
  have NB260_265 := n11_
  have NB265_260 := n12_
  have NB266_265 := n13_
  have NB265_266 := n14_
  have GW266 := n15_
  have GE266 := n16_
  have NB258_266 := n17_
  have NB266_258 := n18_
  have NB259_266 := n19_
  have NB266_259 := n20_
  have NB260_266 := n21_
  have NB266_260 := n22_
  have HB := n23_
  clear n0_ n1_ n2_ n3_ n4_ n5_ n6_ n7_ n8_ n9_ n10_ n11_ n12_ n13_ n14_ n15_ n16_ n17_ n18_ n19_ n20_ n21_ n22_ n23_
  have hHeld : w12.cell? ⟨gb258, 0, none⟩ = some (.int .i64 a0_0) ∧ w12.cell? ⟨gb258, 1, none⟩ = some (.int .i64 a0_1) ∧ w12.cell? ⟨gb259, 0, none⟩ = some (.int .i64 a1_0) ∧ w12.cell? ⟨gb259, 1, none⟩ = some (.int .i64 a1_1) := hS_
  refine norm_ (a' := ?_) ?_ ?_
  rotate_left
  ·simp only [putAll, Act.put, sI_, s0_, s1_]
   rfl
  refine one_ (i := 9) (N := some 16) (m_ 14 4095) rfl rfl (one_of HT_.out (by kernel_rfl)) (by decide) (fun K hK => ?_)
  refine goes_ Tryd.func69 (by kernel_rfl) rfl #[.int .i64 a1_0, .int .i64 a0_1] (by rfl) rfl rfl (by (try simp only [List.map_toArray, List.map_cons, List.map_nil]); (rfl)) ?_
  with_reducible refine (spec_l2Cut.calls k a1_0 a0_1 t263 t264 _ A4.out).mono ?_
  rintro e w13 ⟨rfl, hb⟩
  refine ⟨_, rfl, ?_⟩
  replace BK258 := A_.mk (blk_below BK258.out hb)
  replace BK259 := A_.mk (blk_below BK259.out hb)
  replace BK260 := A_.mk (blk_below BK260.out hb)
  replace BK265 := A_.mk (blk_below BK265.out hb)
  replace BK266 := A_.mk (blk_below BK266.out hb)
  replace HB := A_.mk (below_step HB.out hb)
  (try clear hb)
  skip
  skip
  skip
  refine hK.out _ _ ⟨(blk_cell BK258.out 0).trans rfl, (blk_cell BK258.out 1).trans rfl, (blk_cell BK259.out 0).trans rfl, (blk_cell BK259.out 1).trans rfl⟩ (fun hHeld => ?_)
  clear hK K
  exact norm_ (by simp only [putAll, Act.put, sI_, s0_, s1_]; try rfl) (hJ4_9_10_11 (gb265, gb266) _ ⟨hHeld, BK258.out, BK259.out, BK260.out, BK265.out, BK266.out, GW265.out, GE265.out, NB258_265.out, NB265_258.out, NB259_265.out, NB265_259.out, NB260_265.out, NB265_260.out, NB266_265.out, NB265_266.out, GW266.out, GE266.out, NB258_266.out, NB266_258.out, NB259_266.out, NB266_259.out, NB260_266.out, NB266_260.out, HB.out⟩)
 ·rintro gb266 w12 ⟨hS_, h0_, h1_, h2_, h3_, h4_, h5_, h6_, h7_, h8_, h9_, h10_, h11_, h12_⟩
  have n0_ : A_ (w12.heap[gb258]? = some (.cells #[.int .i64 a0_0, .int .i64 a0_1] 26 (0, 0))) := ⟨h0_⟩
  have n1_ : A_ (w12.heap[gb259]? = some (.cells #[.int .i64 a1_0, .int .i64 a1_1] 26 (0, 0))) := ⟨h1_⟩
  have n2_ : A_ (w12.heap[gb260]? = some (.cells #[.int .i64 0, .int .i64 0] 26 (0, 0))) := ⟨h2_⟩
  have n3_ : A_ (w12.heap[gb266]? = some (.cells #[.int .i64 0, .int .i64 0] 26 (0, 0))) := ⟨h3_⟩
  have n4_ : A_ (w.heap.size ≤ gb266) := ⟨h4_⟩
  have n5_ : A_ (w.heap.size ≤ gb266) := ⟨h5_⟩
  have n6_ : A_ (gb258 ≠ gb266) := ⟨h6_⟩
  have n7_ : A_ (gb266 ≠ gb258) := ⟨h7_⟩
  have n8_ : A_ (gb259 ≠ gb266) := ⟨h8_⟩
  have n9_ : A_ (gb266 ≠ gb259) := ⟨h9_⟩
  have n10_ : A_ (gb260 ≠ gb266) := ⟨h10_⟩
  have n11_ : A_ (gb266 ≠ gb260) := ⟨h11_⟩
  have n12_ : A_ (Below w.heap.size w w12) := ⟨h12_⟩
  clear BK258
  clear BK259
  clear BK260
  clear HB
  clear h0_ h1_ h2_ h3_ h4_ h5_ h6_ h7_ h8_ h9_ h10_ h11_ h12_
  have BK258 := n0_
  have BK259 := n1_
  have BK260 := n2_
  have BK266 := n3_
  have GW266 := n4_
  have GE266 := n5_
  have NB258_266 := n6_
  have NB266_258 := n7_
  have NB259_266 := n8_
  have NB266_259 := n9_
  have NB260_266 := n10_
  have NB266_260 := n11_
  have HB := n12_
  clear n0_ n1_ n2_ n3_ n4_ n5_ n6_ n7_ n8_ n9_ n10_ n11_ n12_
  have hHeld : w12.cell? ⟨gb258, 0, none⟩ = some (.int .i64 a0_0) ∧ w12.cell? ⟨gb258, 1, none⟩ = some (.int .i64 a0_1) ∧ w12.cell? ⟨gb259, 0, none⟩ = some (.int .i64 a1_0) ∧ w12.cell? ⟨gb259, 1, none⟩ = some (.int .i64 a1_1) := hS_
  refine norm_ (a' := ?_) ?_ ?_
  rotate_left
  ·simp only [putAll, Act.put, sI_, s0_, s1_]
   rfl
  refine one_ (i := 10) (N := some 5) (m_ 14 4095) rfl rfl (one_of HT_.out (by kernel_rfl)) (by decide) (fun K hK => ?_)
  refine box_step ?hg (N := 5) ?hd (cs := #[.int .i64 0, .int .i64 0]) (t := 26) ?hr ?_; (case hd => rfl); (case hg => rfl); (case hr => (go_simp; done))
  intro gb265 hg w13 hbox hb
  have BK265 := A_.mk (hbox)
  have GW265 := A_.mk ((by rw [hg]; exact (below_size HB.out) : w.heap.size ≤ gb265))
  have GE265 := A_.mk ((by rw [hg]; exact (below_size HB.out) : w.heap.size ≤ gb265))
  replace HB := A_.mk (below_step HB.out hb)
  have NB258_265 := A_.mk ((by rw [hg]; exact Nat.ne_of_lt (blk_lt BK258.out) : gb258 ≠ gb265))
  have NB265_258 := A_.mk ((by rw [hg]; exact Nat.ne_of_gt (blk_lt BK258.out) : gb265 ≠ gb258))
  replace BK258 := A_.mk (blk_below BK258.out hb)
  have NB259_265 := A_.mk ((by rw [hg]; exact Nat.ne_of_lt (blk_lt BK259.out) : gb259 ≠ gb265))
  have NB265_259 := A_.mk ((by rw [hg]; exact Nat.ne_of_gt (blk_lt BK259.out) : gb265 ≠ gb259))
  replace BK259 := A_.mk (blk_below BK259.out hb)
  have NB260_265 := A_.mk ((by rw [hg]; exact Nat.ne_of_lt (blk_lt BK260.out) : gb260 ≠ gb265))
  have NB265_260 := A_.mk ((by rw [hg]; exact Nat.ne_of_gt (blk_lt BK260.out) : gb265 ≠ gb260))
  replace BK260 := A_.mk (blk_below BK260.out hb)
  have NB266_265 := A_.mk ((by rw [hg]; exact Nat.ne_of_lt (blk_lt BK266.out) : gb266 ≠ gb265))
  have NB265_266 := A_.mk ((by rw [hg]; exact Nat.ne_of_gt (blk_lt BK266.out) : gb265 ≠ gb266))
  replace BK266 := A_.mk (blk_below BK266.out hb)
  clear hb hbox hg
  refine hK.out _ _ ⟨(blk_cell BK258.out 0).trans rfl, (blk_cell BK258.out 1).trans rfl, (blk_cell BK259.out 0).trans rfl, (blk_cell BK259.out 1).trans rfl⟩ (fun hHeld => ?_)
  clear hK K
  exact norm_ (by simp only [putAll, Act.put, sI_, s0_, s1_]; try rfl) (hJ4_9_10_11 (gb265, gb266) _ ⟨hHeld, BK258.out, BK259.out, BK260.out, BK265.out, BK266.out, GW265.out, GE265.out, NB258_265.out, NB265_258.out, NB259_265.out, NB265_259.out, NB260_265.out, NB265_260.out, NB266_265.out, NB265_266.out, GW266.out, GE266.out, NB258_266.out, NB266_258.out, NB259_266.out, NB266_259.out, NB260_266.out, NB266_260.out, HB.out⟩)
 ·rintro gb265 w12 ⟨hS_, h0_, h1_, h2_, h3_, h4_, h5_, h6_, h7_, h8_, h9_, h10_, h11_, h12_⟩
  have n0_ : A_ (w12.heap[gb258]? = some (.cells #[.int .i64 a0_0, .int .i64 a0_1] 26 (0, 0))) := ⟨h0_⟩
  have n1_ : A_ (w12.heap[gb259]? = some (.cells #[.int .i64 a1_0, .int .i64 a1_1] 26 (0, 0))) := ⟨h1_⟩
  have n2_ : A_ (w12.heap[gb260]? = some (.cells #[.int .i64 0, .int .i64 0] 26 (0, 0))) := ⟨h2_⟩
  have n3_ : A_ (w12.heap[gb265]? = some (.cells #[.int .i64 0, .int .i64 0] 26 (0, 0))) := ⟨h3_⟩
  have n4_ : A_ (w.heap.size ≤ gb265) := ⟨h4_⟩
  have n5_ : A_ (w.heap.size ≤ gb265) := ⟨h5_⟩
  have n6_ : A_ (gb258 ≠ gb265) := ⟨h6_⟩
  have n7_ : A_ (gb265 ≠ gb258) := ⟨h7_⟩
  have n8_ : A_ (gb259 ≠ gb265) := ⟨h8_⟩
  have n9_ : A_ (gb265 ≠ gb259) := ⟨h9_⟩
  have n10_ : A_ (gb260 ≠ gb265) := ⟨h10_⟩
  have n11_ : A_ (gb265 ≠ gb260) := ⟨h11_⟩
  have n12_ : A_ (Below w.heap.size w w12) := ⟨h12_⟩
  clear BK258
  clear BK259
  clear BK260
  clear HB
  clear h0_ h1_ h2_ h3_ h4_ h5_ h6_ h7_ h8_ h9_ h10_ h11_ h12_
  have BK258 := n0_
  have BK259 := n1_
  have BK260 := n2_
  have BK265 := n3_
  have GW265 := n4_
  have GE265 := n5_
  have NB258_265 := n6_
  have NB265_258 := n7_
  have NB259_265 := n8_
  have NB265_259 := n9_
  have NB260_265 := n10_
  have NB265_260 := n11_
  have HB := n12_
  clear n0_ n1_ n2_ n3_ n4_ n5_ n6_ n7_ n8_ n9_ n10_ n11_ n12_
  have hHeld : w12.cell? ⟨gb258, 0, none⟩ = some (.int .i64 a0_0) ∧ w12.cell? ⟨gb258, 1, none⟩ = some (.int .i64 a0_1) ∧ w12.cell? ⟨gb259, 0, none⟩ = some (.int .i64 a1_0) ∧ w12.cell? ⟨gb259, 1, none⟩ = some (.int .i64 a1_1) := hS_
  refine norm_ (a' := ?_) ?_ ?_
  rotate_left
  ·simp only [putAll, Act.put, sI_, s0_, s1_]
   rfl
  refine one_ (i := 11) (N := some 6) (m_ 14 4095) rfl rfl (one_of HT_.out (by kernel_rfl)) (by decide) (fun K hK => ?_)
  refine box_step ?hg (N := 6) ?hd (cs := #[.int .i64 0, .int .i64 0]) (t := 26) ?hr ?_; (case hd => rfl); (case hg => rfl); (case hr => (go_simp; done))
  intro gb266 hg w13 hbox hb
  have BK266 := A_.mk (hbox)
  have GW266 := A_.mk ((by rw [hg]; exact (below_size HB.out) : w.heap.size ≤ gb266))
  have GE266 := A_.mk ((by rw [hg]; exact (below_size HB.out) : w.heap.size ≤ gb266))
  replace HB := A_.mk (below_step HB.out hb)
  have NB258_266 := A_.mk ((by rw [hg]; exact Nat.ne_of_lt (blk_lt BK258.out) : gb258 ≠ gb266))
  have NB266_258 := A_.mk ((by rw [hg]; exact Nat.ne_of_gt (blk_lt BK258.out) : gb266 ≠ gb258))
  replace BK258 := A_.mk (blk_below BK258.out hb)
  have NB259_266 := A_.mk ((by rw [hg]; exact Nat.ne_of_lt (blk_lt BK259.out) : gb259 ≠ gb266))
  have NB266_259 := A_.mk ((by rw [hg]; exact Nat.ne_of_gt (blk_lt BK259.out) : gb266 ≠ gb259))
  replace BK259 := A_.mk (blk_below BK259.out hb)
  have NB260_266 := A_.mk ((by rw [hg]; exact Nat.ne_of_lt (blk_lt BK260.out) : gb260 ≠ gb266))
  have NB266_260 := A_.mk ((by rw [hg]; exact Nat.ne_of_gt (blk_lt BK260.out) : gb266 ≠ gb260))
  replace BK260 := A_.mk (blk_below BK260.out hb)
  have NB265_266 := A_.mk ((by rw [hg]; exact Nat.ne_of_lt (blk_lt BK265.out) : gb265 ≠ gb266))
  have NB266_265 := A_.mk ((by rw [hg]; exact Nat.ne_of_gt (blk_lt BK265.out) : gb266 ≠ gb265))
  replace BK265 := A_.mk (blk_below BK265.out hb)
  clear hb hbox hg
  refine hK.out _ _ ⟨(blk_cell BK258.out 0).trans rfl, (blk_cell BK258.out 1).trans rfl, (blk_cell BK259.out 0).trans rfl, (blk_cell BK259.out 1).trans rfl⟩ (fun hHeld => ?_)
  clear hK K
  exact norm_ (by simp only [putAll, Act.put, sI_, s0_, s1_]; try rfl) (hJ4_9_10_11 (gb265, gb266) _ ⟨hHeld, BK258.out, BK259.out, BK260.out, BK265.out, BK266.out, GW265.out, GE265.out, NB258_265.out, NB265_258.out, NB259_265.out, NB265_259.out, NB260_265.out, NB265_260.out, NB266_265.out, NB265_266.out, GW266.out, GE266.out, NB258_266.out, NB266_258.out, NB259_266.out, NB266_259.out, NB260_266.out, NB266_260.out, HB.out⟩)
 rintro ⟨gb265, gb266⟩ w13 ⟨hS_, h0_, h1_, h2_, h3_, h4_, h5_, h6_, h7_, h8_, h9_, h10_, h11_, h12_, h13_, h14_, h15_, h16_, h17_, h18_, h19_, h20_, h21_, h22_, h23_⟩
 have n0_ : A_ (w13.heap[gb258]? = some (.cells #[.int .i64 a0_0, .int .i64 a0_1] 26 (0, 0))) := ⟨h0_⟩
 have n1_ : A_ (w13.heap[gb259]? = some (.cells #[.int .i64 a1_0, .int .i64 a1_1] 26 (0, 0))) := ⟨h1_⟩
 have n2_ : A_ (w13.heap[gb260]? = some (.cells #[.int .i64 0, .int .i64 0] 26 (0, 0))) := ⟨h2_⟩
 have n3_ : A_ (w13.heap[gb265]? = some (.cells #[.int .i64 0, .int .i64 0] 26 (0, 0))) := ⟨h3_⟩
 have n4_ : A_ (w13.heap[gb266]? = some (.cells #[.int .i64 0, .int .i64 0] 26 (0, 0))) := ⟨h4_⟩
 have n5_ : A_ (w.heap.size ≤ gb265) := ⟨h5_⟩
 have n6_ : A_ (w.heap.size ≤ gb265) := ⟨h6_⟩
 have n7_ : A_ (gb258 ≠ gb265) := ⟨h7_⟩
 have n8_ : A_ (gb265 ≠ gb258) := ⟨h8_⟩
 have n9_ : A_ (gb259 ≠ gb265) := ⟨h9_⟩
 have n10_ : A_ (gb265 ≠ gb259) := ⟨h10_⟩
 have n11_ : A_ (gb260 ≠ gb265) := ⟨h11_⟩
 have n12_ : A_ (gb265 ≠ gb260) := ⟨h12_⟩
 have n13_ : A_ (gb266 ≠ gb265) := ⟨h13_⟩
 have n14_ : A_ (gb265 ≠ gb266) := ⟨h14_⟩
 have n15_ : A_ (w.heap.size ≤ gb266) := ⟨h15_⟩
 have n16_ : A_ (w.heap.size ≤ gb266) := ⟨h16_⟩
 have n17_ : A_ (gb258 ≠ gb266) := ⟨h17_⟩
 have n18_ : A_ (gb266 ≠ gb258) := ⟨h18_⟩
 have n19_ : A_ (gb259 ≠ gb266) := ⟨h19_⟩
 have n20_ : A_ (gb266 ≠ gb259) := ⟨h20_⟩
 have n21_ : A_ (gb260 ≠ gb266) := ⟨h21_⟩
 have n22_ : A_ (gb266 ≠ gb260) := ⟨h22_⟩
 have n23_ : A_ (Below w.heap.size w w13) := ⟨h23_⟩
 clear BK258
 clear BK259
 clear BK260
 clear HB
 clear h0_ h1_ h2_ h3_ h4_ h5_ h6_ h7_ h8_ h9_ h10_ h11_ h12_ h13_ h14_ h15_ h16_ h17_ h18_ h19_ h20_ h21_ h22_ h23_
 have BK258 := n0_
 have BK259 := n1_
 have BK260 := n2_
 have BK265 := n3_
 have BK266 := n4_
 have GW265 := n5_
 have GE265 := n6_
 have NB258_265 := n7_
 have NB265_258 := n8_
 have NB259_265 := n9_
 have NB265_259 := n10_
 have NB260_265 := n11_
 have NB265_260 := n12_
 have NB266_265 := n13_
 have NB265_266 := n14_
 have GW266 := n15_
 have GE266 := n16_
 have NB258_266 := n17_
 have NB266_258 := n18_
 have NB259_266 := n19_
 have NB266_259 := n20_
 have NB260_266 := n21_
 have NB266_260 := n22_
 have HB := n23_
 clear n0_ n1_ n2_ n3_ n4_ n5_ n6_ n7_ n8_ n9_ n10_ n11_ n12_ n13_ n14_ n15_ n16_ n17_ n18_ n19_ n20_ n21_ n22_ n23_
 have hHeld : w13.cell? ⟨gb258, 0, none⟩ = some (.int .i64 a0_0) ∧ w13.cell? ⟨gb258, 1, none⟩ = some (.int .i64 a0_1) ∧ w13.cell? ⟨gb259, 0, none⟩ = some (.int .i64 a1_0) ∧ w13.cell? ⟨gb259, 1, none⟩ = some (.int .i64 a1_1) := hS_
 refine norm_ (a' := ?_) ?_ ?_
 rotate_left
 ·simp only [putAll, Act.put, sI_, s0_, s1_]
  rfl
 refine one_ (i := 12) (N := none) (m_ 14 8191) rfl rfl (one_of HT_.out (by kernel_rfl)) (by decide) (fun K hK => ?_)
 have hs14 : w13.cell? ⟨gb265, 0, none⟩ = some (.int .i64 0) := (blk_cell BK265.out 0).trans rfl
 have hfs14 := blk_frozen BK265.out 0
 have hns14_0 := NB258_265.out
 have hns14_1 := NB259_265.out
 have hns14_2 := NB260_265.out
 have hns14_4 := NB266_265.out
 have hms14_0 := NB265_258.out
 have hms14_1 := NB265_259.out
 have hms14_2 := NB265_260.out
 have hms14_4 := NB265_266.out
 have hs15 : w13.cell? ⟨gb265, 1, none⟩ = some (.int .i64 0) := (blk_cell BK265.out 1).trans rfl
 have hfs15 := blk_frozen BK265.out 1
 have hns15_0 := NB258_265.out
 have hns15_1 := NB259_265.out
 have hns15_2 := NB260_265.out
 have hns15_4 := NB266_265.out
 have hms15_0 := NB265_258.out
 have hms15_1 := NB265_259.out
 have hms15_2 := NB265_260.out
 have hms15_4 := NB265_266.out
 refine skip_ (w1 := ?_) (by rfl) rfl ?_ ?_
 rotate_left
 ·go_simp
  rfl
 refine hK.out _ _ ⟨((cell_far (p := ⟨gb265, _, none⟩) NB258_265.out _).trans (((cell_far (p := ⟨gb265, _, none⟩) NB258_265.out _).trans (hHeld.1)))), ((cell_far (p := ⟨gb265, _, none⟩) NB258_265.out _).trans (((cell_far (p := ⟨gb265, _, none⟩) NB258_265.out _).trans (hHeld.2.1)))), ((cell_far (p := ⟨gb265, _, none⟩) NB259_265.out _).trans (((cell_far (p := ⟨gb265, _, none⟩) NB259_265.out _).trans (hHeld.2.2.1)))), ((cell_far (p := ⟨gb265, _, none⟩) NB259_265.out _).trans (((cell_far (p := ⟨gb265, _, none⟩) NB259_265.out _).trans (hHeld.2.2.2))))⟩ (fun hHeld => ?_)
 clear hK K
 refine one_ (i := 13) (N := none) (m_ 14 16383) rfl rfl (one_of HT_.out (by kernel_rfl)) (by decide) (fun K hK => ?_)
 have hs16 : w13.cell? ⟨gb266, 0, none⟩ = some (.int .i64 0) := (blk_cell BK266.out 0).trans rfl
 have hfs16 := blk_frozen BK266.out 0
 have hns16_0 := NB258_266.out
 have hns16_1 := NB259_266.out
 have hns16_2 := NB260_266.out
 have hns16_3 := NB265_266.out
 have hms16_0 := NB266_258.out
 have hms16_1 := NB266_259.out
 have hms16_2 := NB266_260.out
 have hms16_3 := NB266_265.out
 have hs17 : w13.cell? ⟨gb266, 1, none⟩ = some (.int .i64 0) := (blk_cell BK266.out 1).trans rfl
 have hfs17 := blk_frozen BK266.out 1
 have hns17_0 := NB258_266.out
 have hns17_1 := NB259_266.out
 have hns17_2 := NB260_266.out
 have hns17_3 := NB265_266.out
 have hms17_0 := NB266_258.out
 have hms17_1 := NB266_259.out
 have hms17_2 := NB266_260.out
 have hms17_3 := NB266_265.out
 refine skip_ (w1 := ?_) (by rfl) rfl ?_ ?_
 rotate_left
 ·go_simp
  rfl
 refine hK.out _ _ ⟨((cell_far (p := ⟨gb266, _, none⟩) NB258_266.out _).trans (((cell_far (p := ⟨gb266, _, none⟩) NB258_266.out _).trans (hHeld.1)))), ((cell_far (p := ⟨gb266, _, none⟩) NB258_266.out _).trans (((cell_far (p := ⟨gb266, _, none⟩) NB258_266.out _).trans (hHeld.2.1)))), ((cell_far (p := ⟨gb266, _, none⟩) NB259_266.out _).trans (((cell_far (p := ⟨gb266, _, none⟩) NB259_266.out _).trans (hHeld.2.2.1)))), ((cell_far (p := ⟨gb266, _, none⟩) NB259_266.out _).trans (((cell_far (p := ⟨gb266, _, none⟩) NB259_266.out _).trans (hHeld.2.2.2))))⟩ (fun hHeld => ?_)
 clear hK K
 refine done_ (done_of HT_.out (by kernel_rfl)) ?_
 have hnb18 := NB265_258.out
 have hnc18 := NB258_265.out
 have hnb19 := NB265_259.out
 have hnc19 := NB259_265.out
 have hnb20 := NB265_260.out
 have hnc20 := NB260_265.out
 have hnb21 := NB265_266.out
 have hnc21 := NB266_265.out
 have hcz22_0 : w13.cell? ⟨gb265, 0, none⟩ = some (.int .i64 0) := (blk_cell BK265.out 0).trans rfl
 have hcz22_1 : w13.cell? ⟨gb265, 1, none⟩ = some (.int .i64 0) := (blk_cell BK265.out 1).trans rfl
 have hfz22_0 := blk_frozen BK265.out 0
 have hfz22_1 := blk_frozen BK265.out 1
 have hnb23 := NB266_258.out
 have hnc23 := NB258_266.out
 have hnb24 := NB266_259.out
 have hnc24 := NB259_266.out
 have hnb25 := NB266_260.out
 have hnc25 := NB260_266.out
 have hcz26_0 : w13.cell? ⟨gb266, 0, none⟩ = some (.int .i64 0) := (blk_cell BK266.out 0).trans rfl
 have hcz26_1 : w13.cell? ⟨gb266, 1, none⟩ = some (.int .i64 0) := (blk_cell BK266.out 1).trans rfl
 have hfz26_0 := blk_frozen BK266.out 0
 have hfz26_1 := blk_frozen BK266.out 1
 have hnb27 := NB260_258.out
 have hnc27 := NB258_260.out
 have hnb28 := NB260_259.out
 have hnc28 := NB259_260.out
 have hcz29_0 : w13.cell? ⟨gb260, 0, none⟩ = some (.int .i64 0) := (blk_cell BK260.out 0).trans rfl
 have hcz29_1 : w13.cell? ⟨gb260, 1, none⟩ = some (.int .i64 0) := (blk_cell BK260.out 1).trans rfl
 have hfz29_0 := blk_frozen BK260.out 0
 have hfz29_1 := blk_frozen BK260.out 1
 try go_wp2
 refine bodyPost_ret (results_cell_row rfl _ _ gb260 26 #[.int .i64 (wrap64 (t261 * t263)), .int .i64 (wrap64 (t262 * t264))] (0, 0) _ rfl (by (with_reducible repeat (refine blk_drewN ?_ _)); refine blk_put (cs := #[.int .i64 (wrap64 (t261 * t263)), .int .i64 0]) ?_ 1 _ rfl; (with_reducible repeat (refine blk_drewN ?_ _)); refine blk_put (cs := #[.int .i64 0, .int .i64 0]) ?_ 0 _ rfl; (with_reducible repeat (refine blk_drewN ?_ _)); refine blk_far ?_ NB260_266.out _; (with_reducible repeat (refine blk_drewN ?_ _)); refine blk_far ?_ NB260_266.out _; (with_reducible repeat (refine blk_drewN ?_ _)); refine blk_far ?_ NB260_265.out _; (with_reducible repeat (refine blk_drewN ?_ _)); refine blk_far ?_ NB260_265.out _; (with_reducible repeat (refine blk_drewN ?_ _)); exact BK260.out) Tryd.underlying26 rfl (by kernel_rfl)) rfl ?_
 exact ⟨by rfl, by repeat ((with_reducible first | exact HB.out | refine below_set ?_ GE260.out | refine below_set ?_ GE265.out | refine below_set ?_ GE266.out))⟩

end Go.Proofs.YtihifglmnjocfaaDoor.PFnExactFinalRows
