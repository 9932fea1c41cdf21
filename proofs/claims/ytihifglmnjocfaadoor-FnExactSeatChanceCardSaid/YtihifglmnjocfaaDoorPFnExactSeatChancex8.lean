/- Given functions as plain Lean functions, and that their calls answer these. -/
import Derived.Test.YtihifglmnjocfaaDoorPFnExactSeatChancex0
import Derived.Test.YtihifglmnjocfaaDoorPFnExactSeatChancex7
namespace Go.Proofs.YtihifglmnjocfaaDoor.PFnExactSeatChance
open Go.RowKit Go.Proofs.YtihifglmnjocfaaDoorW.PrintWords Go.Proofs.YtihifglmnjocfaaDoorW.PrintLast Go.Proofs.YtihifglmnjocfaaDoorW.PrintMore
attribute [local go_sem] max2_int min2_int max_two min_two max_three min_three max_four min_four
set_option maxHeartbeats 8000000
set_option maxRecDepth 100000
set_option linter.unusedVariables false
set_option linter.unusedSimpArgs false

theorem joinX8_ {P : Program} {md : Region.Mode} {ops : Array Oper} {Q : Exit → Act → World → Prop} {S : World → Prop} {ds : List Nat} {σ : Type} {fuel : Nat} {l : Array Bool} {a : Act} {w : World} (fuel' : Nat) (l' : Array Bool) (ns : σ → List (Tmp × Value)) (F : σ → World → Prop)
    (h : (∀ s w', F s w' → wpAnyLast P md ops Q S ds fuel' l' (putAll a (ns s)) w') → wpAnyLast P md ops Q S ds fuel l a w)
    (hcont : ∀ s w', F s w' → wpAnyLast P md ops Q S ds fuel' l' (putAll a (ns s)) w') : wpAnyLast P md ops Q S ds fuel l a w := join_ fuel' l' ns F hcont h
/-! ### spec_l2Times: function 55 -/
def spec_l2Times.f (k : Nat) (a0_0 : Int) (a0_1 : Int) (a1_0 : Int) (a1_1 : Int) : Option (Int × Int) := (spec_l2Cut.f k a0_0 a1_1).bind fun bt269 => ((spec_l2Cut.f k a1_0 a0_1).bind fun bt271 => (some (wrap64 (bt269.1 * bt271.1), wrap64 (bt269.2 * bt271.2))))
theorem spec_l2Times.mono : ∀ a0 a1 a2 a3 k, LeO (spec_l2Times.f k a0 a1 a2 a3) (spec_l2Times.f (k + 1) a0 a1 a2 a3) := by
 intro a0 a1 a2 a3 k
 unfold spec_l2Times.f
 repeat' first
   | (with_reducible exact spec_l2Cut.mono _ _ _)
   | (with_reducible exact LeO.refl _)
   | (with_reducible exact LeO.none _)
   | (with_reducible refine LeO.ite ?_ ?_)
   | (with_reducible refine LeO.bind ?_ (fun _ => ?_))
   | exact spec_l2Cut.mono _ _ _
   | exact LeO.none _
   | refine LeO.ite ?_ ?_
   | refine LeO.bind ?_ (fun _ => ?_)
def spec_l2Times.T1 : Bool × List (List Nat × List Nat) := (true, [([], []), ([0], [0]), ([], []), ([2], [2]), ([1, 3], [1, 3]), ([], []), ([5], [5]), ([], []), ([7], [7]), ([6, 8, 4], [6, 8]), ([], []), ([], []), ([10, 4, 9, 0, 1, 2, 3, 4, 10, 11], [4, 10]), ([11, 9, 12, 0, 1, 2, 3, 4, 5, 6, 7, 8, 9, 10, 11, 12], [9, 11])])
def spec_l2Times.B1 : List Nat := [0, 1, 0, 4, 15, 0, 32, 0, 128, 511, 0, 0, 4095, 8191]
theorem spec_l2Times.tab1 : rtab .any (opsOf Tryd.f55 1) = spec_l2Times.T1 := by kernel_rfl
theorem spec_l2Times.bits1 : waitsOk spec_l2Times.T1.2 spec_l2Times.B1 = true := by kernel_rfl
theorem spec_l2Times.calls (k : Nat) (a0_0 : Int) (a0_1 : Int) (a1_0 : Int) (a1_1 : Int) (r1 : Int) (r2 : Int) (w : World) (h : spec_l2Times.f k a0_0 a0_1 a1_0 a1_1 = some (r1, r2)) :
  Calls Tryd.prog 55 #[.agg #[.int .i64 a0_0, .int .i64 a0_1], .agg #[.int .i64 a1_0, .int .i64 a1_1]] w fun e w' => e = .returned (.agg #[.int .i64 r1, .int .i64 r2]) ∧ Below w.heap.size w w' := by
 have hu26 := Tryd.underlying26
 have HB := A_.mk (Below.refl w.heap.size w)
 have H : ((spec_l2Cut.f k a0_0 a1_1).bind fun bt269 => ((spec_l2Cut.f k a1_0 a0_1).bind fun bt271 => (some (wrap64 (bt269.1 * bt271.1), wrap64 (bt269.2 * bt271.2))))) = some (r1, r2) := h
 clear h
 replace H := Option.bind_eq_some_iff.mp H
 obtain ⟨⟨t269, t270⟩, A30, H⟩ := H
 replace H : ((spec_l2Cut.f k a1_0 a0_1).bind fun bt271 => (some (wrap64 (t269 * bt271.1), wrap64 (t270 * bt271.2)))) = some (r1, r2) := H
 have A3 := A_.mk A30
 clear A30
 replace H := Option.bind_eq_some_iff.mp H
 obtain ⟨⟨t271, t272⟩, A40, H⟩ := H
 replace H : (some (wrap64 (t269 * t271), wrap64 (t270 * t272))) = some (r1, r2) := H
 have A4 := A_.mk A40
 clear A40
 simp only [Option.some.injEq, Prod.mk.injEq] at H
 obtain ⟨rfl, rfl⟩ := H
 go_enter Tryd.func55, Tryd.ntmps55
 try go_wp2_with (first | ((with_reducible refine gate_dst (N := 2) rfl ?_); refine box_event ?hg (N := 2) ?hd (cs := #[.int .i64 a0_0, .int .i64 a0_1]) (t := 26) ?hr ?_; (case hd => rfl); (case hg => rfl); (case hr => (go_simp; done)); intro gb266 hg w5 hbox hb; replace HB := A_.mk (below_step HB.out hb); have BK266 := A_.mk (hbox); clear hb hbox hg) | ((with_reducible refine gate_dst (N := 3) rfl ?_); refine box_event ?hg (N := 3) ?hd (cs := #[.int .i64 a1_0, .int .i64 a1_1]) (t := 26) ?hr ?_; (case hd => rfl); (case hg => rfl); (case hr => (go_simp; done)); intro gb267 hg w6 hbox hb; replace BK266 := A_.mk (blk_below BK266.out hb); replace HB := A_.mk (below_step HB.out hb); have BK267 := A_.mk (hbox); clear hb hbox hg) | ((with_reducible refine gate_dst (N := 4) rfl ?_); refine box_event ?hg (N := 4) ?hd (cs := #[.int .i64 0, .int .i64 0]) (t := 26) ?hr ?_; (case hd => rfl); (case hg => rfl); (case hr => (go_simp; done)); intro gb268 hg w7 hbox hb; have BK268 := A_.mk (hbox); have GE268 := A_.mk ((by rw [hg]; exact (below_size HB.out) : w.heap.size ≤ gb268)); replace HB := A_.mk (below_step HB.out hb); have NB266_268 := A_.mk ((by rw [hg]; exact Nat.ne_of_lt (blk_lt BK266.out) : gb266 ≠ gb268)); have NB268_266 := A_.mk ((by rw [hg]; exact Nat.ne_of_gt (blk_lt BK266.out) : gb268 ≠ gb266)); replace BK266 := A_.mk (blk_below BK266.out hb); have NB267_268 := A_.mk ((by rw [hg]; exact Nat.ne_of_lt (blk_lt BK267.out) : gb267 ≠ gb268)); have NB268_267 := A_.mk ((by rw [hg]; exact Nat.ne_of_gt (blk_lt BK267.out) : gb268 ≠ gb267)); replace BK267 := A_.mk (blk_below BK267.out hb); clear hb hbox hg))
 replace BK266 := A_.mk (blk_drew BK266.out)
 replace BK267 := A_.mk (blk_drew BK267.out)
 replace BK268 := A_.mk (blk_drew BK268.out)
 replace HB := A_.mk (below_drew1 HB.out)
 refine start_ (n := 14) (S := fun w' => w'.cell? ⟨gb266, 0, none⟩ = some (.int .i64 a0_0) ∧ w'.cell? ⟨gb266, 1, none⟩ = some (.int .i64 a0_1) ∧ w'.cell? ⟨gb267, 0, none⟩ = some (.int .i64 a1_0) ∧ w'.cell? ⟨gb267, 1, none⟩ = some (.int .i64 a1_1)) (ds := []) (m_ 14 0) (by kernel_rfl) rfl rfl ⟨(blk_cell BK266.out 0).trans rfl, (blk_cell BK266.out 1).trans rfl, (blk_cell BK267.out 0).trans rfl, (blk_cell BK267.out 1).trans rfl⟩ (fun hHeld => ?_); refine with_tabW spec_l2Times.tab1 spec_l2Times.bits1 (fun HT_ HW_ => ?_)
 generalize w7.drew = w8 at BK266 BK267 BK268 HB hHeld ⊢
 refine pure_ (i := 0) (N := some 7) (v := ?_) (a' := ?_) (m_ 14 1) rfl rfl (any_of HT_.out (by kernel_rfl)) (fun _ _ _ h => h) (Or.inl ⟨by rfl, ?_⟩) ?_ ?_
 rotate_left
 ·intro w'
  go_simp
  with_reducible rfl
 rotate_left
 ·simp only [Act.put, sI_, s0_, s1_, i64_w, i32_w]
  rfl
 refine pure_ (i := 2) (N := some 9) (v := ?_) (a' := ?_) (m_ 14 5) rfl rfl (any_of HT_.out (by kernel_rfl)) (fun _ _ _ h => h) (Or.inl ⟨by rfl, ?_⟩) ?_ ?_
 rotate_left
 ·intro w'
  go_simp
  with_reducible rfl
 rotate_left
 ·simp only [Act.put, sI_, s0_, s1_, i64_w, i32_w]
  rfl
 refine pure_ (i := 5) (N := some 12) (v := ?_) (a' := ?_) (m_ 14 37) rfl rfl (any_of HT_.out (by kernel_rfl)) (fun _ _ _ h => h) (Or.inl ⟨by rfl, ?_⟩) ?_ ?_
 rotate_left
 ·intro w'
  go_simp
  with_reducible rfl
 rotate_left
 ·simp only [Act.put, sI_, s0_, s1_, i64_w, i32_w]
  rfl
 refine pure_ (i := 7) (N := some 14) (v := ?_) (a' := ?_) (m_ 14 165) rfl rfl (any_of HT_.out (by kernel_rfl)) (fun _ _ _ h => h) (Or.inl ⟨by rfl, ?_⟩) ?_ ?_
 rotate_left
 ·intro w'
  go_simp
  with_reducible rfl
 rotate_left
 ·simp only [Act.put, sI_, s0_, s1_, i64_w, i32_w]
  rfl
 refine take_ (i := 1) (N := some 8) (v := ?_) (a' := ?_) (m_ 14 167) rfl rfl (take_ofW HT_.out HW_.out (by kernel_rfl)) (fun _ _ _ h => h) (Or.inl ⟨by rfl, ?_⟩) hHeld ?_ ?_
 rotate_left
 ·rintro w' ⟨s0, s1, s2, s3⟩
  go_simp
  with_reducible rfl
 rotate_left
 ·simp only [Act.put, sI_, s0_, s1_, i64_w, i32_w]
  rfl
 refine take_ (i := 3) (N := some 10) (v := ?_) (a' := ?_) (m_ 14 175) rfl rfl (take_ofW HT_.out HW_.out (by kernel_rfl)) (fun _ _ _ h => h) (Or.inl ⟨by rfl, ?_⟩) hHeld ?_ ?_
 rotate_left
 ·rintro w' ⟨s0, s1, s2, s3⟩
  go_simp
  with_reducible rfl
 rotate_left
 ·simp only [Act.put, sI_, s0_, s1_, i64_w, i32_w]
  rfl
 refine take_ (i := 6) (N := some 13) (v := ?_) (a' := ?_) (m_ 14 239) rfl rfl (take_ofW HT_.out HW_.out (by kernel_rfl)) (fun _ _ _ h => h) (Or.inl ⟨by rfl, ?_⟩) hHeld ?_ ?_
 rotate_left
 ·rintro w' ⟨s0, s1, s2, s3⟩
  go_simp
  with_reducible rfl
 rotate_left
 ·simp only [Act.put, sI_, s0_, s1_, i64_w, i32_w]
  rfl
 refine take_ (i := 8) (N := some 15) (v := ?_) (a' := ?_) (m_ 14 495) rfl rfl (take_ofW HT_.out HW_.out (by kernel_rfl)) (fun _ _ _ h => h) (Or.inl ⟨by rfl, ?_⟩) hHeld ?_ ?_
 rotate_left
 ·rintro w' ⟨s0, s1, s2, s3⟩
  go_simp
  with_reducible rfl
 rotate_left
 ·simp only [Act.put, sI_, s0_, s1_, i64_w, i32_w]
  rfl
 refine joinX8_ (σ := Nat × Nat) 2 (m_ 14 4095) (fun s_ => [(11, .agg #[.int .i64 t269, .int .i64 t270]), (16, .agg #[.int .i64 t271, .int .i64 t272]), (5, .pointer (some ⟨s_.1, 0, none⟩)), (6, .pointer (some ⟨s_.2, 0, none⟩))]) (fun s_ w' => (w'.cell? ⟨gb266, 0, none⟩ = some (.int .i64 a0_0) ∧ w'.cell? ⟨gb266, 1, none⟩ = some (.int .i64 a0_1) ∧ w'.cell? ⟨gb267, 0, none⟩ = some (.int .i64 a1_0) ∧ w'.cell? ⟨gb267, 1, none⟩ = some (.int .i64 a1_1)) ∧ (w'.heap[gb266]? = some (.cells #[.int .i64 a0_0, .int .i64 a0_1] 26 (0, 0))) ∧ (w'.heap[gb267]? = some (.cells #[.int .i64 a1_0, .int .i64 a1_1] 26 (0, 0))) ∧ (w'.heap[gb268]? = some (.cells #[.int .i64 0, .int .i64 0] 26 (0, 0))) ∧ (w'.heap[s_.1]? = some (.cells #[.int .i64 0, .int .i64 0] 26 (0, 0))) ∧ (w'.heap[s_.2]? = some (.cells #[.int .i64 0, .int .i64 0] 26 (0, 0))) ∧ (w.heap.size ≤ s_.1) ∧ (w.heap.size ≤ s_.1) ∧ (gb266 ≠ s_.1) ∧ (s_.1 ≠ gb266) ∧ (gb267 ≠ s_.1) ∧ (s_.1 ≠ gb267) ∧ (gb268 ≠ s_.1) ∧ (s_.1 ≠ gb268) ∧ (s_.2 ≠ s_.1) ∧ (s_.1 ≠ s_.2) ∧ (w.heap.size ≤ s_.2) ∧ (w.heap.size ≤ s_.2) ∧ (gb266 ≠ s_.2) ∧ (s_.2 ≠ gb266) ∧ (gb267 ≠ s_.2) ∧ (s_.2 ≠ gb267) ∧ (gb268 ≠ s_.2) ∧ (s_.2 ≠ gb268) ∧ (Below w.heap.size w w')) ?_ ?_
 intro hJ4_9_10_11
 refine joinX8_ (σ := Nat) 3 (m_ 14 2047) (fun s_ => [(11, .agg #[.int .i64 t269, .int .i64 t270]), (16, .agg #[.int .i64 t271, .int .i64 t272]), (5, .pointer (some ⟨s_, 0, none⟩))]) (fun s_ w' => (w'.cell? ⟨gb266, 0, none⟩ = some (.int .i64 a0_0) ∧ w'.cell? ⟨gb266, 1, none⟩ = some (.int .i64 a0_1) ∧ w'.cell? ⟨gb267, 0, none⟩ = some (.int .i64 a1_0) ∧ w'.cell? ⟨gb267, 1, none⟩ = some (.int .i64 a1_1)) ∧ (w'.heap[gb266]? = some (.cells #[.int .i64 a0_0, .int .i64 a0_1] 26 (0, 0))) ∧ (w'.heap[gb267]? = some (.cells #[.int .i64 a1_0, .int .i64 a1_1] 26 (0, 0))) ∧ (w'.heap[gb268]? = some (.cells #[.int .i64 0, .int .i64 0] 26 (0, 0))) ∧ (w'.heap[s_]? = some (.cells #[.int .i64 0, .int .i64 0] 26 (0, 0))) ∧ (w.heap.size ≤ s_) ∧ (w.heap.size ≤ s_) ∧ (gb266 ≠ s_) ∧ (s_ ≠ gb266) ∧ (gb267 ≠ s_) ∧ (s_ ≠ gb267) ∧ (gb268 ≠ s_) ∧ (s_ ≠ gb268) ∧ (Below w.heap.size w w')) ?_ ?_
 intro hJ4_9_10
 refine joinX8_ (σ := Nat) 3 (m_ 14 3071) (fun s_ => [(11, .agg #[.int .i64 t269, .int .i64 t270]), (16, .agg #[.int .i64 t271, .int .i64 t272]), (6, .pointer (some ⟨s_, 0, none⟩))]) (fun s_ w' => (w'.cell? ⟨gb266, 0, none⟩ = some (.int .i64 a0_0) ∧ w'.cell? ⟨gb266, 1, none⟩ = some (.int .i64 a0_1) ∧ w'.cell? ⟨gb267, 0, none⟩ = some (.int .i64 a1_0) ∧ w'.cell? ⟨gb267, 1, none⟩ = some (.int .i64 a1_1)) ∧ (w'.heap[gb266]? = some (.cells #[.int .i64 a0_0, .int .i64 a0_1] 26 (0, 0))) ∧ (w'.heap[gb267]? = some (.cells #[.int .i64 a1_0, .int .i64 a1_1] 26 (0, 0))) ∧ (w'.heap[gb268]? = some (.cells #[.int .i64 0, .int .i64 0] 26 (0, 0))) ∧ (w'.heap[s_]? = some (.cells #[.int .i64 0, .int .i64 0] 26 (0, 0))) ∧ (w.heap.size ≤ s_) ∧ (w.heap.size ≤ s_) ∧ (gb266 ≠ s_) ∧ (s_ ≠ gb266) ∧ (gb267 ≠ s_) ∧ (s_ ≠ gb267) ∧ (gb268 ≠ s_) ∧ (s_ ≠ gb268) ∧ (Below w.heap.size w w')) ?_ ?_
 intro hJ4_9_11
 refine joinX8_ (σ := Nat × Nat) 3 (m_ 14 3583) (fun s_ => [(11, .agg #[.int .i64 t269, .int .i64 t270]), (5, .pointer (some ⟨s_.1, 0, none⟩)), (6, .pointer (some ⟨s_.2, 0, none⟩))]) (fun s_ w' => (w'.cell? ⟨gb266, 0, none⟩ = some (.int .i64 a0_0) ∧ w'.cell? ⟨gb266, 1, none⟩ = some (.int .i64 a0_1) ∧ w'.cell? ⟨gb267, 0, none⟩ = some (.int .i64 a1_0) ∧ w'.cell? ⟨gb267, 1, none⟩ = some (.int .i64 a1_1)) ∧ (w'.heap[gb266]? = some (.cells #[.int .i64 a0_0, .int .i64 a0_1] 26 (0, 0))) ∧ (w'.heap[gb267]? = some (.cells #[.int .i64 a1_0, .int .i64 a1_1] 26 (0, 0))) ∧ (w'.heap[gb268]? = some (.cells #[.int .i64 0, .int .i64 0] 26 (0, 0))) ∧ (w'.heap[s_.1]? = some (.cells #[.int .i64 0, .int .i64 0] 26 (0, 0))) ∧ (w'.heap[s_.2]? = some (.cells #[.int .i64 0, .int .i64 0] 26 (0, 0))) ∧ (w.heap.size ≤ s_.1) ∧ (w.heap.size ≤ s_.1) ∧ (gb266 ≠ s_.1) ∧ (s_.1 ≠ gb266) ∧ (gb267 ≠ s_.1) ∧ (s_.1 ≠ gb267) ∧ (gb268 ≠ s_.1) ∧ (s_.1 ≠ gb268) ∧ (s_.2 ≠ s_.1) ∧ (s_.1 ≠ s_.2) ∧ (w.heap.size ≤ s_.2) ∧ (w.heap.size ≤ s_.2) ∧ (gb266 ≠ s_.2) ∧ (s_.2 ≠ gb266) ∧ (gb267 ≠ s_.2) ∧ (s_.2 ≠ gb267) ∧ (gb268 ≠ s_.2) ∧ (s_.2 ≠ gb268) ∧ (Below w.heap.size w w')) ?_ ?_
 intro hJ4_10_11
 refine joinX8_ (σ := Unit) 4 (m_ 14 1023) (fun s_ => [(11, .agg #[.int .i64 t269, .int .i64 t270]), (16, .agg #[.int .i64 t271, .int .i64 t272])]) (fun s_ w' => (w'.cell? ⟨gb266, 0, none⟩ = some (.int .i64 a0_0) ∧ w'.cell? ⟨gb266, 1, none⟩ = some (.int .i64 a0_1) ∧ w'.cell? ⟨gb267, 0, none⟩ = some (.int .i64 a1_0) ∧ w'.cell? ⟨gb267, 1, none⟩ = some (.int .i64 a1_1)) ∧ (w'.heap[gb266]? = some (.cells #[.int .i64 a0_0, .int .i64 a0_1] 26 (0, 0))) ∧ (w'.heap[gb267]? = some (.cells #[.int .i64 a1_0, .int .i64 a1_1] 26 (0, 0))) ∧ (w'.heap[gb268]? = some (.cells #[.int .i64 0, .int .i64 0] 26 (0, 0))) ∧ (Below w.heap.size w w')) ?_ ?_
 intro hJ4_9
 refine joinX8_ (σ := Nat) 4 (m_ 14 1535) (fun s_ => [(11, .agg #[.int .i64 t269, .int .i64 t270]), (5, .pointer (some ⟨s_, 0, none⟩))]) (fun s_ w' => (w'.cell? ⟨gb266, 0, none⟩ = some (.int .i64 a0_0) ∧ w'.cell? ⟨gb266, 1, none⟩ = some (.int .i64 a0_1) ∧ w'.cell? ⟨gb267, 0, none⟩ = some (.int .i64 a1_0) ∧ w'.cell? ⟨gb267, 1, none⟩ = some (.int .i64 a1_1)) ∧ (w'.heap[gb266]? = some (.cells #[.int .i64 a0_0, .int .i64 a0_1] 26 (0, 0))) ∧ (w'.heap[gb267]? = some (.cells #[.int .i64 a1_0, .int .i64 a1_1] 26 (0, 0))) ∧ (w'.heap[gb268]? = some (.cells #[.int .i64 0, .int .i64 0] 26 (0, 0))) ∧ (w'.heap[s_]? = some (.cells #[.int .i64 0, .int .i64 0] 26 (0, 0))) ∧ (w.heap.size ≤ s_) ∧ (w.heap.size ≤ s_) ∧ (gb266 ≠ s_) ∧ (s_ ≠ gb266) ∧ (gb267 ≠ s_) ∧ (s_ ≠ gb267) ∧ (gb268 ≠ s_) ∧ (s_ ≠ gb268) ∧ (Below w.heap.size w w')) ?_ ?_
 intro hJ4_10
 refine joinX8_ (σ := Nat) 4 (m_ 14 2559) (fun s_ => [(11, .agg #[.int .i64 t269, .int .i64 t270]), (6, .pointer (some ⟨s_, 0, none⟩))]) (fun s_ w' => (w'.cell? ⟨gb266, 0, none⟩ = some (.int .i64 a0_0) ∧ w'.cell? ⟨gb266, 1, none⟩ = some (.int .i64 a0_1) ∧ w'.cell? ⟨gb267, 0, none⟩ = some (.int .i64 a1_0) ∧ w'.cell? ⟨gb267, 1, none⟩ = some (.int .i64 a1_1)) ∧ (w'.heap[gb266]? = some (.cells #[.int .i64 a0_0, .int .i64 a0_1] 26 (0, 0))) ∧ (w'.heap[gb267]? = some (.cells #[.int .i64 a1_0, .int .i64 a1_1] 26 (0, 0))) ∧ (w'.heap[gb268]? = some (.cells #[.int .i64 0, .int .i64 0] 26 (0, 0))) ∧ (w'.heap[s_]? = some (.cells #[.int .i64 0, .int .i64 0] 26 (0, 0))) ∧ (w.heap.size ≤ s_) ∧ (w.heap.size ≤ s_) ∧ (gb266 ≠ s_) ∧ (s_ ≠ gb266) ∧ (gb267 ≠ s_) ∧ (s_ ≠ gb267) ∧ (gb268 ≠ s_) ∧ (s_ ≠ gb268) ∧ (Below w.heap.size w w')) ?_ ?_
 intro hJ4_11
 refine joinX8_ (σ := Nat × Nat) 4 (m_ 14 3567) (fun s_ => [(5, .pointer (some ⟨s_.1, 0, none⟩)), (6, .pointer (some ⟨s_.2, 0, none⟩))]) (fun s_ w' => (w'.cell? ⟨gb266, 0, none⟩ = some (.int .i64 a0_0) ∧ w'.cell? ⟨gb266, 1, none⟩ = some (.int .i64 a0_1) ∧ w'.cell? ⟨gb267, 0, none⟩ = some (.int .i64 a1_0) ∧ w'.cell? ⟨gb267, 1, none⟩ = some (.int .i64 a1_1)) ∧ (w'.heap[gb266]? = some (.cells #[.int .i64 a0_0, .int .i64 a0_1] 26 (0, 0))) ∧ (w'.heap[gb267]? = some (.cells #[.int .i64 a1_0, .int .i64 a1_1] 26 (0, 0))) ∧ (w'.heap[gb268]? = some (.cells #[.int .i64 0, .int .i64 0] 26 (0, 0))) ∧ (w'.heap[s_.1]? = some (.cells #[.int .i64 0, .int .i64 0] 26 (0, 0))) ∧ (w'.heap[s_.2]? = some (.cells #[.int .i64 0, .int .i64 0] 26 (0, 0))) ∧ (w.heap.size ≤ s_.1) ∧ (w.heap.size ≤ s_.1) ∧ (gb266 ≠ s_.1) ∧ (s_.1 ≠ gb266) ∧ (gb267 ≠ s_.1) ∧ (s_.1 ≠ gb267) ∧ (gb268 ≠ s_.1) ∧ (s_.1 ≠ gb268) ∧ (s_.2 ≠ s_.1) ∧ (s_.1 ≠ s_.2) ∧ (w.heap.size ≤ s_.2) ∧ (w.heap.size ≤ s_.2) ∧ (gb266 ≠ s_.2) ∧ (s_.2 ≠ gb266) ∧ (gb267 ≠ s_.2) ∧ (s_.2 ≠ gb267) ∧ (gb268 ≠ s_.2) ∧ (s_.2 ≠ gb268) ∧ (Below w.heap.size w w')) ?_ ?_
 intro hJ10_11
 refine joinX8_ (σ := Unit) 5 (m_ 14 511) (fun s_ => [(11, .agg #[.int .i64 t269, .int .i64 t270])]) (fun s_ w' => (w'.cell? ⟨gb266, 0, none⟩ = some (.int .i64 a0_0) ∧ w'.cell? ⟨gb266, 1, none⟩ = some (.int .i64 a0_1) ∧ w'.cell? ⟨gb267, 0, none⟩ = some (.int .i64 a1_0) ∧ w'.cell? ⟨gb267, 1, none⟩ = some (.int .i64 a1_1)) ∧ (w'.heap[gb266]? = some (.cells #[.int .i64 a0_0, .int .i64 a0_1] 26 (0, 0))) ∧ (w'.heap[gb267]? = some (.cells #[.int .i64 a1_0, .int .i64 a1_1] 26 (0, 0))) ∧ (w'.heap[gb268]? = some (.cells #[.int .i64 0, .int .i64 0] 26 (0, 0))) ∧ (Below w.heap.size w w')) ?_ ?_
 intro hJ4
 refine joinX8_ (σ := Nat) 5 (m_ 14 1519) (fun s_ => [(5, .pointer (some ⟨s_, 0, none⟩))]) (fun s_ w' => (w'.cell? ⟨gb266, 0, none⟩ = some (.int .i64 a0_0) ∧ w'.cell? ⟨gb266, 1, none⟩ = some (.int .i64 a0_1) ∧ w'.cell? ⟨gb267, 0, none⟩ = some (.int .i64 a1_0) ∧ w'.cell? ⟨gb267, 1, none⟩ = some (.int .i64 a1_1)) ∧ (w'.heap[gb266]? = some (.cells #[.int .i64 a0_0, .int .i64 a0_1] 26 (0, 0))) ∧ (w'.heap[gb267]? = some (.cells #[.int .i64 a1_0, .int .i64 a1_1] 26 (0, 0))) ∧ (w'.heap[gb268]? = some (.cells #[.int .i64 0, .int .i64 0] 26 (0, 0))) ∧ (w'.heap[s_]? = some (.cells #[.int .i64 0, .int .i64 0] 26 (0, 0))) ∧ (w.heap.size ≤ s_) ∧ (w.heap.size ≤ s_) ∧ (gb266 ≠ s_) ∧ (s_ ≠ gb266) ∧ (gb267 ≠ s_) ∧ (s_ ≠ gb267) ∧ (gb268 ≠ s_) ∧ (s_ ≠ gb268) ∧ (Below w.heap.size w w')) ?_ ?_
 intro hJ10
 refine joinX8_ (σ := Nat) 5 (m_ 14 2543) (fun s_ => [(6, .pointer (some ⟨s_, 0, none⟩))]) (fun s_ w' => (w'.cell? ⟨gb266, 0, none⟩ = some (.int .i64 a0_0) ∧ w'.cell? ⟨gb266, 1, none⟩ = some (.int .i64 a0_1) ∧ w'.cell? ⟨gb267, 0, none⟩ = some (.int .i64 a1_0) ∧ w'.cell? ⟨gb267, 1, none⟩ = some (.int .i64 a1_1)) ∧ (w'.heap[gb266]? = some (.cells #[.int .i64 a0_0, .int .i64 a0_1] 26 (0, 0))) ∧ (w'.heap[gb267]? = some (.cells #[.int .i64 a1_0, .int .i64 a1_1] 26 (0, 0))) ∧ (w'.heap[gb268]? = some (.cells #[.int .i64 0, .int .i64 0] 26 (0, 0))) ∧ (w'.heap[s_]? = some (.cells #[.int .i64 0, .int .i64 0] 26 (0, 0))) ∧ (w.heap.size ≤ s_) ∧ (w.heap.size ≤ s_) ∧ (gb266 ≠ s_) ∧ (s_ ≠ gb266) ∧ (gb267 ≠ s_) ∧ (s_ ≠ gb267) ∧ (gb268 ≠ s_) ∧ (s_ ≠ gb268) ∧ (Below w.heap.size w w')) ?_ ?_
 intro hJ11
 refine three_ (i := 4) (j := 10) (k := 11) (Ni := some 11) (Nj := some 5) (Nk := some 6) (m_ 14 511) (m_ 14 1519) (m_ 14 2543) rfl rfl rfl rfl rfl rfl (three_of HT_.out (by kernel_rfl)) (by decide) (by decide) (by decide) (fun K hK => ?_) (fun K hK => ?_) (fun K hK => ?_)
 ·refine goes_ Tryd.func69 (by kernel_rfl) rfl #[.int .i64 a0_0, .int .i64 a1_1] (by rfl) rfl rfl (by (try simp only [List.map_toArray, List.map_cons, List.map_nil]); (rfl)) ?_
  with_reducible refine (spec_l2Cut.calls k a0_0 a1_1 t269 t270 _ A3.out).mono ?_
  rintro e w9 ⟨rfl, hb⟩
  refine ⟨_, rfl, ?_⟩
  replace BK266 := A_.mk (blk_below BK266.out hb)
  replace BK267 := A_.mk (blk_below BK267.out hb)
  replace BK268 := A_.mk (blk_below BK268.out hb)
  replace HB := A_.mk (below_step HB.out hb)
  (try clear hb)
  skip
  skip
  skip
  refine hK.out _ _ ⟨(blk_cell BK266.out 0).trans rfl, (blk_cell BK266.out 1).trans rfl, (blk_cell BK267.out 0).trans rfl, (blk_cell BK267.out 1).trans rfl⟩ (fun hHeld => ?_)
  clear hK K
  exact norm_ (by simp only [putAll, Act.put, sI_, s0_, s1_]; try rfl) (hJ4 () _ ⟨hHeld, BK266.out, BK267.out, BK268.out, HB.out⟩)
 ·refine box_step ?hg (N := 5) ?hd (cs := #[.int .i64 0, .int .i64 0]) (t := 26) ?hr ?_; (case hd => rfl); (case hg => rfl); (case hr => (go_simp; done))
  intro gb273 hg w9 hbox hb
  have BK273 := A_.mk (hbox)
  have GW273 := A_.mk ((by rw [hg]; exact (below_size HB.out) : w.heap.size ≤ gb273))
  have GE273 := A_.mk ((by rw [hg]; exact (below_size HB.out) : w.heap.size ≤ gb273))
  replace HB := A_.mk (below_step HB.out hb)
  have NB266_273 := A_.mk ((by rw [hg]; exact Nat.ne_of_lt (blk_lt BK266.out) : gb266 ≠ gb273))
  have NB273_266 := A_.mk ((by rw [hg]; exact Nat.ne_of_gt (blk_lt BK266.out) : gb273 ≠ gb266))
  replace BK266 := A_.mk (blk_below BK266.out hb)
  have NB267_273 := A_.mk ((by rw [hg]; exact Nat.ne_of_lt (blk_lt BK267.out) : gb267 ≠ gb273))
  have NB273_267 := A_.mk ((by rw [hg]; exact Nat.ne_of_gt (blk_lt BK267.out) : gb273 ≠ gb267))
  replace BK267 := A_.mk (blk_below BK267.out hb)
  have NB268_273 := A_.mk ((by rw [hg]; exact Nat.ne_of_lt (blk_lt BK268.out) : gb268 ≠ gb273))
  have NB273_268 := A_.mk ((by rw [hg]; exact Nat.ne_of_gt (blk_lt BK268.out) : gb273 ≠ gb268))
  replace BK268 := A_.mk (blk_below BK268.out hb)
  clear hb hbox hg
  refine hK.out _ _ ⟨(blk_cell BK266.out 0).trans rfl, (blk_cell BK266.out 1).trans rfl, (blk_cell BK267.out 0).trans rfl, (blk_cell BK267.out 1).trans rfl⟩ (fun hHeld => ?_)
  clear hK K
  exact norm_ (by simp only [putAll, Act.put, sI_, s0_, s1_]; try rfl) (hJ10 (gb273) _ ⟨hHeld, BK266.out, BK267.out, BK268.out, BK273.out, GW273.out, GE273.out, NB266_273.out, NB273_266.out, NB267_273.out, NB273_267.out, NB268_273.out, NB273_268.out, HB.out⟩)
 ·refine box_step ?hg (N := 6) ?hd (cs := #[.int .i64 0, .int .i64 0]) (t := 26) ?hr ?_; (case hd => rfl); (case hg => rfl); (case hr => (go_simp; done))
  intro gb274 hg w9 hbox hb
  have BK274 := A_.mk (hbox)
  have GW274 := A_.mk ((by rw [hg]; exact (below_size HB.out) : w.heap.size ≤ gb274))
  have GE274 := A_.mk ((by rw [hg]; exact (below_size HB.out) : w.heap.size ≤ gb274))
  replace HB := A_.mk (below_step HB.out hb)
  have NB266_274 := A_.mk ((by rw [hg]; exact Nat.ne_of_lt (blk_lt BK266.out) : gb266 ≠ gb274))
  have NB274_266 := A_.mk ((by rw [hg]; exact Nat.ne_of_gt (blk_lt BK266.out) : gb274 ≠ gb266))
  replace BK266 := A_.mk (blk_below BK266.out hb)
  have NB267_274 := A_.mk ((by rw [hg]; exact Nat.ne_of_lt (blk_lt BK267.out) : gb267 ≠ gb274))
  have NB274_267 := A_.mk ((by rw [hg]; exact Nat.ne_of_gt (blk_lt BK267.out) : gb274 ≠ gb267))
  replace BK267 := A_.mk (blk_below BK267.out hb)
  have NB268_274 := A_.mk ((by rw [hg]; exact Nat.ne_of_lt (blk_lt BK268.out) : gb268 ≠ gb274))
  have NB274_268 := A_.mk ((by rw [hg]; exact Nat.ne_of_gt (blk_lt BK268.out) : gb274 ≠ gb268))
  replace BK268 := A_.mk (blk_below BK268.out hb)
  clear hb hbox hg
  refine hK.out _ _ ⟨(blk_cell BK266.out 0).trans rfl, (blk_cell BK266.out 1).trans rfl, (blk_cell BK267.out 0).trans rfl, (blk_cell BK267.out 1).trans rfl⟩ (fun hHeld => ?_)
  clear hK K
  exact norm_ (by simp only [putAll, Act.put, sI_, s0_, s1_]; try rfl) (hJ11 (gb274) _ ⟨hHeld, BK266.out, BK267.out, BK268.out, BK274.out, GW274.out, GE274.out, NB266_274.out, NB274_266.out, NB267_274.out, NB274_267.out, NB268_274.out, NB274_268.out, HB.out⟩)
 ·rintro gb274 w10 ⟨hS_, h0_, h1_, h2_, h3_, h4_, h5_, h6_, h7_, h8_, h9_, h10_, h11_, h12_⟩
  have n0_ : A_ (w10.heap[gb266]? = some (.cells #[.int .i64 a0_0, .int .i64 a0_1] 26 (0, 0))) := ⟨h0_⟩
  have n1_ : A_ (w10.heap[gb267]? = some (.cells #[.int .i64 a1_0, .int .i64 a1_1] 26 (0, 0))) := ⟨h1_⟩
  have n2_ : A_ (w10.heap[gb268]? = some (.cells #[.int .i64 0, .int .i64 0] 26 (0, 0))) := ⟨h2_⟩
  have n3_ : A_ (w10.heap[gb274]? = some (.cells #[.int .i64 0, .int .i64 0] 26 (0, 0))) := ⟨h3_⟩
  have n4_ : A_ (w.heap.size ≤ gb274) := ⟨h4_⟩
  have n5_ : A_ (w.heap.size ≤ gb274) := ⟨h5_⟩
  have n6_ : A_ (gb266 ≠ gb274) := ⟨h6_⟩
  have n7_ : A_ (gb274 ≠ gb266) := ⟨h7_⟩
  have n8_ : A_ (gb267 ≠ gb274) := ⟨h8_⟩
  have n9_ : A_ (gb274 ≠ gb267) := ⟨h9_⟩
  have n10_ : A_ (gb268 ≠ gb274) := ⟨h10_⟩
  have n11_ : A_ (gb274 ≠ gb268) := ⟨h11_⟩
  have n12_ : A_ (Below w.heap.size w w10) := ⟨h12_⟩
  clear BK266
  clear BK267
  clear BK268
  clear HB
  clear h0_ h1_ h2_ h3_ h4_ h5_ h6_ h7_ h8_ h9_ h10_ h11_ h12_
  have BK266 := n0_
  have BK267 := n1_
  have BK268 := n2_
  have BK274 := n3_
  have GW274 := n4_
  have GE274 := n5_
  have NB266_274 := n6_
  have NB274_266 := n7_
  have NB267_274 := n8_
  have NB274_267 := n9_
  have NB268_274 := n10_
  have NB274_268 := n11_
  have HB := n12_
  clear n0_ n1_ n2_ n3_ n4_ n5_ n6_ n7_ n8_ n9_ n10_ n11_ n12_
  have hHeld : w10.cell? ⟨gb266, 0, none⟩ = some (.int .i64 a0_0) ∧ w10.cell? ⟨gb266, 1, none⟩ = some (.int .i64 a0_1) ∧ w10.cell? ⟨gb267, 0, none⟩ = some (.int .i64 a1_0) ∧ w10.cell? ⟨gb267, 1, none⟩ = some (.int .i64 a1_1) := hS_
  refine norm_ (a' := ?_) ?_ ?_
  rotate_left
  ·simp only [putAll, Act.put, sI_, s0_, s1_]
   rfl
  refine two_ (i := 4) (j := 10) (Ni := some 11) (Nj := some 5) (m_ 14 2559) (m_ 14 3567) rfl rfl rfl rfl (two_of HT_.out (by kernel_rfl)) (by decide) (by decide) (fun K hK => ?_) (fun K hK => ?_)
  ·refine goes_ Tryd.func69 (by kernel_rfl) rfl #[.int .i64 a0_0, .int .i64 a1_1] (by rfl) rfl rfl (by (try simp only [List.map_toArray, List.map_cons, List.map_nil]); (rfl)) ?_
   with_reducible refine (spec_l2Cut.calls k a0_0 a1_1 t269 t270 _ A3.out).mono ?_
   rintro e w11 ⟨rfl, hb⟩
   refine ⟨_, rfl, ?_⟩
   replace BK266 := A_.mk (blk_below BK266.out hb)
   replace BK267 := A_.mk (blk_below BK267.out hb)
   replace BK268 := A_.mk (blk_below BK268.out hb)
   replace BK274 := A_.mk (blk_below BK274.out hb)
   replace HB := A_.mk (below_step HB.out hb)
   (try clear hb)
   skip
   skip
   skip
   refine hK.out _ _ ⟨(blk_cell BK266.out 0).trans rfl, (blk_cell BK266.out 1).trans rfl, (blk_cell BK267.out 0).trans rfl, (blk_cell BK267.out 1).trans rfl⟩ (fun hHeld => ?_)
   clear hK K
   exact norm_ (by simp only [putAll, Act.put, sI_, s0_, s1_]; try rfl) (hJ4_11 (gb274) _ ⟨hHeld, BK266.out, BK267.out, BK268.out, BK274.out, GW274.out, GE274.out, NB266_274.out, NB274_266.out, NB267_274.out, NB274_267.out, NB268_274.out, NB274_268.out, HB.out⟩)
  ·refine box_step ?hg (N := 5) ?hd (cs := #[.int .i64 0, .int .i64 0]) (t := 26) ?hr ?_; (case hd => rfl); (case hg => rfl); (case hr => (go_simp; done))
   intro gb273 hg w11 hbox hb
   have BK273 := A_.mk (hbox)
   have GW273 := A_.mk ((by rw [hg]; exact (below_size HB.out) : w.heap.size ≤ gb273))
   have GE273 := A_.mk ((by rw [hg]; exact (below_size HB.out) : w.heap.size ≤ gb273))
   replace HB := A_.mk (below_step HB.out hb)
   have NB266_273 := A_.mk ((by rw [hg]; exact Nat.ne_of_lt (blk_lt BK266.out) : gb266 ≠ gb273))
   have NB273_266 := A_.mk ((by rw [hg]; exact Nat.ne_of_gt (blk_lt BK266.out) : gb273 ≠ gb266))
   replace BK266 := A_.mk (blk_below BK266.out hb)
   have NB267_273 := A_.mk ((by rw [hg]; exact Nat.ne_of_lt (blk_lt BK267.out) : gb267 ≠ gb273))
   have NB273_267 := A_.mk ((by rw [hg]; exact Nat.ne_of_gt (blk_lt BK267.out) : gb273 ≠ gb267))
   replace BK267 := A_.mk (blk_below BK267.out hb)
   have NB268_273 := A_.mk ((by rw [hg]; exact Nat.ne_of_lt (blk_lt BK268.out) : gb268 ≠ gb273))
   have NB273_268 := A_.mk ((by rw [hg]; exact Nat.ne_of_gt (blk_lt BK268.out) : gb273 ≠ gb268))
   replace BK268 := A_.mk (blk_below BK268.out hb)
   have NB274_273 := A_.mk ((by rw [hg]; exact Nat.ne_of_lt (blk_lt BK274.out) : gb274 ≠ gb273))
   have NB273_274 := A_.mk ((by rw [hg]; exact Nat.ne_of_gt (blk_lt BK274.out) : gb273 ≠ gb274))
   replace BK274 := A_.mk (blk_below BK274.out hb)
   clear hb hbox hg
   refine hK.out _ _ ⟨(blk_cell BK266.out 0).trans rfl, (blk_cell BK266.out 1).trans rfl, (blk_cell BK267.out 0).trans rfl, (blk_cell BK267.out 1).trans rfl⟩ (fun hHeld => ?_)
   clear hK K
   exact norm_ (by simp only [putAll, Act.put, sI_, s0_, s1_]; try rfl) (hJ10_11 (gb273, gb274) _ ⟨hHeld, BK266.out, BK267.out, BK268.out, BK273.out, BK274.out, GW273.out, GE273.out, NB266_273.out, NB273_266.out, NB267_273.out, NB273_267.out, NB268_273.out, NB273_268.out, NB274_273.out, NB273_274.out, GW274.out, GE274.out, NB266_274.out, NB274_266.out, NB267_274.out, NB274_267.out, NB268_274.out, NB274_268.out, HB.out⟩)
 ·rintro gb273 w10 ⟨hS_, h0_, h1_, h2_, h3_, h4_, h5_, h6_, h7_, h8_, h9_, h10_, h11_, h12_⟩
  have n0_ : A_ (w10.heap[gb266]? = some (.cells #[.int .i64 a0_0, .int .i64 a0_1] 26 (0, 0))) := ⟨h0_⟩
  have n1_ : A_ (w10.heap[gb267]? = some (.cells #[.int .i64 a1_0, .int .i64 a1_1] 26 (0, 0))) := ⟨h1_⟩
  have n2_ : A_ (w10.heap[gb268]? = some (.cells #[.int .i64 0, .int .i64 0] 26 (0, 0))) := ⟨h2_⟩
  have n3_ : A_ (w10.heap[gb273]? = some (.cells #[.int .i64 0, .int .i64 0] 26 (0, 0))) := ⟨h3_⟩
  have n4_ : A_ (w.heap.size ≤ gb273) := ⟨h4_⟩
  have n5_ : A_ (w.heap.size ≤ gb273) := ⟨h5_⟩
  have n6_ : A_ (gb266 ≠ gb273) := ⟨h6_⟩
  have n7_ : A_ (gb273 ≠ gb266) := ⟨h7_⟩
  have n8_ : A_ (gb267 ≠ gb273) := ⟨h8_⟩
  have n9_ : A_ (gb273 ≠ gb267) := ⟨h9_⟩
  have n10_ : A_ (gb268 ≠ gb273) := ⟨h10_⟩
  have n11_ : A_ (gb273 ≠ gb268) := ⟨h11_⟩
  have n12_ : A_ (Below w.heap.size w w10) := ⟨h12_⟩
  clear BK266
  clear BK267
  clear BK268
  clear HB
  clear h0_ h1_ h2_ h3_ h4_ h5_ h6_ h7_ h8_ h9_ h10_ h11_ h12_
  have BK266 := n0_
  have BK267 := n1_
  have BK268 := n2_
  have BK273 := n3_
  have GW273 := n4_
  have GE273 := n5_
  have NB266_273 := n6_
  have NB273_266 := n7_
  have NB267_273 := n8_
  have NB273_267 := n9_
  have NB268_273 := n10_
  have NB273_268 := n11_
  have HB := n12_
  clear n0_ n1_ n2_ n3_ n4_ n5_ n6_ n7_ n8_ n9_ n10_ n11_ n12_
  have hHeld : w10.cell? ⟨gb266, 0, none⟩ = some (.int .i64 a0_0) ∧ w10.cell? ⟨gb266, 1, none⟩ = some (.int .i64 a0_1) ∧ w10.cell? ⟨gb267, 0, none⟩ = some (.int .i64 a1_0) ∧ w10.cell? ⟨gb267, 1, none⟩ = some (.int .i64 a1_1) := hS_
  refine norm_ (a' := ?_) ?_ ?_
  rotate_left
  ·simp only [putAll, Act.put, sI_, s0_, s1_]
   rfl
  refine two_ (i := 4) (j := 11) (Ni := some 11) (Nj := some 6) (m_ 14 1535) (m_ 14 3567) rfl rfl rfl rfl (two_of HT_.out (by kernel_rfl)) (by decide) (by decide) (fun K hK => ?_) (fun K hK => ?_)
  ·refine goes_ Tryd.func69 (by kernel_rfl) rfl #[.int .i64 a0_0, .int .i64 a1_1] (by rfl) rfl rfl (by (try simp only [List.map_toArray, List.map_cons, List.map_nil]); (rfl)) ?_
   with_reducible refine (spec_l2Cut.calls k a0_0 a1_1 t269 t270 _ A3.out).mono ?_
   rintro e w11 ⟨rfl, hb⟩
   refine ⟨_, rfl, ?_⟩
   replace BK266 := A_.mk (blk_below BK266.out hb)
   replace BK267 := A_.mk (blk_below BK267.out hb)
   replace BK268 := A_.mk (blk_below BK268.out hb)
   replace BK273 := A_.mk (blk_below BK273.out hb)
   replace HB := A_.mk (below_step HB.out hb)
   (try clear hb)
   skip
   skip
   skip
   refine hK.out _ _ ⟨(blk_cell BK266.out 0).trans rfl, (blk_cell BK266.out 1).trans rfl, (blk_cell BK267.out 0).trans rfl, (blk_cell BK267.out 1).trans rfl⟩ (fun hHeld => ?_)
   clear hK K
   exact norm_ (by simp only [putAll, Act.put, sI_, s0_, s1_]; try rfl) (hJ4_10 (gb273) _ ⟨hHeld, BK266.out, BK267.out, BK268.out, BK273.out, GW273.out, GE273.out, NB266_273.out, NB273_266.out, NB267_273.out, NB273_267.out, NB268_273.out, NB273_268.out, HB.out⟩)
  ·refine box_step ?hg (N := 6) ?hd (cs := #[.int .i64 0, .int .i64 0]) (t := 26) ?hr ?_; (case hd => rfl); (case hg => rfl); (case hr => (go_simp; done))
   intro gb274 hg w11 hbox hb
   have BK274 := A_.mk (hbox)
   have GW274 := A_.mk ((by rw [hg]; exact (below_size HB.out) : w.heap.size ≤ gb274))
   have GE274 := A_.mk ((by rw [hg]; exact (below_size HB.out) : w.heap.size ≤ gb274))
   replace HB := A_.mk (below_step HB.out hb)
   have NB266_274 := A_.mk ((by rw [hg]; exact Nat.ne_of_lt (blk_lt BK266.out) : gb266 ≠ gb274))
   have NB274_266 := A_.mk ((by rw [hg]; exact Nat.ne_of_gt (blk_lt BK266.out) : gb274 ≠ gb266))
   replace BK266 := A_.mk (blk_below BK266.out hb)
   have NB267_274 := A_.mk ((by rw [hg]; exact Nat.ne_of_lt (blk_lt BK267.out) : gb267 ≠ gb274))
   have NB274_267 := A_.mk ((by rw [hg]; exact Nat.ne_of_gt (blk_lt BK267.out) : gb274 ≠ gb267))
   replace BK267 := A_.mk (blk_below BK267.out hb)
   have NB268_274 := A_.mk ((by rw [hg]; exact Nat.ne_of_lt (blk_lt BK268.out) : gb268 ≠ gb274))
   have NB274_268 := A_.mk ((by rw [hg]; exact Nat.ne_of_gt (blk_lt BK268.out) : gb274 ≠ gb268))
   replace BK268 := A_.mk (blk_below BK268.out hb)
   have NB273_274 := A_.mk ((by rw [hg]; exact Nat.ne_of_lt (blk_lt BK273.out) : gb273 ≠ gb274))
   have NB274_273 := A_.mk ((by rw [hg]; exact Nat.ne_of_gt (blk_lt BK273.out) : gb274 ≠ gb273))
   replace BK273 := A_.mk (blk_below BK273.out hb)
   clear hb hbox hg
   refine hK.out _ _ ⟨(blk_cell BK266.out 0).trans rfl, (blk_cell BK266.out 1).trans rfl, (blk_cell BK267.out 0).trans rfl, (blk_cell BK267.out 1).trans rfl⟩ (fun hHeld => ?_)
   clear hK K
   exact norm_ (by simp only [putAll, Act.put, sI_, s0_, s1_]; try rfl) (hJ10_11 (gb273, gb274) _ ⟨hHeld, BK266.out, BK267.out, BK268.out, BK273.out, BK274.out, GW273.out, GE273.out, NB266_273.out, NB273_266.out, NB267_273.out, NB273_267.out, NB268_273.out, NB273_268.out, NB274_273.out, NB273_274.out, GW274.out, GE274.out, NB266_274.out, NB274_266.out, NB267_274.out, NB274_267.out, NB268_274.out, NB274_268.out, HB.out⟩)
 ·rintro _ w10 ⟨hS_, h0_, h1_, h2_, h3_⟩
  have n0_ : A_ (w10.heap[gb266]? = some (.cells #[.int .i64 a0_0, .int .i64 a0_1] 26 (0, 0))) := ⟨h0_⟩
  have n1_ : A_ (w10.heap[gb267]? = some (.cells #[.int .i64 a1_0, .int .i64 a1_1] 26 (0, 0))) := ⟨h1_⟩
  have n2_ : A_ (w10.heap[gb268]? = some (.cells #[.int .i64 0, .int .i64 0] 26 (0, 0))) := ⟨h2_⟩
  have n3_ : A_ (Below w.heap.size w w10) := ⟨h3_⟩
  clear BK266
  clear BK267
  clear BK268
  clear HB
  clear h0_ h1_ h2_ h3_
  have BK266 := n0_
  have BK267 := n1_
  have BK268 := n2_
  have HB := n3_
  clear n0_ n1_ n2_ n3_
  have hHeld : w10.cell? ⟨gb266, 0, none⟩ = some (.int .i64 a0_0) ∧ w10.cell? ⟨gb266, 1, none⟩ = some (.int .i64 a0_1) ∧ w10.cell? ⟨gb267, 0, none⟩ = some (.int .i64 a1_0) ∧ w10.cell? ⟨gb267, 1, none⟩ = some (.int .i64 a1_1) := hS_
  refine norm_ (a' := ?_) ?_ ?_
  rotate_left
  ·simp only [putAll, Act.put, sI_, s0_, s1_]
   rfl
  refine three_ (i := 9) (j := 10) (k := 11) (Ni := some 16) (Nj := some 5) (Nk := some 6) (m_ 14 1023) (m_ 14 1535) (m_ 14 2559) rfl rfl rfl rfl rfl rfl (three_of HT_.out (by kernel_rfl)) (by decide) (by decide) (by decide) (fun K hK => ?_) (fun K hK => ?_) (fun K hK => ?_)
  ·refine goes_ Tryd.func69 (by kernel_rfl) rfl #[.int .i64 a1_0, .int .i64 a0_1] (by rfl) rfl rfl (by (try simp only [List.map_toArray, List.map_cons, List.map_nil]); (rfl)) ?_
   with_reducible refine (spec_l2Cut.calls k a1_0 a0_1 t271 t272 _ A4.out).mono ?_
   rintro e w11 ⟨rfl, hb⟩
   refine ⟨_, rfl, ?_⟩
   replace BK266 := A_.mk (blk_below BK266.out hb)
   replace BK267 := A_.mk (blk_below BK267.out hb)
   replace BK268 := A_.mk (blk_below BK268.out hb)
   replace HB := A_.mk (below_step HB.out hb)
   (try clear hb)
   skip
   skip
   skip
   refine hK.out _ _ ⟨(blk_cell BK266.out 0).trans rfl, (blk_cell BK266.out 1).trans rfl, (blk_cell BK267.out 0).trans rfl, (blk_cell BK267.out 1).trans rfl⟩ (fun hHeld => ?_)
   clear hK K
   exact norm_ (by simp only [putAll, Act.put, sI_, s0_, s1_]; try rfl) (hJ4_9 () _ ⟨hHeld, BK266.out, BK267.out, BK268.out, HB.out⟩)
  ·refine box_step ?hg (N := 5) ?hd (cs := #[.int .i64 0, .int .i64 0]) (t := 26) ?hr ?_; (case hd => rfl); (case hg => rfl); (case hr => (go_simp; done))
   intro gb273 hg w11 hbox hb
   have BK273 := A_.mk (hbox)
   have GW273 := A_.mk ((by rw [hg]; exact (below_size HB.out) : w.heap.size ≤ gb273))
   have GE273 := A_.mk ((by rw [hg]; exact (below_size HB.out) : w.heap.size ≤ gb273))
   replace HB := A_.mk (below_step HB.out hb)
   have NB266_273 := A_.mk ((by rw [hg]; exact Nat.ne_of_lt (blk_lt BK266.out) : gb266 ≠ gb273))
   have NB273_266 := A_.mk ((by rw [hg]; exact Nat.ne_of_gt (blk_lt BK266.out) : gb273 ≠ gb266))
   replace BK266 := A_.mk (blk_below BK266.out hb)
   have NB267_273 := A_.mk ((by rw [hg]; exact Nat.ne_of_lt (blk_lt BK267.out) : gb267 ≠ gb273))
   have NB273_267 := A_.mk ((by rw [hg]; exact Nat.ne_of_gt (blk_lt BK267.out) : gb273 ≠ gb267))
   replace BK267 := A_.mk (blk_below BK267.out hb)
   have NB268_273 := A_.mk ((by rw [hg]; exact Nat.ne_of_lt (blk_lt BK268.out) : gb268 ≠ gb273))
   have NB273_268 := A_.mk ((by rw [hg]; exact Nat.ne_of_gt (blk_lt BK268.out) : gb273 ≠ gb268))
   replace BK268 := A_.mk (blk_below BK268.out hb)
   clear hb hbox hg
   refine hK.out _ _ ⟨(blk_cell BK266.out 0).trans rfl, (blk_cell BK266.out 1).trans rfl, (blk_cell BK267.out 0).trans rfl, (blk_cell BK267.out 1).trans rfl⟩ (fun hHeld => ?_)
   clear hK K
   exact norm_ (by simp only [putAll, Act.put, sI_, s0_, s1_]; try rfl) (hJ4_10 (gb273) _ ⟨hHeld, BK266.out, BK267.out, BK268.out, BK273.out, GW273.out, GE273.out, NB266_273.out, NB273_266.out, NB267_273.out, NB273_267.out, NB268_273.out, NB273_268.out, HB.out⟩)
  ·refine box_step ?hg (N := 6) ?hd (cs := #[.int .i64 0, .int .i64 0]) (t := 26) ?hr ?_; (case hd => rfl); (case hg => rfl); (case hr => (go_simp; done))
   intro gb274 hg w11 hbox hb
   have BK274 := A_.mk (hbox)
   have GW274 := A_.mk ((by rw [hg]; exact (below_size HB.out) : w.heap.size ≤ gb274))
   have GE274 := A_.mk ((by rw [hg]; exact (below_size HB.out) : w.heap.size ≤ gb274))
   replace HB := A_.mk (below_step HB.out hb)
   have NB266_274 := A_.mk ((by rw [hg]; exact Nat.ne_of_lt (blk_lt BK266.out) : gb266 ≠ gb274))
   have NB274_266 := A_.mk ((by rw [hg]; exact Nat.ne_of_gt (blk_lt BK266.out) : gb274 ≠ gb266))
   replace BK266 := A_.mk (blk_below BK266.out hb)
   have NB267_274 := A_.mk ((by rw [hg]; exact Nat.ne_of_lt (blk_lt BK267.out) : gb267 ≠ gb274))
   have NB274_267 := A_.mk ((by rw [hg]; exact Nat.ne_of_gt (blk_lt BK267.out) : gb274 ≠ gb267))
   replace BK267 := A_.mk (blk_below BK267.out hb)
   have NB268_274 := A_.mk ((by rw [hg]; exact Nat.ne_of_lt (blk_lt BK268.out) : gb268 ≠ gb274))
   have NB274_268 := A_.mk ((by rw [hg]; exact Nat.ne_of_gt (blk_lt BK268.out) : gb274 ≠ gb268))
   replace BK268 := A_.mk (blk_below BK268.out hb)
   clear hb hbox hg
   refine hK.out _ _ ⟨(blk_cell BK266.out 0).trans rfl, (blk_cell BK266.out 1).trans rfl, (blk_cell BK267.out 0).trans rfl, (blk_cell BK267.out 1).trans rfl⟩ (fun hHeld => ?_)
   clear hK K
   exact norm_ (by simp only [putAll, Act.put, sI_, s0_, s1_]; try rfl) (hJ4_11 (gb274) _ ⟨hHeld, BK266.out, BK267.out, BK268.out, BK274.out, GW274.out, GE274.out, NB266_274.out, NB274_266.out, NB267_274.out, NB274_267.out, NB268_274.out, NB274_268.out, HB.out⟩)
 ·rintro ⟨gb273, gb274⟩ w11 ⟨hS_, h0_, h1_, h2_, h3_, h4_, h5_, h6_, h7_, h8_, h9_, h10_, h11_, h12_, h13_, h14_, h15_, h16_, h17_, h18_, h19_, h20_, h21_, h22_, h23_⟩
  have n0_ : A_ (w11.heap[gb266]? = some (.cells #[.int .i64 a0_0, .int .i64 a0_1] 26 (0, 0))) := ⟨h0_⟩
  have n1_ : A_ (w11.heap[gb267]? = some (.cells #[.int .i64 a1_0, .int .i64 a1_1] 26 (0, 0))) := ⟨h1_⟩
  have n2_ : A_ (w11.heap[gb268]? = some (.cells #[.int .i64 0, .int .i64 0] 26 (0, 0))) := ⟨h2_⟩
  have n3_ : A_ (w11.heap[gb273]? = some (.cells #[.int .i64 0, .int .i64 0] 26 (0, 0))) := ⟨h3_⟩
  have n4_ : A_ (w11.heap[gb274]? = some (.cells #[.int .i64 0, .int .i64 0] 26 (0, 0))) := ⟨h4_⟩
  have n5_ : A_ (w.heap.size ≤ gb273) := ⟨h5_⟩
  have n6_ : A_ (w.heap.size ≤ gb273) := ⟨h6_⟩
  have n7_ : A_ (gb266 ≠ gb273) := ⟨h7_⟩
  have n8_ : A_ (gb273 ≠ gb266) := ⟨h8_⟩
  have n9_ : A_ (gb267 ≠ gb273) := ⟨h9_⟩
  have n10_ : A_ (gb273 ≠ gb267) := ⟨h10_⟩
  have n11_ : A_ (gb268 ≠ gb273) := ⟨h11_⟩
  have n12_ : A_ (gb273 ≠ gb268) := ⟨h12_⟩
  have n13_ : A_ (gb274 ≠ gb273) := ⟨h13_⟩
  have n14_ : A_ (gb273 ≠ gb274) := ⟨h14_⟩
  have n15_ : A_ (w.heap.size ≤ gb274) := ⟨h15_⟩
  have n16_ : A_ (w.heap.size ≤ gb274) := ⟨h16_⟩
  have n17_ : A_ (gb266 ≠ gb274) := ⟨h17_⟩
  have n18_ : A_ (gb274 ≠ gb266) := ⟨h18_⟩
  have n19_ : A_ (gb267 ≠ gb274) := ⟨h19_⟩
  have n20_ : A_ (gb274 ≠ gb267) := ⟨h20_⟩
  have n21_ : A_ (gb268 ≠ gb274) := ⟨h21_⟩
  have n22_ : A_ (gb274 ≠ gb268) := ⟨h22_⟩
  have n23_ : A_ (Below w.heap.size w w11) := ⟨h23_⟩
  clear BK266
  clear BK267
  clear BK268
  clear HB
  clear h0_ h1_ h2_ h3_ h4_ h5_ h6_ h7_ h8_ h9_ h10_ h11_ h12_ h13_ h14_ h15_ h16_ h17_ h18_ h19_ h20_ h21_ h22_ h23_
  have BK266 := n0_
  have BK267 := n1_
  have BK268 := n2_
  have BK273 := n3_
  have BK274 := n4_
  have GW273 := n5_
  have GE273 := n6_
  have NB266_273 := n7_
  have NB273_266 := n8_
  have NB267_273 := n9_
  have NB273_267 := n10_
  have NB268_273 := n11_
  have NB273_268 := n12_
  have NB274_273 := n13_
  have NB273_274 := n14_
  have GW274 := n15_
  have GE274 := n16_
  have NB266_274 := n17_
  have NB274_266 := n18_
  have NB267_274 := n19_
  have NB274_267 := n20_
  have NB268_274 := n21_
  have NB274_268 := n22_
  have HB := n23_
  clear n0_ n1_ n2_ n3_ n4_ n5_ n6_ n7_ n8_ n9_ n10_ n11_ n12_ n13_ n14_ n15_ n16_ n17_ n18_ n19_ n20_ n21_ n22_ n23_
  have hHeld : w11.cell? ⟨gb266, 0, none⟩ = some (.int .i64 a0_0) ∧ w11.cell? ⟨gb266, 1, none⟩ = some (.int .i64 a0_1) ∧ w11.cell? ⟨gb267, 0, none⟩ = some (.int .i64 a1_0) ∧ w11.cell? ⟨gb267, 1, none⟩ = some (.int .i64 a1_1) := hS_
  refine norm_ (a' := ?_) ?_ ?_
  rotate_left
  ·simp only [putAll, Act.put, sI_, s0_, s1_]
   rfl
  refine one_ (i := 4) (N := some 11) (m_ 14 3583) rfl rfl (one_of HT_.out (by kernel_rfl)) (by decide) (fun K hK => ?_)
  refine goes_ Tryd.func69 (by kernel_rfl) rfl #[.int .i64 a0_0, .int .i64 a1_1] (by rfl) rfl rfl (by (try simp only [List.map_toArray, List.map_cons, List.map_nil]); (rfl)) ?_
  with_reducible refine (spec_l2Cut.calls k a0_0 a1_1 t269 t270 _ A3.out).mono ?_
  rintro e w12 ⟨rfl, hb⟩
  refine ⟨_, rfl, ?_⟩
  replace BK266 := A_.mk (blk_below BK266.out hb)
  replace BK267 := A_.mk (blk_below BK267.out hb)
  replace BK268 := A_.mk (blk_below BK268.out hb)
  replace BK273 := A_.mk (blk_below BK273.out hb)
  replace BK274 := A_.mk (blk_below BK274.out hb)
  replace HB := A_.mk (below_step HB.out hb)
  (try clear hb)
  skip
  skip
  skip
  refine hK.out _ _ ⟨(blk_cell BK266.out 0).trans rfl, (blk_cell BK266.out 1).trans rfl, (blk_cell BK267.out 0).trans rfl, (blk_cell BK267.out 1).trans rfl⟩ (fun hHeld => ?_)
  clear hK K
  exact norm_ (by simp only [putAll, Act.put, sI_, s0_, s1_]; try rfl) (hJ4_10_11 (gb273, gb274) _ ⟨hHeld, BK266.out, BK267.out, BK268.out, BK273.out, BK274.out, GW273.out, GE273.out, NB266_273.out, NB273_266.out, NB267_273.out, NB273_267.out, NB268_273.out, NB273_268.out, NB274_273.out, NB273_274.out, GW274.out, GE274.out, NB266_274.out, NB274_266.out, NB267_274.out, NB274_267.out, NB268_274.out, NB274_268.out, HB.out⟩)
 ·rintro gb274 w11 ⟨hS_, h0_, h1_, h2_, h3_, h4_, h5_, h6_, h7_, h8_, h9_, h10_, h11_, h12_⟩
  have n0_ : A_ (w11.heap[gb266]? = some (.cells #[.int .i64 a0_0, .int .i64 a0_1] 26 (0, 0))) := ⟨h0_⟩
  have n1_ : A_ (w11.heap[gb267]? = some (.cells #[.int .i64 a1_0, .int .i64 a1_1] 26 (0, 0))) := ⟨h1_⟩
  have n2_ : A_ (w11.heap[gb268]? = some (.cells #[.int .i64 0, .int .i64 0] 26 (0, 0))) := ⟨h2_⟩
  have n3_ : A_ (w11.heap[gb274]? = some (.cells #[.int .i64 0, .int .i64 0] 26 (0, 0))) := ⟨h3_⟩
  have n4_ : A_ (w.heap.size ≤ gb274) := ⟨h4_⟩
  have n5_ : A_ (w.heap.size ≤ gb274) := ⟨h5_⟩
  have n6_ : A_ (gb266 ≠ gb274) := ⟨h6_⟩
  have n7_ : A_ (gb274 ≠ gb266) := ⟨h7_⟩
  have n8_ : A_ (gb267 ≠ gb274) := ⟨h8_⟩
  have n9_ : A_ (gb274 ≠ gb267) := ⟨h9_⟩
  have n10_ : A_ (gb268 ≠ gb274) := ⟨h10_⟩
  have n11_ : A_ (gb274 ≠ gb268) := ⟨h11_⟩
  have n12_ : A_ (Below w.heap.size w w11) := ⟨h12_⟩
  clear BK266
  clear BK267
  clear BK268
  clear HB
  clear h0_ h1_ h2_ h3_ h4_ h5_ h6_ h7_ h8_ h9_ h10_ h11_ h12_
  have BK266 := n0_
  have BK267 := n1_
  have BK268 := n2_
  have BK274 := n3_
  have GW274 := n4_
  have GE274 := n5_
  have NB266_274 := n6_
  have NB274_266 := n7_
  have NB267_274 := n8_
  have NB274_267 := n9_
  have NB268_274 := n10_
  have NB274_268 := n11_
  have HB := n12_
  clear n0_ n1_ n2_ n3_ n4_ n5_ n6_ n7_ n8_ n9_ n10_ n11_ n12_
  have hHeld : w11.cell? ⟨gb266, 0, none⟩ = some (.int .i64 a0_0) ∧ w11.cell? ⟨gb266, 1, none⟩ = some (.int .i64 a0_1) ∧ w11.cell? ⟨gb267, 0, none⟩ = some (.int .i64 a1_0) ∧ w11.cell? ⟨gb267, 1, none⟩ = some (.int .i64 a1_1) := hS_
  refine norm_ (a' := ?_) ?_ ?_
  rotate_left
  ·simp only [putAll, Act.put, sI_, s0_, s1_]
   rfl
  refine two_ (i := 9) (j := 10) (Ni := some 16) (Nj := some 5) (m_ 14 3071) (m_ 14 3583) rfl rfl rfl rfl (two_of HT_.out (by kernel_rfl)) (by decide) (by decide) (fun K hK => ?_) (fun K hK => ?_)
  ·refine goes_ Tryd.func69 (by kernel_rfl) rfl #[.int .i64 a1_0, .int .i64 a0_1] (by rfl) rfl rfl (by (try simp only [List.map_toArray, List.map_cons, List.map_nil]); (rfl)) ?_
   with_reducible refine (spec_l2Cut.calls k a1_0 a0_1 t271 t272 _ A4.out).mono ?_
   rintro e w12 ⟨rfl, hb⟩
   refine ⟨_, rfl, ?_⟩
   replace BK266 := A_.mk (blk_below BK266.out hb)
   replace BK267 := A_.mk (blk_below BK267.out hb)
   replace BK268 := A_.mk (blk_below BK268.out hb)
   replace BK274 := A_.mk (blk_below BK274.out hb)
   replace HB := A_.mk (below_step HB.out hb)
   (try clear hb)
   skip
   skip
   skip
   refine hK.out _ _ ⟨(blk_cell BK266.out 0).trans rfl, (blk_cell BK266.out 1).trans rfl, (blk_cell BK267.out 0).trans rfl, (blk_cell BK267.out 1).trans rfl⟩ (fun hHeld => ?_)
   clear hK K
   exact norm_ (by simp only [putAll, Act.put, sI_, s0_, s1_]; try rfl) (hJ4_9_11 (gb274) _ ⟨hHeld, BK266.out, BK267.out, BK268.out, BK274.out, GW274.out, GE274.out, NB266_274.out, NB274_266.out, NB267_274.out, NB274_267.out, NB268_274.out, NB274_268.out, HB.out⟩)
  ·refine box_step ?hg (N := 5) ?hd (cs := #[.int .i64 0, .int .i64 0]) (t := 26) ?hr ?_; (case hd => rfl); (case hg => rfl); (case hr => (go_simp; done))
   intro gb273 hg w12 hbox hb
   have BK273 := A_.mk (hbox)
   have GW273 := A_.mk ((by rw [hg]; exact (below_size HB.out) : w.heap.size ≤ gb273))
   have GE273 := A_.mk ((by rw [hg]; exact (below_size HB.out) : w.heap.size ≤ gb273))
   replace HB := A_.mk (below_step HB.out hb)
   have NB266_273 := A_.mk ((by rw [hg]; exact Nat.ne_of_lt (blk_lt BK266.out) : gb266 ≠ gb273))
   have NB273_266 := A_.mk ((by rw [hg]; exact Nat.ne_of_gt (blk_lt BK266.out) : gb273 ≠ gb266))
   replace BK266 := A_.mk (blk_below BK266.out hb)
   have NB267_273 := A_.mk ((by rw [hg]; exact Nat.ne_of_lt (blk_lt BK267.out) : gb267 ≠ gb273))
   have NB273_267 := A_.mk ((by rw [hg]; exact Nat.ne_of_gt (blk_lt BK267.out) : gb273 ≠ gb267))
   replace BK267 := A_.mk (blk_below BK267.out hb)
   have NB268_273 := A_.mk ((by rw [hg]; exact Nat.ne_of_lt (blk_lt BK268.out) : gb268 ≠ gb273))
   have NB273_268 := A_.mk ((by rw [hg]; exact Nat.ne_of_gt (blk_lt BK268.out) : gb273 ≠ gb268))
   replace BK268 := A_.mk (blk_below BK268.out hb)
   have NB274_273 := A_.mk ((by rw [hg]; exact Nat.ne_of_lt (blk_lt BK274.out) : gb274 ≠ gb273))
   have NB273_274 := A_.mk ((by rw [hg]; exact Nat.ne_of_gt (blk_lt BK274.out) : gb273 ≠ gb274))
   replace BK274 := A_.mk (blk_below BK274.out hb)
   clear hb hbox hg
   refine hK.out _ _ ⟨(blk_cell BK266.out 0).trans rfl, (blk_cell BK266.out 1).trans rfl, (blk_cell BK267.out 0).trans rfl, (blk_cell BK267.out 1).trans rfl⟩ (fun hHeld => ?_)
   clear hK K
   exact norm_ (by simp only [putAll, Act.put, sI_, s0_, s1_]; try rfl) (hJ4_10_11 (gb273, gb274) _ ⟨hHeld, BK266.out, BK267.out, BK268.out, BK273.out, BK274.out, GW273.out, GE273.out, NB266_273.out, NB273_266.out, NB267_273.out, NB273_267.out, NB268_273.out, NB273_268.out, NB274_273.out, NB273_274.out, GW274.out, GE274.out, NB266_274.out, NB274_266.out, NB267_274.out, NB274_267.out, NB268_274.out, NB274_268.out, HB.out⟩)
 ·rintro gb273 w11 ⟨hS_, h0_, h1_, h2_, h3_, h4_, h5_, h6_, h7_, h8_, h9_, h10_, h11_, h12_⟩
  have n0_ : A_ (w11.heap[gb266]? = some (.cells #[.int .i64 a0_0, .int .i64 a0_1] 26 (0, 0))) := ⟨h0_⟩
  have n1_ : A_ (w11.heap[gb267]? = some (.cells #[.int .i64 a1_0, .int .i64 a1_1] 26 (0, 0))) := ⟨h1_⟩
  have n2_ : A_ (w11.heap[gb268]? = some (.cells #[.int .i64 0, .int .i64 0] 26 (0, 0))) := ⟨h2_⟩
  have n3_ : A_ (w11.heap[gb273]? = some (.cells #[.int .i64 0, .int .i64 0] 26 (0, 0))) := ⟨h3_⟩
  have n4_ : A_ (w.heap.size ≤ gb273) := ⟨h4_⟩
  have n5_ : A_ (w.heap.size ≤ gb273) := ⟨h5_⟩
  have n6_ : A_ (gb266 ≠ gb273) := ⟨h6_⟩
  have n7_ : A_ (gb273 ≠ gb266) := ⟨h7_⟩
  have n8_ : A_ (gb267 ≠ gb273) := ⟨h8_⟩
  have n9_ : A_ (gb273 ≠ gb267) := ⟨h9_⟩
  have n10_ : A_ (gb268 ≠ gb273) := ⟨h10_⟩
  have n11_ : A_ (gb273 ≠ gb268) := ⟨h11_⟩
  have n12_ : A_ (Below w.heap.size w w11) := ⟨h12_⟩
  clear BK266
  clear BK267
  clear BK268
  clear HB
  clear h0_ h1_ h2_ h3_ h4_ h5_ h6_ h7_ h8_ h9_ h10_ h11_ h12_
  have BK266 := n0_
  have BK267 := n1_
  have BK268 := n2_
  have BK273 := n3_
  have GW273 := n4_
  have GE273 := n5_
  have NB266_273 := n6_
  have NB273_266 := n7_
  have NB267_273 := n8_
  have NB273_267 := n9_
  have NB268_273 := n10_
  have NB273_268 := n11_
  have HB := n12_
  clear n0_ n1_ n2_ n3_ n4_ n5_ n6_ n7_ n8_ n9_ n10_ n11_ n12_
  have hHeld : w11.cell? ⟨gb266, 0, none⟩ = some (.int .i64 a0_0) ∧ w11.cell? ⟨gb266, 1, none⟩ = some (.int .i64 a0_1) ∧ w11.cell? ⟨gb267, 0, none⟩ = some (.int .i64 a1_0) ∧ w11.cell? ⟨gb267, 1, none⟩ = some (.int .i64 a1_1) := hS_
  refine norm_ (a' := ?_) ?_ ?_
  rotate_left
  ·simp only [putAll, Act.put, sI_, s0_, s1_]
   rfl
  refine two_ (i := 9) (j := 11) (Ni := some 16) (Nj := some 6) (m_ 14 2047) (m_ 14 3583) rfl rfl rfl rfl (two_of HT_.out (by kernel_rfl)) (by decide) (by decide) (fun K hK => ?_) (fun K hK => ?_)
  ·refine goes_ Tryd.func69 (by kernel_rfl) rfl #[.int .i64 a1_0, .int .i64 a0_1] (by rfl) rfl rfl (by (try simp only [List.map_toArray, List.map_cons, List.map_nil]); (rfl)) ?_
   with_reducible refine (spec_l2Cut.calls k a1_0 a0_1 t271 t272 _ A4.out).mono ?_
   rintro e w12 ⟨rfl, hb⟩
   refine ⟨_, rfl, ?_⟩
   replace BK266 := A_.mk (blk_below BK266.out hb)
   replace BK267 := A_.mk (blk_below BK267.out hb)
   replace BK268 := A_.mk (blk_below BK268.out hb)
   replace BK273 := A_.mk (blk_below BK273.out hb)
   replace HB := A_.mk (below_step HB.out hb)
   (try clear hb)
   skip
   skip
   skip
   refine hK.out _ _ ⟨(blk_cell BK266.out 0).trans rfl, (blk_cell BK266.out 1).trans rfl, (blk_cell BK267.out 0).trans rfl, (blk_cell BK267.out 1).trans rfl⟩ (fun hHeld => ?_)
   clear hK K
   exact norm_ (by simp only [putAll, Act.put, sI_, s0_, s1_]; try rfl) (hJ4_9_10 (gb273) _ ⟨hHeld, BK266.out, BK267.out, BK268.out, BK273.out, GW273.out, GE273.out, NB266_273.out, NB273_266.out, NB267_273.out, NB273_267.out, NB268_273.out, NB273_268.out, HB.out⟩)
  ·refine box_step ?hg (N := 6) ?hd (cs := #[.int .i64 0, .int .i64 0]) (t := 26) ?hr ?_; (case hd => rfl); (case hg => rfl); (case hr => (go_simp; done))
   intro gb274 hg w12 hbox hb
   have BK274 := A_.mk (hbox)
   have GW274 := A_.mk ((by rw [hg]; exact (below_size HB.out) : w.heap.size ≤ gb274))
   have GE274 := A_.mk ((by rw [hg]; exact (below_size HB.out) : w.heap.size ≤ gb274))
   replace HB := A_.mk (below_step HB.out hb)
   have NB266_274 := A_.mk ((by rw [hg]; exact Nat.ne_of_lt (blk_lt BK266.out) : gb266 ≠ gb274))
   have NB274_266 := A_.mk ((by rw [hg]; exact Nat.ne_of_gt (blk_lt BK266.out) : gb274 ≠ gb266))
   replace BK266 := A_.mk (blk_below BK266.out hb)
   have NB267_274 := A_.mk ((by rw [hg]; exact Nat.ne_of_lt (blk_lt BK267.out) : gb267 ≠ gb274))
   have NB274_267 := A_.mk ((by rw [hg]; exact Nat.ne_of_gt (blk_lt BK267.out) : gb274 ≠ gb267))
   replace BK267 := A_.mk (blk_below BK267.out hb)
   have NB268_274 := A_.mk ((by rw [hg]; exact Nat.ne_of_lt (blk_lt BK268.out) : gb268 ≠ gb274))
   have NB274_268 := A_.mk ((by rw [hg]; exact Nat.ne_of_gt (blk_lt BK268.out) : gb274 ≠ gb268))
   replace BK268 := A_.mk (blk_below BK268.out hb)
   have NB273_274 := A_.mk ((by rw [hg]; exact Nat.ne_of_lt (blk_lt BK273.out) : gb273 ≠ gb274))
   have NB274_273 := A_.mk ((by rw [hg]; exact Nat.ne_of_gt (blk_lt BK273.out) : gb274 ≠ gb273))
   replace BK273 := A_.mk (blk_below BK273.out hb)
   clear hb hbox hg
   refine hK.out _ _ ⟨(blk_cell BK266.out 0).trans rfl, (blk_cell BK266.out 1).trans rfl, (blk_cell BK267.out 0).trans rfl, (blk_cell BK267.out 1).trans rfl⟩ (fun hHeld => ?_)
   clear hK K
   exact norm_ (by simp only [putAll, Act.put, sI_, s0_, s1_]; try rfl) (hJ4_10_11 (gb273, gb274) _ ⟨hHeld, BK266.out, BK267.out, BK268.out, BK273.out, BK274.out, GW273.out, GE273.out, NB266_273.out, NB273_266.out, NB267_273.out, NB273_267.out, NB268_273.out, NB273_268.out, NB274_273.out, NB273_274.out, GW274.out, GE274.out, NB266_274.out, NB274_266.out, NB267_274.out, NB274_267.out, NB268_274.out, NB274_268.out, HB.out⟩)
 ·rintro _ w11 ⟨hS_, h0_, h1_, h2_, h3_⟩
  have n0_ : A_ (w11.heap[gb266]? = some (.cells #[.int .i64 a0_0, .int .i64 a0_1] 26 (0, 0))) := ⟨h0_⟩
  have n1_ : A_ (w11.heap[gb267]? = some (.cells #[.int .i64 a1_0, .int .i64 a1_1] 26 (0, 0))) := ⟨h1_⟩
  have n2_ : A_ (w11.heap[gb268]? = some (.cells #[.int .i64 0, .int .i64 0] 26 (0, 0))) := ⟨h2_⟩
  have n3_ : A_ (Below w.heap.size w w11) := ⟨h3_⟩
  clear BK266
  clear BK267
  clear BK268
  clear HB
  clear h0_ h1_ h2_ h3_
  have BK266 := n0_
  have BK267 := n1_
  have BK268 := n2_
  have HB := n3_
  clear n0_ n1_ n2_ n3_
  have hHeld : w11.cell? ⟨gb266, 0, none⟩ = some (.int .i64 a0_0) ∧ w11.cell? ⟨gb266, 1, none⟩ = some (.int .i64 a0_1) ∧ w11.cell? ⟨gb267, 0, none⟩ = some (.int .i64 a1_0) ∧ w11.cell? ⟨gb267, 1, none⟩ = some (.int .i64 a1_1) := hS_
  refine norm_ (a' := ?_) ?_ ?_
  rotate_left
  ·simp only [putAll, Act.put, sI_, s0_, s1_]
   rfl
  refine two_ (i := 10) (j := 11) (Ni := some 5) (Nj := some 6) (m_ 14 2047) (m_ 14 3071) rfl rfl rfl rfl (two_of HT_.out (by kernel_rfl)) (by decide) (by decide) (fun K hK => ?_) (fun K hK => ?_)
  ·refine box_step ?hg (N := 5) ?hd (cs := #[.int .i64 0, .int .i64 0]) (t := 26) ?hr ?_; (case hd => rfl); (case hg => rfl); (case hr => (go_simp; done))
   intro gb273 hg w12 hbox hb
   have BK273 := A_.mk (hbox)
   have GW273 := A_.mk ((by rw [hg]; exact (below_size HB.out) : w.heap.size ≤ gb273))
   have GE273 := A_.mk ((by rw [hg]; exact (below_size HB.out) : w.heap.size ≤ gb273))
   replace HB := A_.mk (below_step HB.out hb)
   have NB266_273 := A_.mk ((by rw [hg]; exact Nat.ne_of_lt (blk_lt BK266.out) : gb266 ≠ gb273))
   have NB273_266 := A_.mk ((by rw [hg]; exact Nat.ne_of_gt (blk_lt BK266.out) : gb273 ≠ gb266))
   replace BK266 := A_.mk (blk_below BK266.out hb)
   have NB267_273 := A_.mk ((by rw [hg]; exact Nat.ne_of_lt (blk_lt BK267.out) : gb267 ≠ gb273))
   have NB273_267 := A_.mk ((by rw [hg]; exact Nat.ne_of_gt (blk_lt BK267.out) : gb273 ≠ gb267))
   replace BK267 := A_.mk (blk_below BK267.out hb)
   have NB268_273 := A_.mk ((by rw [hg]; exact Nat.ne_of_lt (blk_lt BK268.out) : gb268 ≠ gb273))
   have NB273_268 := A_.mk ((by rw [hg]; exact Nat.ne_of_gt (blk_lt BK268.out) : gb273 ≠ gb268))
   replace BK268 := A_.mk (blk_below BK268.out hb)
   clear hb hbox hg
   refine hK.out _ _ ⟨(blk_cell BK266.out 0).trans rfl, (blk_cell BK266.out 1).trans rfl, (blk_cell BK267.out 0).trans rfl, (blk_cell BK267.out 1).trans rfl⟩ (fun hHeld => ?_)
   clear hK K
   exact norm_ (by simp only [putAll, Act.put, sI_, s0_, s1_]; try rfl) (hJ4_9_10 (gb273) _ ⟨hHeld, BK266.out, BK267.out, BK268.out, BK273.out, GW273.out, GE273.out, NB266_273.out, NB273_266.out, NB267_273.out, NB273_267.out, NB268_273.out, NB273_268.out, HB.out⟩)
  ·refine box_step ?hg (N := 6) ?hd (cs := #[.int .i64 0, .int .i64 0]) (t := 26) ?hr ?_; (case hd => rfl); (case hg => rfl); (case hr => (go_simp; done))
   intro gb274 hg w12 hbox hb
   have BK274 := A_.mk (hbox)
   have GW274 := A_.mk ((by rw [hg]; exact (below_size HB.out) : w.heap.size ≤ gb274))
   have GE274 := A_.mk ((by rw [hg]; exact (below_size HB.out) : w.heap.size ≤ gb274))
   replace HB := A_.mk (below_step HB.out hb)
   have NB266_274 := A_.mk ((by rw [hg]; exact Nat.ne_of_lt (blk_lt BK266.out) : gb266 ≠ gb274))
   have NB274_266 := A_.mk ((by rw [hg]; exact Nat.ne_of_gt (blk_lt BK266.out) : gb274 ≠ gb266))
   replace BK266 := A_.mk (blk_below BK266.out hb)
   have NB267_274 := A_.mk ((by rw [hg]; exact Nat.ne_of_lt (blk_lt BK267.out) : gb267 ≠ gb274))
   have NB274_267 := A_.mk ((by rw [hg]; exact Nat.ne_of_gt (blk_lt BK267.out) : gb274 ≠ gb267))
   replace BK267 := A_.mk (blk_below BK267.out hb)
   have NB268_274 := A_.mk ((by rw [hg]; exact Nat.ne_of_lt (blk_lt BK268.out) : gb268 ≠ gb274))
   have NB274_268 := A_.mk ((by rw [hg]; exact Nat.ne_of_gt (blk_lt BK268.out) : gb274 ≠ gb268))
   replace BK268 := A_.mk (blk_below BK268.out hb)
   clear hb hbox hg
   refine hK.out _ _ ⟨(blk_cell BK266.out 0).trans rfl, (blk_cell BK266.out 1).trans rfl, (blk_cell BK267.out 0).trans rfl, (blk_cell BK267.out 1).trans rfl⟩ (fun hHeld => ?_)
   clear hK K
   exact norm_ (by simp only [putAll, Act.put, sI_, s0_, s1_]; try rfl) (hJ4_9_11 (gb274) _ ⟨hHeld, BK266.out, BK267.out, BK268.out, BK274.out, GW274.out, GE274.out, NB266_274.out, NB274_266.out, NB267_274.out, NB274_267.out, NB268_274.out, NB274_268.out, HB.out⟩)
 ·rintro ⟨gb273, gb274⟩ w12 ⟨hS_, h0_, h1_, h2_, h3_, h4_, h5_, h6_, h7_, h8_, h9_, h10_, h11_, h12_, h13_, h14_, h15_, h16_, h17_, h18_, h19_, h20_, h21_, h22_, h23_⟩
  have n0_ : A_ (w12.heap[gb266]? = some (.cells #[.int .i64 a0_0, .int .i64 a0_1] 26 (0, 0))) := ⟨h0_⟩
  have n1_ : A_ (w12.heap[gb267]? = some (.cells #[.int .i64 a1_0, .int .i64 a1_1] 26 (0, 0))) := ⟨h1_⟩
  have n2_ : A_ (w12.heap[gb268]? = some (.cells #[.int .i64 0, .int .i64 0] 26 (0, 0))) := ⟨h2_⟩
  have n3_ : A_ (w12.heap[gb273]? = some (.cells #[.int .i64 0, .int .i64 0] 26 (0, 0))) := ⟨h3_⟩
  have n4_ : A_ (w12.heap[gb274]? = some (.cells #[.int .i64 0, .int .i64 0] 26 (0, 0))) := ⟨h4_⟩
  have n5_ : A_ (w.heap.size ≤ gb273) := ⟨h5_⟩
  have n6_ : A_ (w.heap.size ≤ gb273) := ⟨h6_⟩
  have n7_ : A_ (gb266 ≠ gb273) := ⟨h7_⟩
  have n8_ : A_ (gb273 ≠ gb266) := ⟨h8_⟩
  have n9_ : A_ (gb267 ≠ gb273) := ⟨h9_⟩
  have n10_ : A_ (gb273 ≠ gb267) := ⟨h10_⟩
  have n11_ : A_ (gb268 ≠ gb273) := ⟨h11_⟩
  have n12_ : A_ (gb273 ≠ gb268) := ⟨h12_⟩
  have n13_ : A_ (gb274 ≠ gb273) := ⟨h13_⟩
  have n14_ : A_ (gb273 ≠ gb274) := ⟨h14_⟩
  have n15_ : A_ (w.heap.size ≤ gb274) := ⟨h15_⟩
  have n16_ : A_ (w.heap.size ≤ gb274) := ⟨h16_⟩
  have n17_ : A_ (gb266 ≠ gb274) := ⟨h17_⟩
  have n18_ : A_ (gb274 ≠ gb266) := ⟨h18_⟩
  have n19_ : A_ (gb267 ≠ gb274) := ⟨h19_⟩
  have n20_ : A_ (gb274 ≠ gb267) := ⟨h20_⟩
  have n21_ : A_ (gb268 ≠ gb274) := ⟨h21_⟩
  have n22_ : A_ (gb274 ≠ gb268) := ⟨h22_⟩
  have n23_ : A_ (Below w.heap.size w w12) := ⟨h23_⟩
  clear BK266
  clear BK267
  clear BK268
  clear HB
  clear h0_ h1_ h2_ h3_ h4_ h5_ h6_ h7_ h8_ h9_ h10_ h11_ h12_ h13_ h14_ h15_ h16_ h17_ h18_ h19_ h20_ h21_ h22_ h23_
  have BK266 := n0_
  have BK267 := n1_
  have BK268 := n2_
  have BK273 := n3_
  have BK274 := n4_
  have GW273 := n5_
  have GE273 := n6_
  have NB266_273 := n7_
  have NB273_266 := n8_
  have NB267_273 := n9_
  have NB273_267 := n10_
  have NB268_273 := n11_
  have NB273_268 := n12_
  have NB274_273 := n13_
  have NB273_274 := n14_
  have GW274 := n15_
  have GE274 := n16_
  have NB266_274 := n17_
  have NB274_266 := n18_
  have NB267_274 := n19_
  have NB274_267 := n20_
  have NB268_274 := n21_
  have NB274_268 := n22_
  have HB := n23_
  clear n0_ n1_ n2_ n3_ n4_ n5_ n6_ n7_ n8_ n9_ n10_ n11_ n12_ n13_ n14_ n15_ n16_ n17_ n18_ n19_ n20_ n21_ n22_ n23_
  have hHeld : w12.cell? ⟨gb266, 0, none⟩ = some (.int .i64 a0_0) ∧ w12.cell? ⟨gb266, 1, none⟩ = some (.int .i64 a0_1) ∧ w12.cell? ⟨gb267, 0, none⟩ = some (.int .i64 a1_0) ∧ w12.cell? ⟨gb267, 1, none⟩ = some (.int .i64 a1_1) := hS_
  refine norm_ (a' := ?_) ?_ ?_
  rotate_left
  ·simp only [putAll, Act.put, sI_, s0_, s1_]
   rfl
  refine one_ (i := 9) (N := some 16) (m_ 14 4095) rfl rfl (one_of HT_.out (by kernel_rfl)) (by decide) (fun K hK => ?_)
  refine goes_ Tryd.func69 (by kernel_rfl) rfl #[.int .i64 a1_0, .int .i64 a0_1] (by rfl) rfl rfl (by (try simp only [List.map_toArray, List.map_cons, List.map_nil]); (rfl)) ?_
  with_reducible refine (spec_l2Cut.calls k a1_0 a0_1 t271 t272 _ A4.out).mono ?_
  rintro e w13 ⟨rfl, hb⟩
  refine ⟨_, rfl, ?_⟩
  replace BK266 := A_.mk (blk_below BK266.out hb)
  replace BK267 := A_.mk (blk_below BK267.out hb)
  replace BK268 := A_.mk (blk_below BK268.out hb)
  replace BK273 := A_.mk (blk_below BK273.out hb)
  replace BK274 := A_.mk (blk_below BK274.out hb)
  replace HB := A_.mk (below_step HB.out hb)
  (try clear hb)
  skip
  skip
  skip
  refine hK.out _ _ ⟨(blk_cell BK266.out 0).trans rfl, (blk_cell BK266.out 1).trans rfl, (blk_cell BK267.out 0).trans rfl, (blk_cell BK267.out 1).trans rfl⟩ (fun hHeld => ?_)
  clear hK K
  exact norm_ (by simp only [putAll, Act.put, sI_, s0_, s1_]; try rfl) (hJ4_9_10_11 (gb273, gb274) _ ⟨hHeld, BK266.out, BK267.out, BK268.out, BK273.out, BK274.out, GW273.out, GE273.out, NB266_273.out, NB273_266.out, NB267_273.out, NB273_267.out, NB268_273.out, NB273_268.out, NB274_273.out, NB273_274.out, GW274.out, GE274.out, NB266_274.out, NB274_266.out, NB267_274.out, NB274_267.out, NB268_274.out, NB274_268.out, HB.out⟩)
 ·rintro gb274 w12 ⟨hS_, h0_, h1_, h2_, h3_, h4_, h5_, h6_, h7_, h8_, h9_, h10_, h11_, h12_⟩
  have n0_ : A_ (w12.heap[gb266]? = some (.cells #[.int .i64 a0_0, .int .i64 a0_1] 26 (0, 0))) := ⟨h0_⟩
  have n1_ : A_ (w12.heap[gb267]? = some (.cells #[.int .i64 a1_0, .int .i64 a1_1] 26 (0, 0))) := ⟨h1_⟩
  have n2_ : A_ (w12.heap[gb268]? = some (.cells #[.int .i64 0, .int .i64 0] 26 (0, 0))) := ⟨h2_⟩
  have n3_ : A_ (w12.heap[gb274]? = some (.cells #[.int .i64 0, .int .i64 0] 26 (0, 0))) := ⟨h3_⟩
  have n4_ : A_ (w.heap.size ≤ gb274) := ⟨h4_⟩
  have n5_ : A_ (w.heap.size ≤ gb274) := ⟨h5_⟩
  have n6_ : A_ (gb266 ≠ gb274) := ⟨h6_⟩
  have n7_ : A_ (gb274 ≠ gb266) := ⟨h7_⟩
  have n8_ : A_ (gb267 ≠ gb274) := ⟨h8_⟩
  have n9_ : A_ (gb274 ≠ gb267) := ⟨h9_⟩
  have n10_ : A_ (gb268 ≠ gb274) := ⟨h10_⟩
  have n11_ : A_ (gb274 ≠ gb268) := ⟨h11_⟩
  have n12_ : A_ (Below w.heap.size w w12) := ⟨h12_⟩
  clear BK266
  clear BK267
  clear BK268
  clear HB
  clear h0_ h1_ h2_ h3_ h4_ h5_ h6_ h7_ h8_ h9_ h10_ h11_ h12_
  have BK266 := n0_
  have BK267 := n1_
  have BK268 := n2_
  have BK274 := n3_
  have GW274 := n4_
  have GE274 := n5_
  have NB266_274 := n6_
  have NB274_266 := n7_
  have NB267_274 := n8_
  have NB274_267 := n9_
  have NB268_274 := n10_
  have NB274_268 := n11_
  have HB := n12_
  clear n0_ n1_ n2_ n3_ n4_ n5_ n6_ n7_ n8_ n9_ n10_ n11_ n12_
  have hHeld : w12.cell? ⟨gb266, 0, none⟩ = some (.int .i64 a0_0) ∧ w12.cell? ⟨gb266, 1, none⟩ = some (.int .i64 a0_1) ∧ w12.cell? ⟨gb267, 0, none⟩ = some (.int .i64 a1_0) ∧ w12.cell? ⟨gb267, 1, none⟩ = some (.int .i64 a1_1) := hS_
  refine norm_ (a' := ?_) ?_ ?_
  rotate_left
  ·simp only [putAll, Act.put, sI_, s0_, s1_]
   rfl
  refine one_ (i := 10) (N := some 5) (m_ 14 4095) rfl rfl (one_of HT_.out (by kernel_rfl)) (by decide) (fun K hK => ?_)
  refine box_step ?hg (N := 5) ?hd (cs := #[.int .i64 0, .int .i64 0]) (t := 26) ?hr ?_; (case hd => rfl); (case hg => rfl); (case hr => (go_simp; done))
  intro gb273 hg w13 hbox hb
  have BK273 := A_.mk (hbox)
  have GW273 := A_.mk ((by rw [hg]; exact (below_size HB.out) : w.heap.size ≤ gb273))
  have GE273 := A_.mk ((by rw [hg]; exact (below_size HB.out) : w.heap.size ≤ gb273))
  replace HB := A_.mk (below_step HB.out hb)
  have NB266_273 := A_.mk ((by rw [hg]; exact Nat.ne_of_lt (blk_lt BK266.out) : gb266 ≠ gb273))
  have NB273_266 := A_.mk ((by rw [hg]; exact Nat.ne_of_gt (blk_lt BK266.out) : gb273 ≠ gb266))
  replace BK266 := A_.mk (blk_below BK266.out hb)
  have NB267_273 := A_.mk ((by rw [hg]; exact Nat.ne_of_lt (blk_lt BK267.out) : gb267 ≠ gb273))
  have NB273_267 := A_.mk ((by rw [hg]; exact Nat.ne_of_gt (blk_lt BK267.out) : gb273 ≠ gb267))
  replace BK267 := A_.mk (blk_below BK267.out hb)
  have NB268_273 := A_.mk ((by rw [hg]; exact Nat.ne_of_lt (blk_lt BK268.out) : gb268 ≠ gb273))
  have NB273_268 := A_.mk ((by rw [hg]; exact Nat.ne_of_gt (blk_lt BK268.out) : gb273 ≠ gb268))
  replace BK268 := A_.mk (blk_below BK268.out hb)
  have NB274_273 := A_.mk ((by rw [hg]; exact Nat.ne_of_lt (blk_lt BK274.out) : gb274 ≠ gb273))
  have NB273_274 := A_.mk ((by rw [hg]; exact Nat.ne_of_gt (blk_lt BK274.out) : gb273 ≠ gb274))
  replace BK274 := A_.mk (blk_below BK274.out hb)
  clear hb hbox hg
  refine hK.out _ _ ⟨(blk_cell BK266.out 0).trans rfl, (blk_cell BK266.out 1).trans rfl, (blk_cell BK267.out 0).trans rfl, (blk_cell BK267.out 1).trans rfl⟩ (fun hHeld => ?_)
  clear hK K
  exact norm_ (by simp only [putAll, Act.put, sI_, s0_, s1_]; try rfl) (hJ4_9_10_11 (gb273, gb274) _ ⟨hHeld, BK266.out, BK267.out, BK268.out, BK273.out, BK274.out, GW273.out, GE273.out, NB266_273.out, NB273_266.out, NB267_273.out, NB273_267.out, NB268_273.out, NB273_268.out, NB274_273.out, NB273_274.out, GW274.out, GE274.out, NB266_274.out, NB274_266.out, NB267_274.out, NB274_267.out, NB268_274.out, NB274_268.out, HB.out⟩)
 ·rintro gb273 w12 ⟨hS_, h0_, h1_, h2_, h3_, h4_, h5_, h6_, h7_, h8_, h9_, h10_, h11_, h12_⟩
  have n0_ : A_ (w12.heap[gb266]? = some (.cells #[.int .i64 a0_0, .int .i64 a0_1] 26 (0, 0))) := ⟨h0_⟩
  have n1_ : A_ (w12.heap[gb267]? = some (.cells #[.int .i64 a1_0, .int .i64 a1_1] 26 (0, 0))) := ⟨h1_⟩
  have n2_ : A_ (w12.heap[gb268]? = some (.cells #[.int .i64 0, .int .i64 0] 26 (0, 0))) := ⟨h2_⟩
  have n3_ : A_ (w12.heap[gb273]? = some (.cells #[.int .i64 0, .int .i64 0] 26 (0, 0))) := ⟨h3_⟩
  have n4_ : A_ (w.heap.size ≤ gb273) := ⟨h4_⟩
  have n5_ : A_ (w.heap.size ≤ gb273) := ⟨h5_⟩
  have n6_ : A_ (gb266 ≠ gb273) := ⟨h6_⟩
  have n7_ : A_ (gb273 ≠ gb266) := ⟨h7_⟩
  have n8_ : A_ (gb267 ≠ gb273) := ⟨h8_⟩
  have n9_ : A_ (gb273 ≠ gb267) := ⟨h9_⟩
  have n10_ : A_ (gb268 ≠ gb273) := ⟨h10_⟩
  have n11_ : A_ (gb273 ≠ gb268) := ⟨h11_⟩
  have n12_ : A_ (Below w.heap.size w w12) := ⟨h12_⟩
  clear BK266
  clear BK267
  clear BK268
  clear HB
  clear h0_ h1_ h2_ h3_ h4_ h5_ h6_ h7_ h8_ h9_ h10_ h11_ h12_
  have BK266 := n0_
  have BK267 := n1_
  have BK268 := n2_
  have BK273 := n3_
  have GW273 := n4_
  have GE273 := n5_
  have NB266_273 := n6_
  have NB273_266 := n7_
  have NB267_273 := n8_
  have NB273_267 := n9_
  have NB268_273 := n10_
  have NB273_268 := n11_
  have HB := n12_
  clear n0_ n1_ n2_ n3_ n4_ n5_ n6_ n7_ n8_ n9_ n10_ n11_ n12_
  have hHeld : w12.cell? ⟨gb266, 0, none⟩ = some (.int .i64 a0_0) ∧ w12.cell? ⟨gb266, 1, none⟩ = some (.int .i64 a0_1) ∧ w12.cell? ⟨gb267, 0, none⟩ = some (.int .i64 a1_0) ∧ w12.cell? ⟨gb267, 1, none⟩ = some (.int .i64 a1_1) := hS_
  refine norm_ (a' := ?_) ?_ ?_
  rotate_left
  ·simp only [putAll, Act.put, sI_, s0_, s1_]
   rfl
  refine one_ (i := 11) (N := some 6) (m_ 14 4095) rfl rfl (one_of HT_.out (by kernel_rfl)) (by decide) (fun K hK => ?_)
  refine box_step ?hg (N := 6) ?hd (cs := #[.int .i64 0, .int .i64 0]) (t := 26) ?hr ?_; (case hd => rfl); (case hg => rfl); (case hr => (go_simp; done))
  intro gb274 hg w13 hbox hb
  have BK274 := A_.mk (hbox)
  have GW274 := A_.mk ((by rw [hg]; exact (below_size HB.out) : w.heap.size ≤ gb274))
  have GE274 := A_.mk ((by rw [hg]; exact (below_size HB.out) : w.heap.size ≤ gb274))
  replace HB := A_.mk (below_step HB.out hb)
  have NB266_274 := A_.mk ((by rw [hg]; exact Nat.ne_of_lt (blk_lt BK266.out) : gb266 ≠ gb274))
  have NB274_266 := A_.mk ((by rw [hg]; exact Nat.ne_of_gt (blk_lt BK266.out) : gb274 ≠ gb266))
  replace BK266 := A_.mk (blk_below BK266.out hb)
  have NB267_274 := A_.mk ((by rw [hg]; exact Nat.ne_of_lt (blk_lt BK267.out) : gb267 ≠ gb274))
  have NB274_267 := A_.mk ((by rw [hg]; exact Nat.ne_of_gt (blk_lt BK267.out) : gb274 ≠ gb267))
  replace BK267 := A_.mk (blk_below BK267.out hb)
  have NB268_274 := A_.mk ((by rw [hg]; exact Nat.ne_of_lt (blk_lt BK268.out) : gb268 ≠ gb274))
  have NB274_268 := A_.mk ((by rw [hg]; exact Nat.ne_of_gt (blk_lt BK268.out) : gb274 ≠ gb268))
  replace BK268 := A_.mk (blk_below BK268.out hb)
  have NB273_274 := A_.mk ((by rw [hg]; exact Nat.ne_of_lt (blk_lt BK273.out) : gb273 ≠ gb274))
  have NB274_273 := A_.mk ((by rw [hg]; exact Nat.ne_of_gt (blk_lt BK273.out) : gb274 ≠ gb273))
  replace BK273 := A_.mk (blk_below BK273.out hb)
  clear hb hbox hg
  refine hK.out _ _ ⟨(blk_cell BK266.out 0).trans rfl, (blk_cell BK266.out 1).trans rfl, (blk_cell BK267.out 0).trans rfl, (blk_cell BK267.out 1).trans rfl⟩ (fun hHeld => ?_)
  clear hK K
  exact norm_ (by simp only [putAll, Act.put, sI_, s0_, s1_]; try rfl) (hJ4_9_10_11 (gb273, gb274) _ ⟨hHeld, BK266.out, BK267.out, BK268.out, BK273.out, BK274.out, GW273.out, GE273.out, NB266_273.out, NB273_266.out, NB267_273.out, NB273_267.out, NB268_273.out, NB273_268.out, NB274_273.out, NB273_274.out, GW274.out, GE274.out, NB266_274.out, NB274_266.out, NB267_274.out, NB274_267.out, NB268_274.out, NB274_268.out, HB.out⟩)
 rintro ⟨gb273, gb274⟩ w13 ⟨hS_, h0_, h1_, h2_, h3_, h4_, h5_, h6_, h7_, h8_, h9_, h10_, h11_, h12_, h13_, h14_, h15_, h16_, h17_, h18_, h19_, h20_, h21_, h22_, h23_⟩
 have n0_ : A_ (w13.heap[gb266]? = some (.cells #[.int .i64 a0_0, .int .i64 a0_1] 26 (0, 0))) := ⟨h0_⟩
 have n1_ : A_ (w13.heap[gb267]? = some (.cells #[.int .i64 a1_0, .int .i64 a1_1] 26 (0, 0))) := ⟨h1_⟩
 have n2_ : A_ (w13.heap[gb268]? = some (.cells #[.int .i64 0, .int .i64 0] 26 (0, 0))) := ⟨h2_⟩
 have n3_ : A_ (w13.heap[gb273]? = some (.cells #[.int .i64 0, .int .i64 0] 26 (0, 0))) := ⟨h3_⟩
 have n4_ : A_ (w13.heap[gb274]? = some (.cells #[.int .i64 0, .int .i64 0] 26 (0, 0))) := ⟨h4_⟩
 have n5_ : A_ (w.heap.size ≤ gb273) := ⟨h5_⟩
 have n6_ : A_ (w.heap.size ≤ gb273) := ⟨h6_⟩
 have n7_ : A_ (gb266 ≠ gb273) := ⟨h7_⟩
 have n8_ : A_ (gb273 ≠ gb266) := ⟨h8_⟩
 have n9_ : A_ (gb267 ≠ gb273) := ⟨h9_⟩
 have n10_ : A_ (gb273 ≠ gb267) := ⟨h10_⟩
 have n11_ : A_ (gb268 ≠ gb273) := ⟨h11_⟩
 have n12_ : A_ (gb273 ≠ gb268) := ⟨h12_⟩
 have n13_ : A_ (gb274 ≠ gb273) := ⟨h13_⟩
 have n14_ : A_ (gb273 ≠ gb274) := ⟨h14_⟩
 have n15_ : A_ (w.heap.size ≤ gb274) := ⟨h15_⟩
 have n16_ : A_ (w.heap.size ≤ gb274) := ⟨h16_⟩
 have n17_ : A_ (gb266 ≠ gb274) := ⟨h17_⟩
 have n18_ : A_ (gb274 ≠ gb266) := ⟨h18_⟩
 have n19_ : A_ (gb267 ≠ gb274) := ⟨h19_⟩
 have n20_ : A_ (gb274 ≠ gb267) := ⟨h20_⟩
 have n21_ : A_ (gb268 ≠ gb274) := ⟨h21_⟩
 have n22_ : A_ (gb274 ≠ gb268) := ⟨h22_⟩
 have n23_ : A_ (Below w.heap.size w w13) := ⟨h23_⟩
 clear BK266
 clear BK267
 clear BK268
 clear HB
 clear h0_ h1_ h2_ h3_ h4_ h5_ h6_ h7_ h8_ h9_ h10_ h11_ h12_ h13_ h14_ h15_ h16_ h17_ h18_ h19_ h20_ h21_ h22_ h23_
 have BK266 := n0_
 have BK267 := n1_
 have BK268 := n2_
 have BK273 := n3_
 have BK274 := n4_
 have GW273 := n5_
 have GE273 := n6_
 have NB266_273 := n7_
 have NB273_266 := n8_
 have NB267_273 := n9_
 have NB273_267 := n10_
 have NB268_273 := n11_
 have NB273_268 := n12_
 have NB274_273 := n13_
 have NB273_274 := n14_
 have GW274 := n15_
 have GE274 := n16_
 have NB266_274 := n17_
 have NB274_266 := n18_
 have NB267_274 := n19_
 have NB274_267 := n20_
 have NB268_274 := n21_
 have NB274_268 := n22_
 have HB := n23_
 clear n0_ n1_ n2_ n3_ n4_ n5_ n6_ n7_ n8_ n9_ n10_ n11_ n12_ n13_ n14_ n15_ n16_ n17_ n18_ n19_ n20_ n21_ n22_ n23_
 have hHeld : w13.cell? ⟨gb266, 0, none⟩ = some (.int .i64 a0_0) ∧ w13.cell? ⟨gb266, 1, none⟩ = some (.int .i64 a0_1) ∧ w13.cell? ⟨gb267, 0, none⟩ = some (.int .i64 a1_0) ∧ w13.cell? ⟨gb267, 1, none⟩ = some (.int .i64 a1_1) := hS_
 refine norm_ (a' := ?_) ?_ ?_
 rotate_left
 ·simp only [putAll, Act.put, sI_, s0_, s1_]
  rfl
 refine one_ (i := 12) (N := none) (m_ 14 8191) rfl rfl (one_of HT_.out (by kernel_rfl)) (by decide) (fun K hK => ?_)
 have hs14 : w13.cell? ⟨gb273, 0, none⟩ = some (.int .i64 0) := (blk_cell BK273.out 0).trans rfl
 have hfs14 := blk_frozen BK273.out 0
 have hns14_0 := NB266_273.out
 have hns14_1 := NB267_273.out
 have hns14_2 := NB268_273.out
 have hns14_4 := NB274_273.out
 have hms14_0 := NB273_266.out
 have hms14_1 := NB273_267.out
 have hms14_2 := NB273_268.out
 have hms14_4 := NB273_274.out
 have hs15 : w13.cell? ⟨gb273, 1, none⟩ = some (.int .i64 0) := (blk_cell BK273.out 1).trans rfl
 have hfs15 := blk_frozen BK273.out 1
 have hns15_0 := NB266_273.out
 have hns15_1 := NB267_273.out
 have hns15_2 := NB268_273.out
 have hns15_4 := NB274_273.out
 have hms15_0 := NB273_266.out
 have hms15_1 := NB273_267.out
 have hms15_2 := NB273_268.out
 have hms15_4 := NB273_274.out
 refine skip_ (w1 := ?_) (by rfl) rfl ?_ ?_
 rotate_left
 ·go_simp
  rfl
 refine hK.out _ _ ⟨((cell_far (p := ⟨gb273, _, none⟩) NB266_273.out _).trans (((cell_far (p := ⟨gb273, _, none⟩) NB266_273.out _).trans (hHeld.1)))), ((cell_far (p := ⟨gb273, _, none⟩) NB266_273.out _).trans (((cell_far (p := ⟨gb273, _, none⟩) NB266_273.out _).trans (hHeld.2.1)))), ((cell_far (p := ⟨gb273, _, none⟩) NB267_273.out _).trans (((cell_far (p := ⟨gb273, _, none⟩) NB267_273.out _).trans (hHeld.2.2.1)))), ((cell_far (p := ⟨gb273, _, none⟩) NB267_273.out _).trans (((cell_far (p := ⟨gb273, _, none⟩) NB267_273.out _).trans (hHeld.2.2.2))))⟩ (fun hHeld => ?_)
 clear hK K
 refine one_ (i := 13) (N := none) (m_ 14 16383) rfl rfl (one_of HT_.out (by kernel_rfl)) (by decide) (fun K hK => ?_)
 have hs16 : w13.cell? ⟨gb274, 0, none⟩ = some (.int .i64 0) := (blk_cell BK274.out 0).trans rfl
 have hfs16 := blk_frozen BK274.out 0
 have hns16_0 := NB266_274.out
 have hns16_1 := NB267_274.out
 have hns16_2 := NB268_274.out
 have hns16_3 := NB273_274.out
 have hms16_0 := NB274_266.out
 have hms16_1 := NB274_267.out
 have hms16_2 := NB274_268.out
 have hms16_3 := NB274_273.out
 have hs17 : w13.cell? ⟨gb274, 1, none⟩ = some (.int .i64 0) := (blk_cell BK274.out 1).trans rfl
 have hfs17 := blk_frozen BK274.out 1
 have hns17_0 := NB266_274.out
 have hns17_1 := NB267_274.out
 have hns17_2 := NB268_274.out
 have hns17_3 := NB273_274.out
 have hms17_0 := NB274_266.out
 have hms17_1 := NB274_267.out
 have hms17_2 := NB274_268.out
 have hms17_3 := NB274_273.out
 refine skip_ (w1 := ?_) (by rfl) rfl ?_ ?_
 rotate_left
 ·go_simp
  rfl
 refine hK.out _ _ ⟨((cell_far (p := ⟨gb274, _, none⟩) NB266_274.out _).trans (((cell_far (p := ⟨gb274, _, none⟩) NB266_274.out _).trans (hHeld.1)))), ((cell_far (p := ⟨gb274, _, none⟩) NB266_274.out _).trans (((cell_far (p := ⟨gb274, _, none⟩) NB266_274.out _).trans (hHeld.2.1)))), ((cell_far (p := ⟨gb274, _, none⟩) NB267_274.out _).trans (((cell_far (p := ⟨gb274, _, none⟩) NB267_274.out _).trans (hHeld.2.2.1)))), ((cell_far (p := ⟨gb274, _, none⟩) NB267_274.out _).trans (((cell_far (p := ⟨gb274, _, none⟩) NB267_274.out _).trans (hHeld.2.2.2))))⟩ (fun hHeld => ?_)
 clear hK K
 refine done_ (done_of HT_.out (by kernel_rfl)) ?_
 have hnb18 := NB273_266.out
 have hnc18 := NB266_273.out
 have hnb19 := NB273_267.out
 have hnc19 := NB267_273.out
 have hnb20 := NB273_268.out
 have hnc20 := NB268_273.out
 have hnb21 := NB273_274.out
 have hnc21 := NB274_273.out
 have hcz22_0 : w13.cell? ⟨gb273, 0, none⟩ = some (.int .i64 0) := (blk_cell BK273.out 0).trans rfl
 have hcz22_1 : w13.cell? ⟨gb273, 1, none⟩ = some (.int .i64 0) := (blk_cell BK273.out 1).trans rfl
 have hfz22_0 := blk_frozen BK273.out 0
 have hfz22_1 := blk_frozen BK273.out 1
 have hnb23 := NB274_266.out
 have hnc23 := NB266_274.out
 have hnb24 := NB274_267.out
 have hnc24 := NB267_274.out
 have hnb25 := NB274_268.out
 have hnc25 := NB268_274.out
 have hcz26_0 : w13.cell? ⟨gb274, 0, none⟩ = some (.int .i64 0) := (blk_cell BK274.out 0).trans rfl
 have hcz26_1 : w13.cell? ⟨gb274, 1, none⟩ = some (.int .i64 0) := (blk_cell BK274.out 1).trans rfl
 have hfz26_0 := blk_frozen BK274.out 0
 have hfz26_1 := blk_frozen BK274.out 1
 have hnb27 := NB268_266.out
 have hnc27 := NB266_268.out
 have hnb28 := NB268_267.out
 have hnc28 := NB267_268.out
 have hcz29_0 : w13.cell? ⟨gb268, 0, none⟩ = some (.int .i64 0) := (blk_cell BK268.out 0).trans rfl
 have hcz29_1 : w13.cell? ⟨gb268, 1, none⟩ = some (.int .i64 0) := (blk_cell BK268.out 1).trans rfl
 have hfz29_0 := blk_frozen BK268.out 0
 have hfz29_1 := blk_frozen BK268.out 1
 try go_wp2
 refine bodyPost_ret (results_cell_row rfl _ _ gb268 26 #[.int .i64 (wrap64 (t269 * t271)), .int .i64 (wrap64 (t270 * t272))] (0, 0) _ rfl (by (with_reducible repeat (refine blk_drewN ?_ _)); refine blk_put (cs := #[.int .i64 (wrap64 (t269 * t271)), .int .i64 0]) ?_ 1 _ rfl; (with_reducible repeat (refine blk_drewN ?_ _)); refine blk_put (cs := #[.int .i64 0, .int .i64 0]) ?_ 0 _ rfl; (with_reducible repeat (refine blk_drewN ?_ _)); refine blk_far ?_ NB268_274.out _; (with_reducible repeat (refine blk_drewN ?_ _)); refine blk_far ?_ NB268_274.out _; (with_reducible repeat (refine blk_drewN ?_ _)); refine blk_far ?_ NB268_273.out _; (with_reducible repeat (refine blk_drewN ?_ _)); refine blk_far ?_ NB268_273.out _; (with_reducible repeat (refine blk_drewN ?_ _)); exact BK268.out) Tryd.underlying26 rfl (by kernel_rfl)) rfl ?_
 exact ⟨by rfl, by repeat ((with_reducible first | exact HB.out | refine below_set ?_ GE268.out | refine below_set ?_ GE273.out | refine below_set ?_ GE274.out))⟩

end Go.Proofs.YtihifglmnjocfaaDoor.PFnExactSeatChance
