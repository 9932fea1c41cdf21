/- Given functions as plain Lean functions, and that their calls answer these. -/
import Derived.Test.YtihifglmnjocfaaDoorPFnExactChanceOfFinalx0
import Derived.Test.YtihifglmnjocfaaDoorPFnExactChanceOfFinalx7
namespace Go.Proofs.YtihifglmnjocfaaDoor.PFnExactChanceOfFinal
open Go.RowKit Go.Proofs.YtihifglmnjocfaaDoorW.PrintWords Go.Proofs.YtihifglmnjocfaaDoorW.PrintLast Go.Proofs.YtihifglmnjocfaaDoorW.PrintMore
attribute [local go_sem] max2_int min2_int max_two min_two max_three min_three max_four min_four
set_option maxHeartbeats 8000000
set_option maxRecDepth 100000
set_option linter.unusedVariables false
set_option linter.unusedSimpArgs false

theorem joinX8_ {P : Program} {md : Region.Mode} {ops : Array Oper} {Q : Exit → Act → World → Prop} {S : World → Prop} {ds : List Nat} {σ : Type} {fuel : Nat} {l : Array Bool} {a : Act} {w : World} (fuel' : Nat) (l' : Array Bool) (ns : σ → List (Tmp × Value)) (F : σ → World → Prop)
    (h : (∀ s w', F s w' → wpAnyLast P md ops Q S ds fuel' l' (putAll a (ns s)) w') → wpAnyLast P md ops Q S ds fuel l a w)
    (hcont : ∀ s w', F s w' → wpAnyLast P md ops Q S ds fuel' l' (putAll a (ns s)) w') : wpAnyLast P md ops Q S ds fuel l a w := join_ fuel' l' ns F hcont h
/-! ### spec_l2Times: function 55 -/
def spec_l2Times.f (k : Nat) (a0_0 : Int) (a0_1 : Int) (a1_0 : Int) (a1_1 : Int) : Option (Int × Int) := (spec_l2Cut.f k a0_0 a1_1).bind fun bt265 => ((spec_l2Cut.f k a1_0 a0_1).bind fun bt267 => (some (wrap64 (bt265.1 * bt267.1), wrap64 (bt265.2 * bt267.2))))
theorem spec_l2Times.mono : ∀ a0 a1 a2 a3 k, LeO (spec_l2Times.f k a0 a1 a2 a3) (spec_l2Times.f (k + 1) a0 a1 a2 a3) := by
 intro a0 a1 a2 a3 k
 unfold spec_l2Times.f
 repeat' first
   | (with_reducible exact spec_l2Cut.mono _ _ _)
   | (with_reducible exact LeO.refl _)
   | (with_reducible exact LeO.none _)
   | (with_reducible refine LeO.ite ?_ ?_)
   | (with_reducible refine LeO.bind ?_ (fun _ => ?_))
   | exact spec_l2Cut.mono _ _ _
   | exact LeO.none _
   | refine LeO.ite ?_ ?_
   | refine LeO.bind ?_ (fun _ => ?_)
def spec_l2Times.T1 : Bool × List (List Nat × List Nat) := (true, [([], []), ([0], [0]), ([], []), ([2], [2]), ([1, 3], [1, 3]), ([], []), ([5], [5]), ([], []), ([7], [7]), ([6, 8, 4], [6, 8]), ([], []), ([], []), ([10, 4, 9, 0, 1, 2, 3, 4, 10, 11], [4, 10]), ([11, 9, 12, 0, 1, 2, 3, 4, 5, 6, 7, 8, 9, 10, 11, 12], [9, 11])])
def spec_l2Times.B1 : List Nat := [0, 1, 0, 4, 15, 0, 32, 0, 128, 511, 0, 0, 4095, 8191]
theorem spec_l2Times.tab1 : rtab .any (opsOf Tryd.f55 1) = spec_l2Times.T1 := by kernel_rfl
theorem spec_l2Times.bits1 : waitsOk spec_l2Times.T1.2 spec_l2Times.B1 = true := by kernel_rfl
theorem spec_l2Times.calls (k : Nat) (a0_0 : Int) (a0_1 : Int) (a1_0 : Int) (a1_1 : Int) (r1 : Int) (r2 : Int) (w : World) (h : spec_l2Times.f k a0_0 a0_1 a1_0 a1_1 = some (r1, r2)) :
  Calls Tryd.prog 55 #[.agg #[.int .i64 a0_0, .int .i64 a0_1], .agg #[.int .i64 a1_0, .int .i64 a1_1]] w fun e w' => e = .returned (.agg #[.int .i64 r1, .int .i64 r2]) ∧ Below w.heap.size w w' := by
 have hu26 := Tryd.underlying26
 have HB := A_.mk (Below.refl w.heap.size w)
 have H : ((spec_l2Cut.f k a0_0 a1_1).bind fun bt265 => ((spec_l2Cut.f k a1_0 a0_1).bind fun bt267 => (some (wrap64 (bt265.1 * bt267.1), wrap64 (bt265.2 * bt267.2))))) = some (r1, r2) := h
 clear h
 replace H := Option.bind_eq_some_iff.mp H
 obtain ⟨⟨t265, t266⟩, A30, H⟩ := H
 replace H : ((spec_l2Cut.f k a1_0 a0_1).bind fun bt267 => (some (wrap64 (t265 * bt267.1), wrap64 (t266 * bt267.2)))) = some (r1, r2) := H
 have A3 := A_.mk A30
 clear A30
 replace H := Option.bind_eq_some_iff.mp H
 obtain ⟨⟨t267, t268⟩, A40, H⟩ := H
 replace H : (some (wrap64 (t265 * t267), wrap64 (t266 * t268))) = some (r1, r2) := H
 have A4 := A_.mk A40
 clear A40
 simp only [Option.some.injEq, Prod.mk.injEq] at H
 obtain ⟨rfl, rfl⟩ := H
 go_enter Tryd.func55, Tryd.ntmps55
 try go_wp2_with (first | ((with_reducible refine gate_dst (N := 2) rfl ?_); refine box_event ?hg (N := 2) ?hd (cs := #[.int .i64 a0_0, .int .i64 a0_1]) (t := 26) ?hr ?_; (case hd => rfl); (case hg => rfl); (case hr => (go_simp; done)); intro gb262 hg w5 hbox hb; replace HB := A_.mk (below_step HB.out hb); have BK262 := A_.mk (hbox); clear hb hbox hg) | ((with_reducible refine gate_dst (N := 3) rfl ?_); refine box_event ?hg (N := 3) ?hd (cs := #[.int .i64 a1_0, .int .i64 a1_1]) (t := 26) ?hr ?_; (case hd => rfl); (case hg => rfl); (case hr => (go_simp; done)); intro gb263 hg w6 hbox hb; replace BK262 := A_.mk (blk_below BK262.out hb); replace HB := A_.mk (below_step HB.out hb); have BK263 := A_.mk (hbox); clear hb hbox hg) | ((with_reducible refine gate_dst (N := 4) rfl ?_); refine box_event ?hg (N := 4) ?hd (cs := #[.int .i64 0, .int .i64 0]) (t := 26) ?hr ?_; (case hd => rfl); (case hg => rfl); (case hr => (go_simp; done)); intro gb264 hg w7 hbox hb; have BK264 := A_.mk (hbox); have GE264 := A_.mk ((by rw [hg]; exact (below_size HB.out) : w.heap.size ≤ gb264)); replace HB := A_.mk (below_step HB.out hb); have NB262_264 := A_.mk ((by rw [hg]; exact Nat.ne_of_lt (blk_lt BK262.out) : gb262 ≠ gb264)); have NB264_262 := A_.mk ((by rw [hg]; exact Nat.ne_of_gt (blk_lt BK262.out) : gb264 ≠ gb262)); replace BK262 := A_.mk (blk_below BK262.out hb); have NB263_264 := A_.mk ((by rw [hg]; exact Nat.ne_of_lt (blk_lt BK263.out) : gb263 ≠ gb264)); have NB264_263 := A_.mk ((by rw [hg]; exact Nat.ne_of_gt (blk_lt BK263.out) : gb264 ≠ gb263)); replace BK263 := A_.mk (blk_below BK263.out hb); clear hb hbox hg))
 replace BK262 := A_.mk (blk_drew BK262.out)
 replace BK263 := A_.mk (blk_drew BK263.out)
 replace BK264 := A_.mk (blk_drew BK264.out)
 replace HB := A_.mk (below_drew1 HB.out)
 refine start_ (n := 14) (S := fun w' => w'.cell? ⟨gb262, 0, none⟩ = some (.int .i64 a0_0) ∧ w'.cell? ⟨gb262, 1, none⟩ = some (.int .i64 a0_1) ∧ w'.cell? ⟨gb263, 0, none⟩ = some (.int .i64 a1_0) ∧ w'.cell? ⟨gb263, 1, none⟩ = some (.int .i64 a1_1)) (ds := []) (m_ 14 0) (by kernel_rfl) rfl rfl ⟨(blk_cell BK262.out 0).trans rfl, (blk_cell BK262.out 1).trans rfl, (blk_cell BK263.out 0).trans rfl, (blk_cell BK263.out 1).trans rfl⟩ (fun hHeld => ?_); refine with_tabW spec_l2Times.tab1 spec_l2Times.bits1 (fun HT_ HW_ => ?_)
 generalize w7.drew = w8 at BK262 BK263 BK264 HB hHeld ⊢
 refine pure_ (i := 0) (N := some 7) (v := ?_) (a' := ?_) (m_ 14 1) rfl rfl (any_of HT_.out (by kernel_rfl)) (fun _ _ _ h => h) (Or.inl ⟨by rfl, ?_⟩) ?_ ?_
 rotate_left
 ·intro w'
  go_simp
  with_reducible rfl
 rotate_left
 ·simp only [Act.put, sI_, s0_, s1_, i64_w, i32_w]
  rfl
 refine pure_ (i := 2) (N := some 9) (v := ?_) (a' := ?_) (m_ 14 5) rfl rfl (any_of HT_.out (by kernel_rfl)) (fun _ _ _ h => h) (Or.inl ⟨by rfl, ?_⟩) ?_ ?_
 rotate_left
 ·intro w'
  go_simp
  with_reducible rfl
 rotate_left
 ·simp only [Act.put, sI_, s0_, s1_, i64_w, i32_w]
  rfl
 refine pure_ (i := 5) (N := some 12) (v := ?_) (a' := ?_) (m_ 14 37) rfl rfl (any_of HT_.out (by kernel_rfl)) (fun _ _ _ h => h) (Or.inl ⟨by rfl, ?_⟩) ?_ ?_
 rotate_left
 ·intro w'
  go_simp
  with_reducible rfl
 rotate_left
 ·simp only [Act.put, sI_, s0_, s1_, i64_w, i32_w]
  rfl
 refine pure_ (i := 7) (N := some 14) (v := ?_) (a' := ?_) (m_ 14 165) rfl rfl (any_of HT_.out (by kernel_rfl)) (fun _ _ _ h => h) (Or.inl ⟨by rfl, ?_⟩) ?_ ?_
 rotate_left
 ·intro w'
  go_simp
  with_reducible rfl
 rotate_left
 ·simp only [Act.put, sI_, s0_, s1_, i64_w, i32_w]
  rfl
 refine take_ (i := 1) (N := some 8) (v := ?_) (a' := ?_) (m_ 14 167) rfl rfl (take_ofW HT_.out HW_.out (by kernel_rfl)) (fun _ _ _ h => h) (Or.inl ⟨by rfl, ?_⟩) hHeld ?_ ?_
 rotate_left
 ·rintro w' ⟨s0, s1, s2, s3⟩
  go_simp
  with_reducible rfl
 rotate_left
 ·simp only [Act.put, sI_, s0_, s1_, i64_w, i32_w]
  rfl
 refine take_ (i := 3) (N := some 10) (v := ?_) (a' := ?_) (m_ 14 175) rfl rfl (take_ofW HT_.out HW_.out (by kernel_rfl)) (fun _ _ _ h => h) (Or.inl ⟨by rfl, ?_⟩) hHeld ?_ ?_
 rotate_left
 ·rintro w' ⟨s0, s1, s2, s3⟩
  go_simp
  with_reducible rfl
 rotate_left
 ·simp only [Act.put, sI_, s0_, s1_, i64_w, i32_w]
  rfl
 refine take_ (i := 6) (N := some 13) (v := ?_) (a' := ?_) (m_ 14 239) rfl rfl (take_ofW HT_.out HW_.out (by kernel_rfl)) (fun _ _ _ h => h) (Or.inl ⟨by rfl, ?_⟩) hHeld ?_ ?_
 rotate_left
 ·rintro w' ⟨s0, s1, s2, s3⟩
  go_simp
  with_reducible rfl
 rotate_left
 ·simp only [Act.put, sI_, s0_, s1_, i64_w, i32_w]
  rfl
 refine take_ (i := 8) (N := some 15) (v := ?_) (a' := ?_) (m_ 14 495) rfl rfl (take_ofW HT_.out HW_.out (by kernel_rfl)) (fun _ _ _ h => h) (Or.inl ⟨by rfl, ?_⟩) hHeld ?_ ?_
 rotate_left
 ·rintro w' ⟨s0, s1, s2, s3⟩
  go_simp
  with_reducible rfl
 rotate_left
 ·simp only [Act.put, sI_, s0_, s1_, i64_w, i32_w]
  rfl
 refine joinX8_ (σ := Nat × Nat) 2 (m_ 14 4095) (fun s_ => [(11, .agg #[.int .i64 t265, .int .i64 t266]), (16, .agg #[.int .i64 t267, .int .i64 t268]), (5, .pointer (some ⟨s_.1, 0, none⟩)), (6, .pointer (some ⟨s_.2, 0, none⟩))]) (fun s_ w' => (w'.cell? ⟨gb262, 0, none⟩ = some (.int .i64 a0_0) ∧ w'.cell? ⟨gb262, 1, none⟩ = some (.int .i64 a0_1) ∧ w'.cell? ⟨gb263, 0, none⟩ = some (.int .i64 a1_0) ∧ w'.cell? ⟨gb263, 1, none⟩ = some (.int .i64 a1_1)) ∧ (w'.heap[gb262]? = some (.cells #[.int .i64 a0_0, .int .i64 a0_1] 26 (0, 0))) ∧ (w'.heap[gb263]? = some (.cells #[.int .i64 a1_0, .int .i64 a1_1] 26 (0, 0))) ∧ (w'.heap[gb264]? = some (.cells #[.int .i64 0, .int .i64 0] 26 (0, 0))) ∧ (w'.heap[s_.1]? = some (.cells #[.int .i64 0, .int .i64 0] 26 (0, 0))) ∧ (w'.heap[s_.2]? = some (.cells #[.int .i64 0, .int .i64 0] 26 (0, 0))) ∧ (w.heap.size ≤ s_.1) ∧ (w.heap.size ≤ s_.1) ∧ (gb262 ≠ s_.1) ∧ (s_.1 ≠ gb262) ∧ (gb263 ≠ s_.1) ∧ (s_.1 ≠ gb263) ∧ (gb264 ≠ s_.1) ∧ (s_.1 ≠ gb264) ∧ (s_.2 ≠ s_.1) ∧ (s_.1 ≠ s_.2) ∧ (w.heap.size ≤ s_.2) ∧ (w.heap.size ≤ s_.2) ∧ (gb262 ≠ s_.2) ∧ (s_.2 ≠ gb262) ∧ (gb263 ≠ s_.2) ∧ (s_.2 ≠ gb263) ∧ (gb264 ≠ s_.2) ∧ (s_.2 ≠ gb264) ∧ (Below w.heap.size w w')) ?_ ?_
 intro hJ4_9_10_11
 refine joinX8_ (σ := Nat) 3 (m_ 14 2047) (fun s_ => [(11, .agg #[.int .i64 t265, .int .i64 t266]), (16, .agg #[.int .i64 t267, .int .i64 t268]), (5, .pointer (some ⟨s_, 0, none⟩))]) (fun s_ w' => (w'.cell? ⟨gb262, 0, none⟩ = some (.int .i64 a0_0) ∧ w'.cell? ⟨gb262, 1, none⟩ = some (.int .i64 a0_1) ∧ w'.cell? ⟨gb263, 0, none⟩ = some (.int .i64 a1_0) ∧ w'.cell? ⟨gb263, 1, none⟩ = some (.int .i64 a1_1)) ∧ (w'.heap[gb262]? = some (.cells #[.int .i64 a0_0, .int .i64 a0_1] 26 (0, 0))) ∧ (w'.heap[gb263]? = some (.cells #[.int .i64 a1_0, .int .i64 a1_1] 26 (0, 0))) ∧ (w'.heap[gb264]? = some (.cells #[.int .i64 0, .int .i64 0] 26 (0, 0))) ∧ (w'.heap[s_]? = some (.cells #[.int .i64 0, .int .i64 0] 26 (0, 0))) ∧ (w.heap.size ≤ s_) ∧ (w.heap.size ≤ s_) ∧ (gb262 ≠ s_) ∧ (s_ ≠ gb262) ∧ (gb263 ≠ s_) ∧ (s_ ≠ gb263) ∧ (gb264 ≠ s_) ∧ (s_ ≠ gb264) ∧ (Below w.heap.size w w')) ?_ ?_
 intro hJ4_9_10
 refine joinX8_ (σ := Nat) 3 (m_ 14 3071) (fun s_ => [(11, .agg #[.int .i64 t265, .int .i64 t266]), (16, .agg #[.int .i64 t267, .int .i64 t268]), (6, .pointer (some ⟨s_, 0, none⟩))]) (fun s_ w' => (w'.cell? ⟨gb262, 0, none⟩ = some (.int .i64 a0_0) ∧ w'.cell? ⟨gb262, 1, none⟩ = some (.int .i64 a0_1) ∧ w'.cell? ⟨gb263, 0, none⟩ = some (.int .i64 a1_0) ∧ w'.cell? ⟨gb263, 1, none⟩ = some (.int .i64 a1_1)) ∧ (w'.heap[gb262]? = some (.cells #[.int .i64 a0_0, .int .i64 a0_1] 26 (0, 0))) ∧ (w'.heap[gb263]? = some (.cells #[.int .i64 a1_0, .int .i64 a1_1] 26 (0, 0))) ∧ (w'.heap[gb264]? = some (.cells #[.int .i64 0, .int .i64 0] 26 (0, 0))) ∧ (w'.heap[s_]? = some (.cells #[.int .i64 0, .int .i64 0] 26 (0, 0))) ∧ (w.heap.size ≤ s_) ∧ (w.heap.size ≤ s_) ∧ (gb262 ≠ s_) ∧ (s_ ≠ gb262) ∧ (gb263 ≠ s_) ∧ (s_ ≠ gb263) ∧ (gb264 ≠ s_) ∧ (s_ ≠ gb264) ∧ (Below w.heap.size w w')) ?_ ?_
 intro hJ4_9_11
 refine joinX8_ (σ := Nat × Nat) 3 (m_ 14 3583) (fun s_ => [(11, .agg #[.int .i64 t265, .int .i64 t266]), (5, .pointer (some ⟨s_.1, 0, none⟩)), (6, .pointer (some ⟨s_.2, 0, none⟩))]) (fun s_ w' => (w'.cell? ⟨gb262, 0, none⟩ = some (.int .i64 a0_0) ∧ w'.cell? ⟨gb262, 1, none⟩ = some (.int .i64 a0_1) ∧ w'.cell? ⟨gb263, 0, none⟩ = some (.int .i64 a1_0) ∧ w'.cell? ⟨gb263, 1, none⟩ = some (.int .i64 a1_1)) ∧ (w'.heap[gb262]? = some (.cells #[.int .i64 a0_0, .int .i64 a0_1] 26 (0, 0))) ∧ (w'.heap[gb263]? = some (.cells #[.int .i64 a1_0, .int .i64 a1_1] 26 (0, 0))) ∧ (w'.heap[gb264]? = some (.cells #[.int .i64 0, .int .i64 0] 26 (0, 0))) ∧ (w'.heap[s_.1]? = some (.cells #[.int .i64 0, .int .i64 0] 26 (0, 0))) ∧ (w'.heap[s_.2]? = some (.cells #[.int .i64 0, .int .i64 0] 26 (0, 0))) ∧ (w.heap.size ≤ s_.1) ∧ (w.heap.size ≤ s_.1) ∧ (gb262 ≠ s_.1) ∧ (s_.1 ≠ gb262) ∧ (gb263 ≠ s_.1) ∧ (s_.1 ≠ gb263) ∧ (gb264 ≠ s_.1) ∧ (s_.1 ≠ gb264) ∧ (s_.2 ≠ s_.1) ∧ (s_.1 ≠ s_.2) ∧ (w.heap.size ≤ s_.2) ∧ (w.heap.size ≤ s_.2) ∧ (gb262 ≠ s_.2) ∧ (s_.2 ≠ gb262) ∧ (gb263 ≠ s_.2) ∧ (s_.2 ≠ gb263) ∧ (gb264 ≠ s_.2) ∧ (s_.2 ≠ gb264) ∧ (Below w.heap.size w w')) ?_ ?_
 intro hJ4_10_11
 refine joinX8_ (σ := Unit) 4 (m_ 14 1023) (fun s_ => [(11, .agg #[.int .i64 t265, .int .i64 t266]), (16, .agg #[.int .i64 t267, .int .i64 t268])]) (fun s_ w' => (w'.cell? ⟨gb262, 0, none⟩ = some (.int .i64 a0_0) ∧ w'.cell? ⟨gb262, 1, none⟩ = some (.int .i64 a0_1) ∧ w'.cell? ⟨gb263, 0, none⟩ = some (.int .i64 a1_0) ∧ w'.cell? ⟨gb263, 1, none⟩ = some (.int .i64 a1_1)) ∧ (w'.heap[gb262]? = some (.cells #[.int .i64 a0_0, .int .i64 a0_1] 26 (0, 0))) ∧ (w'.heap[gb263]? = some (.cells #[.int .i64 a1_0, .int .i64 a1_1] 26 (0, 0))) ∧ (w'.heap[gb264]? = some (.cells #[.int .i64 0, .int .i64 0] 26 (0, 0))) ∧ (Below w.heap.size w w')) ?_ ?_
 intro hJ4_9
 refine joinX8_ (σ := Nat) 4 (m_ 14 1535) (fun s_ => [(11, .agg #[.int .i64 t265, .int .i64 t266]), (5, .pointer (some ⟨s_, 0, none⟩))]) (fun s_ w' => (w'.cell? ⟨gb262, 0, none⟩ = some (.int .i64 a0_0) ∧ w'.cell? ⟨gb262, 1, none⟩ = some (.int .i64 a0_1) ∧ w'.cell? ⟨gb263, 0, none⟩ = some (.int .i64 a1_0) ∧ w'.cell? ⟨gb263, 1, none⟩ = some (.int .i64 a1_1)) ∧ (w'.heap[gb262]? = some (.cells #[.int .i64 a0_0, .int .i64 a0_1] 26 (0, 0))) ∧ (w'.heap[gb263]? = some (.cells #[.int .i64 a1_0, .int .i64 a1_1] 26 (0, 0))) ∧ (w'.heap[gb264]? = some (.cells #[.int .i64 0, .int .i64 0] 26 (0, 0))) ∧ (w'.heap[s_]? = some (.cells #[.int .i64 0, .int .i64 0] 26 (0, 0))) ∧ (w.heap.size ≤ s_) ∧ (w.heap.size ≤ s_) ∧ (gb262 ≠ s_) ∧ (s_ ≠ gb262) ∧ (gb263 ≠ s_) ∧ (s_ ≠ gb263) ∧ (gb264 ≠ s_) ∧ (s_ ≠ gb264) ∧ (Below w.heap.size w w')) ?_ ?_
 intro hJ4_10
 refine joinX8_ (σ := Nat) 4 (m_ 14 2559) (fun s_ => [(11, .agg #[.int .i64 t265, .int .i64 t266]), (6, .pointer (some ⟨s_, 0, none⟩))]) (fun s_ w' => (w'.cell? ⟨gb262, 0, none⟩ = some (.int .i64 a0_0) ∧ w'.cell? ⟨gb262, 1, none⟩ = some (.int .i64 a0_1) ∧ w'.cell? ⟨gb263, 0, none⟩ = some (.int .i64 a1_0) ∧ w'.cell? ⟨gb263, 1, none⟩ = some (.int .i64 a1_1)) ∧ (w'.heap[gb262]? = some (.cells #[.int .i64 a0_0, .int .i64 a0_1] 26 (0, 0))) ∧ (w'.heap[gb263]? = some (.cells #[.int .i64 a1_0, .int .i64 a1_1] 26 (0, 0))) ∧ (w'.heap[gb264]? = some (.cells #[.int .i64 0, .int .i64 0] 26 (0, 0))) ∧ (w'.heap[s_]? = some (.cells #[.int .i64 0, .int .i64 0] 26 (0, 0))) ∧ (w.heap.size ≤ s_) ∧ (w.heap.size ≤ s_) ∧ (gb262 ≠ s_) ∧ (s_ ≠ gb262) ∧ (gb263 ≠ s_) ∧ (s_ ≠ gb263) ∧ (gb264 ≠ s_) ∧ (s_ ≠ gb264) ∧ (Below w.heap.size w w')) ?_ ?_
 intro hJ4_11
 refine joinX8_ (σ := Nat × Nat) 4 (m_ 14 3567) (fun s_ => [(5, .pointer (some ⟨s_.1, 0, none⟩)), (6, .pointer (some ⟨s_.2, 0, none⟩))]) (fun s_ w' => (w'.cell? ⟨gb262, 0, none⟩ = some (.int .i64 a0_0) ∧ w'.cell? ⟨gb262, 1, none⟩ = some (.int .i64 a0_1) ∧ w'.cell? ⟨gb263, 0, none⟩ = some (.int .i64 a1_0) ∧ w'.cell? ⟨gb263, 1, none⟩ = some (.int .i64 a1_1)) ∧ (w'.heap[gb262]? = some (.cells #[.int .i64 a0_0, .int .i64 a0_1] 26 (0, 0))) ∧ (w'.heap[gb263]? = some (.cells #[.int .i64 a1_0, .int .i64 a1_1] 26 (0, 0))) ∧ (w'.heap[gb264]? = some (.cells #[.int .i64 0, .int .i64 0] 26 (0, 0))) ∧ (w'.heap[s_.1]? = some (.cells #[.int .i64 0, .int .i64 0] 26 (0, 0))) ∧ (w'.heap[s_.2]? = some (.cells #[.int .i64 0, .int .i64 0] 26 (0, 0))) ∧ (w.heap.size ≤ s_.1) ∧ (w.heap.size ≤ s_.1) ∧ (gb262 ≠ s_.1) ∧ (s_.1 ≠ gb262) ∧ (gb263 ≠ s_.1) ∧ (s_.1 ≠ gb263) ∧ (gb264 ≠ s_.1) ∧ (s_.1 ≠ gb264) ∧ (s_.2 ≠ s_.1) ∧ (s_.1 ≠ s_.2) ∧ (w.heap.size ≤ s_.2) ∧ (w.heap.size ≤ s_.2) ∧ (gb262 ≠ s_.2) ∧ (s_.2 ≠ gb262) ∧ (gb263 ≠ s_.2) ∧ (s_.2 ≠ gb263) ∧ (gb264 ≠ s_.2) ∧ (s_.2 ≠ gb264) ∧ (Below w.heap.size w w')) ?_ ?_
 intro hJ10_11
 refine joinX8_ (σ := Unit) 5 (m_ 14 511) (fun s_ => [(11, .agg #[.int .i64 t265, .int .i64 t266])]) (fun s_ w' => (w'.cell? ⟨gb262, 0, none⟩ = some (.int .i64 a0_0) ∧ w'.cell? ⟨gb262, 1, none⟩ = some (.int .i64 a0_1) ∧ w'.cell? ⟨gb263, 0, none⟩ = some (.int .i64 a1_0) ∧ w'.cell? ⟨gb263, 1, none⟩ = some (.int .i64 a1_1)) ∧ (w'.heap[gb262]? = some (.cells #[.int .i64 a0_0, .int .i64 a0_1] 26 (0, 0))) ∧ (w'.heap[gb263]? = some (.cells #[.int .i64 a1_0, .int .i64 a1_1] 26 (0, 0))) ∧ (w'.heap[gb264]? = some (.cells #[.int .i64 0, .int .i64 0] 26 (0, 0))) ∧ (Below w.heap.size w w')) ?_ ?_
 intro hJ4
 refine joinX8_ (σ := Nat) 5 (m_ 14 1519) (fun s_ => [(5, .pointer (some ⟨s_, 0, none⟩))]) (fun s_ w' => (w'.cell? ⟨gb262, 0, none⟩ = some (.int .i64 a0_0) ∧ w'.cell? ⟨gb262, 1, none⟩ = some (.int .i64 a0_1) ∧ w'.cell? ⟨gb263, 0, none⟩ = some (.int .i64 a1_0) ∧ w'.cell? ⟨gb263, 1, none⟩ = some (.int .i64 a1_1)) ∧ (w'.heap[gb262]? = some (.cells #[.int .i64 a0_0, .int .i64 a0_1] 26 (0, 0))) ∧ (w'.heap[gb263]? = some (.cells #[.int .i64 a1_0, .int .i64 a1_1] 26 (0, 0))) ∧ (w'.heap[gb264]? = some (.cells #[.int .i64 0, .int .i64 0] 26 (0, 0))) ∧ (w'.heap[s_]? = some (.cells #[.int .i64 0, .int .i64 0] 26 (0, 0))) ∧ (w.heap.size ≤ s_) ∧ (w.heap.size ≤ s_) ∧ (gb262 ≠ s_) ∧ (s_ ≠ gb262) ∧ (gb263 ≠ s_) ∧ (s_ ≠ gb263) ∧ (gb264 ≠ s_) ∧ (s_ ≠ gb264) ∧ (Below w.heap.size w w')) ?_ ?_
 intro hJ10
 refine joinX8_ (σ := Nat) 5 (m_ 14 2543) (fun s_ => [(6, .pointer (some ⟨s_, 0, none⟩))]) (fun s_ w' => (w'.cell? ⟨gb262, 0, none⟩ = some (.int .i64 a0_0) ∧ w'.cell? ⟨gb262, 1, none⟩ = some (.int .i64 a0_1) ∧ w'.cell? ⟨gb263, 0, none⟩ = some (.int .i64 a1_0) ∧ w'.cell? ⟨gb263, 1, none⟩ = some (.int .i64 a1_1)) ∧ (w'.heap[gb262]? = some (.cells #[.int .i64 a0_0, .int .i64 a0_1] 26 (0, 0))) ∧ (w'.heap[gb263]? = some (.cells #[.int .i64 a1_0, .int .i64 a1_1] 26 (0, 0))) ∧ (w'.heap[gb264]? = some (.cells #[.int .i64 0, .int .i64 0] 26 (0, 0))) ∧ (w'.heap[s_]? = some (.cells #[.int .i64 0, .int .i64 0] 26 (0, 0))) ∧ (w.heap.size ≤ s_) ∧ (w.heap.size ≤ s_) ∧ (gb262 ≠ s_) ∧ (s_ ≠ gb262) ∧ (gb263 ≠ s_) ∧ (s_ ≠ gb263) ∧ (gb264 ≠ s_) ∧ (s_ ≠ gb264) ∧ (Below w.heap.size w w')) ?_ ?_
 intro hJ11
 refine three_ (i := 4) (j := 10) (k := 11) (Ni := some 11) (Nj := some 5) (Nk := some 6) (m_ 14 511) (m_ 14 1519) (m_ 14 2543) rfl rfl rfl rfl rfl rfl (three_of HT_.out (by kernel_rfl)) (by decide) (by decide) (by decide) (fun K hK => ?_) (fun K hK => ?_) (fun K hK => ?_)
 ·refine goes_ Tryd.func69 (by kernel_rfl) rfl #[.int .i64 a0_0, .int .i64 a1_1] (by rfl) rfl rfl (by (try simp only [List.map_toArray, List.map_cons, List.map_nil]); (rfl)) ?_
  with_reducible refine (spec_l2Cut.calls k a0_0 a1_1 t265 t266 _ A3.out).mono ?_
  rintro e w9 ⟨rfl, hb⟩
  refine ⟨_, rfl, ?_⟩
  replace BK262 := A_.mk (blk_below BK262.out hb)
  replace BK263 := A_.mk (blk_below BK263.out hb)
  replace BK264 := A_.mk (blk_below BK264.out hb)
  replace HB := A_.mk (below_step HB.out hb)
  (try clear hb)
  skip
  skip
  skip
  refine hK.out _ _ ⟨(blk_cell BK262.out 0).trans rfl, (blk_cell BK262.out 1).trans rfl, (blk_cell BK263.out 0).trans rfl, (blk_cell BK263.out 1).trans rfl⟩ (fun hHeld => ?_)
  clear hK K
  exact norm_ (by simp only [putAll, Act.put, sI_, s0_, s1_]; try rfl) (hJ4 () _ ⟨hHeld, BK262.out, BK263.out, BK264.out, HB.out⟩)
 ·refine box_step ?hg (N := 5) ?hd (cs := #[.int .i64 0, .int .i64 0]) (t := 26) ?hr ?_; (case hd => rfl); (case hg => rfl); (case hr => (go_simp; done))
  intro gb269 hg w9 hbox hb
  have BK269 := A_.mk (hbox)
  have GW269 := A_.mk ((by rw [hg]; exact (below_size HB.out) : w.heap.size ≤ gb269))
  have GE269 := A_.mk ((by rw [hg]; exact (below_size HB.out) : w.heap.size ≤ gb269))
  replace HB := A_.mk (below_step HB.out hb)
  have NB262_269 := A_.mk ((by rw [hg]; exact Nat.ne_of_lt (blk_lt BK262.out) : gb262 ≠ gb269))
  have NB269_262 := A_.mk ((by rw [hg]; exact Nat.ne_of_gt (blk_lt BK262.out) : gb269 ≠ gb262))
  replace BK262 := A_.mk (blk_below BK262.out hb)
  have NB263_269 := A_.mk ((by rw [hg]; exact Nat.ne_of_lt (blk_lt BK263.out) : gb263 ≠ gb269))
  have NB269_263 := A_.mk ((by rw [hg]; exact Nat.ne_of_gt (blk_lt BK263.out) : gb269 ≠ gb263))
  replace BK263 := A_.mk (blk_below BK263.out hb)
  have NB264_269 := A_.mk ((by rw [hg]; exact Nat.ne_of_lt (blk_lt BK264.out) : gb264 ≠ gb269))
  have NB269_264 := A_.mk ((by rw [hg]; exact Nat.ne_of_gt (blk_lt BK264.out) : gb269 ≠ gb264))
  replace BK264 := A_.mk (blk_below BK264.out hb)
  clear hb hbox hg
  refine hK.out _ _ ⟨(blk_cell BK262.out 0).trans rfl, (blk_cell BK262.out 1).trans rfl, (blk_cell BK263.out 0).trans rfl, (blk_cell BK263.out 1).trans rfl⟩ (fun hHeld => ?_)
  clear hK K
  exact norm_ (by simp only [putAll, Act.put, sI_, s0_, s1_]; try rfl) (hJ10 (gb269) _ ⟨hHeld, BK262.out, BK263.out, BK264.out, BK269.out, GW269.out, GE269.out, NB262_269.out, NB269_262.out, NB263_269.out, NB269_263.out, NB264_269.out, NB269_264.out, HB.out⟩)
 ·refine box_step ?hg (N := 6) ?hd (cs := #[.int .i64 0, .int .i64 0]) (t := 26) ?hr ?_; (case hd => rfl); (case hg => rfl); (case hr => (go_simp; done))
  intro gb270 hg w9 hbox hb
  have BK270 := A_.mk (hbox)
  have GW270 := A_.mk ((by rw [hg]; exact (below_size HB.out) : w.heap.size ≤ gb270))
  have GE270 := A_.mk ((by rw [hg]; exact (below_size HB.out) : w.heap.size ≤ gb270))
  replace HB := A_.mk (below_step HB.out hb)
  have NB262_270 := A_.mk ((by rw [hg]; exact Nat.ne_of_lt (blk_lt BK262.out) : gb262 ≠ gb270))
  have NB270_262 := A_.mk ((by rw [hg]; exact Nat.ne_of_gt (blk_lt BK262.out) : gb270 ≠ gb262))
  replace BK262 := A_.mk (blk_below BK262.out hb)
  have NB263_270 := A_.mk ((by rw [hg]; exact Nat.ne_of_lt (blk_lt BK263.out) : gb263 ≠ gb270))
  have NB270_263 := A_.mk ((by rw [hg]; exact Nat.ne_of_gt (blk_lt BK263.out) : gb270 ≠ gb263))
  replace BK263 := A_.mk (blk_below BK263.out hb)
  have NB264_270 := A_.mk ((by rw [hg]; exact Nat.ne_of_lt (blk_lt BK264.out) : gb264 ≠ gb270))
  have NB270_264 := A_.mk ((by rw [hg]; exact Nat.ne_of_gt (blk_lt BK264.out) : gb270 ≠ gb264))
  replace BK264 := A_.mk (blk_below BK264.out hb)
  clear hb hbox hg
  refine hK.out _ _ ⟨(blk_cell BK262.out 0).trans rfl, (blk_cell BK262.out 1).trans rfl, (blk_cell BK263.out 0).trans rfl, (blk_cell BK263.out 1).trans rfl⟩ (fun hHeld => ?_)
  clear hK K
  exact norm_ (by simp only [putAll, Act.put, sI_, s0_, s1_]; try rfl) (hJ11 (gb270) _ ⟨hHeld, BK262.out, BK263.out, BK264.out, BK270.out, GW270.out, GE270.out, NB262_270.out, NB270_262.out, NB263_270.out, NB270_263.out, NB264_270.out, NB270_264.out, HB.out⟩)
 ·rintro gb270 w10 ⟨hS_, h0_, h1_, h2_, h3_, h4_, h5_, h6_, h7_, h8_, h9_, h10_, h11_, h12_⟩
  have n0_ : A_ (w10.heap[gb262]? = some (.cells #[.int .i64 a0_0, .int .i64 a0_1] 26 (0, 0))) := ⟨h0_⟩
  have n1_ : A_ (w10.heap[gb263]? = some (.cells #[.int .i64 a1_0, .int .i64 a1_1] 26 (0, 0))) := ⟨h1_⟩
  have n2_ : A_ (w10.heap[gb264]? = some (.cells #[.int .i64 0, .int .i64 0] 26 (0, 0))) := ⟨h2_⟩
  have n3_ : A_ (w10.heap[gb270]? = some (.cells #[.int .i64 0, .int .i64 0] 26 (0, 0))) := ⟨h3_⟩
  have n4_ : A_ (w.heap.size ≤ gb270) := ⟨h4_⟩
  have n5_ : A_ (w.heap.size ≤ gb270) := ⟨h5_⟩
  have n6_ : A_ (gb262 ≠ gb270) := ⟨h6_⟩
  have n7_ : A_ (gb270 ≠ gb262) := ⟨h7_⟩
  have n8_ : A_ (gb263 ≠ gb270) := ⟨h8_⟩
  have n9_ : A_ (gb270 ≠ gb263) := ⟨h9_⟩
  have n10_ : A_ (gb264 ≠ gb270) := ⟨h10_⟩
  have n11_ : A_ (gb270 ≠ gb264) := ⟨h11_⟩
  have n12_ : A_ (Below w.heap.size w w10) := ⟨h12_⟩
  clear BK262
  clear BK263
  clear BK264
  clear HB
  clear h0_ h1_ h2_ h3_ h4_ h5_ h6_ h7_ h8_ h9_ h10_ h11_ h12_
  have BK262 := n0_
  have BK263 := n1_
  have BK264 := n2_
  have BK270 := n3_
  have GW270 := n4_
  have GE270 := n5_
  have NB262_270 := n6_
  have NB270_262 := n7_
  have NB263_270 := n8_
  have NB270_263 := n9_
  have NB264_270 := n10_
  have NB270_264 := n11_
  have HB := n12_
  clear n0_ n1_ n2_ n3_ n4_ n5_ n6_ n7_ n8_ n9_ n10_ n11_ n12_
  have hHeld : w10.cell? ⟨gb262, 0, none⟩ = some (.int .i64 a0_0) ∧ w10.cell? ⟨gb262, 1, none⟩ = some (.int .i64 a0_1) ∧ w10.cell? ⟨gb263, 0, none⟩ = some (.int .i64 a1_0) ∧ w10.cell? ⟨gb263, 1, none⟩ = some (.int .i64 a1_1) := hS_
  refine norm_ (a' := ?_) ?_ ?_
  rotate_left
  ·simp only [putAll, Act.put, sI_, s0_, s1_]
   rfl
  refine two_ (i := 4) (j := 10) (Ni := some 11) (Nj := some 5) (m_ 14 2559) (m_ 14 3567) rfl rfl rfl rfl (two_of HT_.out (by kernel_rfl)) (by decide) (by decide) (fun K hK => ?_) (fun K hK => ?_)
  ·refine goes_ Tryd.func69 (by kernel_rfl) rfl #[.int .i64 a0_0, .int .i64 a1_1] (by rfl) rfl rfl (by (try simp only [List.map_toArray, List.map_cons, List.map_nil]); (rfl)) ?_
   with_reducible refine (spec_l2Cut.calls k a0_0 a1_1 t265 t266 _ A3.out).mono ?_
   rintro e w11 ⟨rfl, hb⟩
   refine ⟨_, rfl, ?_⟩
   replace BK262 := A_.mk (blk_below BK262.out hb)
   replace BK263 := A_.mk (blk_below BK263.out hb)
   replace BK264 := A_.mk (blk_below BK264.out hb)
   replace BK270 := A_.mk (blk_below BK270.out hb)
   replace HB := A_.mk (below_step HB.out hb)
   (try clear hb)
   skip
   skip
   skip
   refine hK.out _ _ ⟨(blk_cell BK262.out 0).trans rfl, (blk_cell BK262.out 1).trans rfl, (blk_cell BK263.out 0).trans rfl, (blk_cell BK263.out 1).trans rfl⟩ (fun hHeld => ?_)
   clear hK K
   exact norm_ (by simp only [putAll, Act.put, sI_, s0_, s1_]; try rfl) (hJ4_11 (gb270) _ ⟨hHeld, BK262.out, BK263.out, BK264.out, BK270.out, GW270.out, GE270.out, NB262_270.out, NB270_262.out, NB263_270.out, NB270_263.out, NB264_270.out, NB270_264.out, HB.out⟩)
  ·refine box_step ?hg (N := 5) ?hd (cs := #[.int .i64 0, .int .i64 0]) (t := 26) ?hr ?_; (case hd => rfl); (case hg => rfl); (case hr => (go_simp; done))
   intro gb269 hg w11 hbox hb
   have BK269 := A_.mk (hbox)
   have GW269 := A_.mk ((by rw [hg]; exact (below_size HB.out) : w.heap.size ≤ gb269))
   have GE269 := A_.mk ((by rw [hg]; exact (below_size HB.out) : w.heap.size ≤ gb269))
   replace HB := A_.mk (below_step HB.out hb)
   have NB262_269 := A_.mk ((by rw [hg]; exact Nat.ne_of_lt (blk_lt BK262.out) : gb262 ≠ gb269))
   have NB269_262 := A_.mk ((by rw [hg]; exact Nat.ne_of_gt (blk_lt BK262.out) : gb269 ≠ gb262))
   replace BK262 := A_.mk (blk_below BK262.out hb)
   have NB263_269 := A_.mk ((by rw [hg]; exact Nat.ne_of_lt (blk_lt BK263.out) : gb263 ≠ gb269))
   have NB269_263 := A_.mk ((by rw [hg]; exact Nat.ne_of_gt (blk_lt BK263.out) : gb269 ≠ gb263))
   replace BK263 := A_.mk (blk_below BK263.out hb)
   have NB264_269 := A_.mk ((by rw [hg]; exact Nat.ne_of_lt (blk_lt BK264.out) : gb264 ≠ gb269))
   have NB269_264 := A_.mk ((by rw [hg]; exact Nat.ne_of_gt (blk_lt BK264.out) : gb269 ≠ gb264))
   replace BK264 := A_.mk (blk_below BK264.out hb)
   have NB270_269 := A_.mk ((by rw [hg]; exact Nat.ne_of_lt (blk_lt BK270.out) : gb270 ≠ gb269))
   have NB269_270 := A_.mk ((by rw [hg]; exact Nat.ne_of_gt (blk_lt BK270.out) : gb269 ≠ gb270))
   replace BK270 := A_.mk (blk_below BK270.out hb)
   clear hb hbox hg
   refine hK.out _ _ ⟨(blk_cell BK262.out 0).trans rfl, (blk_cell BK262.out 1).trans rfl, (blk_cell BK263.out 0).trans rfl, (blk_cell BK263.out 1).trans rfl⟩ (fun hHeld => ?_)
   clear hK K
   exact norm_ (by simp only [putAll, Act.put, sI_, s0_, s1_]; try rfl) (hJ10_11 (gb269, gb270) _ ⟨hHeld, BK262.out, BK263.out, BK264.out, BK269.out, BK270.out, GW269.out, GE269.out, NB262_269.out, NB269_262.out, NB263_269.out, NB269_263.out, NB264_269.out, NB269_264.out, NB270_269.out, NB269_270.out, GW270.out, GE270.out, NB262_270.out, NB270_262.out, NB263_270.out, NB270_263.out, NB264_270.out, NB270_264.out, HB.out⟩)
 ·rintro gb269 w10 ⟨hS_, h0_, h1_, h2_, h3_, h4_, h5_, h6_, h7_, h8_, h9_, h10_, h11_, h12_⟩
  have n0_ : A_ (w10.heap[gb262]? = some (.cells #[.int .i64 a0_0, .int .i64 a0_1] 26 (0, 0))) := ⟨h0_⟩
  have n1_ : A_ (w10.heap[gb263]? = some (.cells #[.int .i64 a1_0, .int .i64 a1_1] 26 (0, 0))) := ⟨h1_⟩
  have n2_ : A_ (w10.heap[gb264]? = some (.cells #[.int .i64 0, .int .i64 0] 26 (0, 0))) := ⟨h2_⟩
  have n3_ : A_ (w10.heap[gb269]? = some (.cells #[.int .i64 0, .int .i64 0] 26 (0, 0))) := ⟨h3_⟩
  have n4_ : A_ (w.heap.size ≤ gb269) := ⟨h4_⟩
  have n5_ : A_ (w.heap.size ≤ gb269) := ⟨h5_⟩
  have n6_ : A_ (gb262 ≠ gb269) := ⟨h6_⟩
  have n7_ : A_ (gb269 ≠ gb262) := ⟨h7_⟩
  have n8_ : A_ (gb263 ≠ gb269) := ⟨h8_⟩
  have n9_ : A_ (gb269 ≠ gb263) := ⟨h9_⟩
  have n10_ : A_ (gb264 ≠ gb269) := ⟨h10_⟩
  have n11_ : A_ (gb269 ≠ gb264) := ⟨h11_⟩
  have n12_ : A_ (Below w.heap.size w w10) := ⟨h12_⟩
  clear BK262
  clear BK263
  clear BK264
  clear HB
  clear h0_ h1_ h2_ h3_ h4_ h5_ h6_ h7_ h8_ h9_ h10_ h11_ h12_
  have BK262 := n0_
  have BK263 := n1_
  have BK264 := n2_
  have BK269 := n3_
  have GW269 := n4_
  have GE269 := n5_
  have NB262_269 := n6_
  have NB269_262 := n7_
  have NB263_269 := n8_
  have NB269_263 := n9_
  have NB264_269 := n10_
  have NB269_264 := n11_
  have HB := n12_
  clear n0_ n1_ n2_ n3_ n4_ n5_ n6_ n7_ n8_ n9_ n10_ n11_ n12_
  have hHeld : w10.cell? ⟨gb262, 0, none⟩ = some (.int .i64 a0_0) ∧ w10.cell? ⟨gb262, 1, none⟩ = some (.int .i64 a0_1) ∧ w10.cell? ⟨gb263, 0, none⟩ = some (.int .i64 a1_0) ∧ w10.cell? ⟨gb263, 1, none⟩ = some (.int .i64 a1_1) := hS_
  refine norm_ (a' := ?_) ?_ ?_
  rotate_left
  ·simp only [putAll, Act.put, sI_, s0_, s1_]
   rfl
  refine two_ (i := 4) (j := 11) (Ni := some 11) (Nj := some 6) (m_ 14 1535) (m_ 14 3567) rfl rfl rfl rfl (two_of HT_.out (by kernel_rfl)) (by decide) (by decide) (fun K hK => ?_) (fun K hK => ?_)
  ·refine goes_ Tryd.func69 (by kernel_rfl) rfl #[.int .i64 a0_0, .int .i64 a1_1] (by rfl) rfl rfl (by (try simp only [List.map_toArray, List.map_cons, List.map_nil]); (rfl)) ?_
   with_reducible refine (spec_l2Cut.calls k a0_0 a1_1 t265 t266 _ A3.out).mono ?_
   rintro e w11 ⟨rfl, hb⟩
   refine ⟨_, rfl, ?_⟩
   replace BK262 := A_.mk (blk_below BK262.out hb)
   replace BK263 := A_.mk (blk_below BK263.out hb)
   replace BK264 := A_.mk (blk_below BK264.out hb)
   replace BK269 := A_.mk (blk_below BK269.out hb)
   replace HB := A_.mk (below_step HB.out hb)
   (try clear hb)
   skip
   skip
   skip
   refine hK.out _ _ ⟨(blk_cell BK262.out 0).trans rfl, (blk_cell BK262.out 1).trans rfl, (blk_cell BK263.out 0).trans rfl, (blk_cell BK263.out 1).trans rfl⟩ (fun hHeld => ?_)
   clear hK K
   exact norm_ (by simp only [putAll, Act.put, sI_, s0_, s1_]; try rfl) (hJ4_10 (gb269) _ ⟨hHeld, BK262.out, BK263.out, BK264.out, BK269.out, GW269.out, GE269.out, NB262_269.out, NB269_262.out, NB263_269.out, NB269_263.out, NB264_269.out, NB269_264.out, HB.out⟩)
  ·refine box_step ?hg (N := 6) ?hd (cs := #[.int .i64 0, .int .i64 0]) (t := 26) ?hr ?_; (case hd => rfl); (case hg => rfl); (case hr => (go_simp; done))
   intro gb270 hg w11 hbox hb
   have BK270 := A_.mk (hbox)
   have GW270 := A_.mk ((by rw [hg]; exact (below_size HB.out) : w.heap.size ≤ gb270))
   have GE270 := A_.mk ((by rw [hg]; exact (below_size HB.out) : w.heap.size ≤ gb270))
   replace HB := A_.mk (below_step HB.out hb)
   have NB262_270 := A_.mk ((by rw [hg]; exact Nat.ne_of_lt (blk_lt BK262.out) : gb262 ≠ gb270))
   have NB270_262 := A_.mk ((by rw [hg]; exact Nat.ne_of_gt (blk_lt BK262.out) : gb270 ≠ gb262))
   replace BK262 := A_.mk (blk_below BK262.out hb)
   have NB263_270 := A_.mk ((by rw [hg]; exact Nat.ne_of_lt (blk_lt BK263.out) : gb263 ≠ gb270))
   have NB270_263 := A_.mk ((by rw [hg]; exact Nat.ne_of_gt (blk_lt BK263.out) : gb270 ≠ gb263))
   replace BK263 := A_.mk (blk_below BK263.out hb)
   have NB264_270 := A_.mk ((by rw [hg]; exact Nat.ne_of_lt (blk_lt BK264.out) : gb264 ≠ gb270))
   have NB270_264 := A_.mk ((by rw [hg]; exact Nat.ne_of_gt (blk_lt BK264.out) : gb270 ≠ gb264))
   replace BK264 := A_.mk (blk_below BK264.out hb)
   have NB269_270 := A_.mk ((by rw [hg]; exact Nat.ne_of_lt (blk_lt BK269.out) : gb269 ≠ gb270))
   have NB270_269 := A_.mk ((by rw [hg]; exact Nat.ne_of_gt (blk_lt BK269.out) : gb270 ≠ gb269))
   replace BK269 := A_.mk (blk_below BK269.out hb)
   clear hb hbox hg
   refine hK.out _ _ ⟨(blk_cell BK262.out 0).trans rfl, (blk_cell BK262.out 1).trans rfl, (blk_cell BK263.out 0).trans rfl, (blk_cell BK263.out 1).trans rfl⟩ (fun hHeld => ?_)
   clear hK K
   exact norm_ (by simp only [putAll, Act.put, sI_, s0_, s1_]; try rfl) (hJ10_11 (gb269, gb270) _ ⟨hHeld, BK262.out, BK263.out, BK264.out, BK269.out, BK270.out, GW269.out, GE269.out, NB262_269.out, NB269_262.out, NB263_269.out, NB269_263.out, NB264_269.out, NB269_264.out, NB270_269.out, NB269_270.out, GW270.out, GE270.out, NB262_270.out, NB270_262.out, NB263_270.out, NB270_263.out, NB264_270.out, NB270_264.out, HB.out⟩)
 ·rintro _ w10 ⟨hS_, h0_, h1_, h2_, h3_⟩
  have n0_ : A_ (w10.heap[gb262]? = some (.cells #[.int .i64 a0_0, .int .i64 a0_1] 26 (0, 0))) := ⟨h0_⟩
  have n1_ : A_ (w10.heap[gb263]? = some (.cells #[.int .i64 a1_0, .int .i64 a1_1] 26 (0, 0))) := ⟨h1_⟩
  have n2_ : A_ (w10.heap[gb264]? = some (.cells #[.int .i64 0, .int .i64 0] 26 (0, 0))) := ⟨h2_⟩
  have n3_ : A_ (Below w.heap.size w w10) := ⟨h3_⟩
  clear BK262
  clear BK263
  clear BK264
  clear HB
  clear h0_ h1_ h2_ h3_
  have BK262 := n0_
  have BK263 := n1_
  have BK264 := n2_
  have HB := n3_
  clear n0_ n1_ n2_ n3_
  have hHeld : w10.cell? ⟨gb262, 0, none⟩ = some (.int .i64 a0_0) ∧ w10.cell? ⟨gb262, 1, none⟩ = some (.int .i64 a0_1) ∧ w10.cell? ⟨gb263, 0, none⟩ = some (.int .i64 a1_0) ∧ w10.cell? ⟨gb263, 1, none⟩ = some (.int .i64 a1_1) := hS_
  refine norm_ (a' := ?_) ?_ ?_
  rotate_left
  ·simp only [putAll, Act.put, sI_, s0_, s1_]
   rfl
  refine three_ (i := 9) (j := 10) (k := 11) (Ni := some 16) (Nj := some 5) (Nk := some 6) (m_ 14 1023) (m_ 14 1535) (m_ 14 2559) rfl rfl rfl rfl rfl rfl (three_of HT_.out (by kernel_rfl)) (by decide) (by decide) (by decide) (fun K hK => ?_) (fun K hK => ?_) (fun K hK => ?_)
  ·refine goes_ Tryd.func69 (by kernel_rfl) rfl #[.int .i64 a1_0, .int .i64 a0_1] (by rfl) rfl rfl (by (try simp only [List.map_toArray, List.map_cons, List.map_nil]); (rfl)) ?_
   with_reducible refine (spec_l2Cut.calls k a1_0 a0_1 t267 t268 _ A4.out).mono ?_
   rintro e w11 ⟨rfl, hb⟩
   refine ⟨_, rfl, ?_⟩
   replace BK262 := A_.mk (blk_below BK262.out hb)
   replace BK263 := A_.mk (blk_below BK263.out hb)
   replace BK264 := A_.mk (blk_below BK264.out hb)
   replace HB := A_.mk (below_step HB.out hb)
   (try clear hb)
   skip
   skip
   skip
   refine hK.out _ _ ⟨(blk_cell BK262.out 0).trans rfl, (blk_cell BK262.out 1).trans rfl, (blk_cell BK263.out 0).trans rfl, (blk_cell BK263.out 1).trans rfl⟩ (fun hHeld => ?_)
   clear hK K
   exact norm_ (by simp only [putAll, Act.put, sI_, s0_, s1_]; try rfl) (hJ4_9 () _ ⟨hHeld, BK262.out, BK263.out, BK264.out, HB.out⟩)
  ·refine box_step ?hg (N := 5) ?hd (cs := #[.int .i64 0, .int .i64 0]) (t := 26) ?hr ?_; (case hd => rfl); (case hg => rfl); (case hr => (go_simp; done))
   intro gb269 hg w11 hbox hb
   have BK269 := A_.mk (hbox)
   have GW269 := A_.mk ((by rw [hg]; exact (below_size HB.out) : w.heap.size ≤ gb269))
   have GE269 := A_.mk ((by rw [hg]; exact (below_size HB.out) : w.heap.size ≤ gb269))
   replace HB := A_.mk (below_step HB.out hb)
   have NB262_269 := A_.mk ((by rw [hg]; exact Nat.ne_of_lt (blk_lt BK262.out) : gb262 ≠ gb269))
   have NB269_262 := A_.mk ((by rw [hg]; exact Nat.ne_of_gt (blk_lt BK262.out) : gb269 ≠ gb262))
   replace BK262 := A_.mk (blk_below BK262.out hb)
   have NB263_269 := A_.mk ((by rw [hg]; exact Nat.ne_of_lt (blk_lt BK263.out) : gb263 ≠ gb269))
   have NB269_263 := A_.mk ((by rw [hg]; exact Nat.ne_of_gt (blk_lt BK263.out) : gb269 ≠ gb263))
   replace BK263 := A_.mk (blk_below BK263.out hb)
   have NB264_269 := A_.mk ((by rw [hg]; exact Nat.ne_of_lt (blk_lt BK264.out) : gb264 ≠ gb269))
   have NB269_264 := A_.mk ((by rw [hg]; exact Nat.ne_of_gt (blk_lt BK264.out) : gb269 ≠ gb264))
   replace BK264 := A_.mk (blk_below BK264.out hb)
   clear hb hbox hg
   refine hK.out _ _ ⟨(blk_cell BK262.out 0).trans rfl, (blk_cell BK262.out 1).trans rfl, (blk_cell BK263.out 0).trans rfl, (blk_cell BK263.out 1).trans rfl⟩ (fun hHeld => ?_)
   clear hK K
   exact norm_ (by simp only [putAll, Act.put, sI_, s0_, s1_]; try rfl) (hJ4_10 (gb269) _ ⟨hHeld, BK262.out, BK263.out, BK264.out, BK269.out, GW269.out, GE269.out, NB262_269.out, NB269_262.out, NB263_269.out, NB269_263.out, NB264_269.out, NB269_264.out, HB.out⟩)
  ·refine box_step ?hg (N := 6) ?hd (cs := #[.int .i64 0, .int .i64 0]) (t := 26) ?hr ?_; (case hd => rfl); (case hg => rfl); (case hr => (go_simp; done))
   intro gb270 hg w11 hbox hb
   have BK270 := A_.mk (hbox)
   have GW270 := A_.mk ((by rw [hg]; exact (below_size HB.out) : w.heap.size ≤ gb270))
   have GE270 := A_.mk ((by rw [hg]; exact (below_size HB.out) : w.heap.size ≤ gb270))
   replace HB := A_.mk (below_step HB.out hb)
   have NB262_270 := A_.mk ((by rw [hg]; exact Nat.ne_of_lt (blk_lt BK262.out) : gb262 ≠ gb270))
   have NB270_262 := A_.mk ((by rw [hg]; exact Nat.ne_of_gt (blk_lt BK262.out) : gb270 ≠ gb262))
   replace BK262 := A_.mk (blk_below BK262.out hb)
   have NB263_270 := A_.mk ((by rw [hg]; exact Nat.ne_of_lt (blk_lt BK263.out) : gb263 ≠ gb270))
   have NB270_263 := A_.mk ((by rw [hg]; exact Nat.ne_of_gt (blk_lt BK263.out) : gb270 ≠ gb263))
   replace BK263 := A_.mk (blk_below BK263.out hb)
   have NB264_270 := A_.mk ((by rw [hg]; exact Nat.ne_of_lt (blk_lt BK264.out) : gb264 ≠ gb270))
   have NB270_264 := A_.mk ((by rw [hg]; exact Nat.ne_of_gt (blk_lt BK264.out) : gb270 ≠ gb264))
   replace BK264 := A_.mk (blk_below BK264.out hb)
   clear hb hbox hg
   refine hK.out _ _ ⟨(blk_cell BK262.out 0).trans rfl, (blk_cell BK262.out 1).trans rfl, (blk_cell BK263.out 0).trans rfl, (blk_cell BK263.out 1).trans rfl⟩ (fun hHeld => ?_)
   clear hK K
   exact norm_ (by simp only [putAll, Act.put, sI_, s0_, s1_]; try rfl) (hJ4_11 (gb270) _ ⟨hHeld, BK262.out, BK263.out, BK264.out, BK270.out, GW270.out, GE270.out, NB262_270.out, NB270_262.out, NB263_270.out, NB270_263.out, NB264_270.out, NB270_264.out, HB.out⟩)
 ·rintro ⟨gb269, gb270⟩ w11 ⟨hS_, h0_, h1_, h2_, h3_, h4_, h5_, h6_, h7_, h8_, h9_, h10_, h11_, h12_, h13_, h14_, h15_, h16_, h17_, h18_, h19_, h20_, h21_, h22_, h23_⟩
  have n0_ : A_ (w11.heap[gb262]? = some (.cells #[.int .i64 a0_0, .int .i64 a0_1] 26 (0, 0))) := ⟨h0_⟩
  have n1_ : A_ (w11.heap[gb263]? = some (.cells #[.int .i64 a1_0, .int .i64 a1_1] 26 (0, 0))) := ⟨h1_⟩
  have n2_ : A_ (w11.heap[gb264]? = some (.cells #[.int .i64 0, .int .i64 0] 26 (0, 0))) := ⟨h2_⟩
  have n3_ : A_ (w11.heap[gb269]? = some (.cells #[.int .i64 0, .int .i64 0] 26 (0, 0))) := ⟨h3_⟩
  have n4_ : A_ (w11.heap[gb270]? = some (.cells #[.int .i64 0, .int .i64 0] 26 (0, 0))) := ⟨h4_⟩
  have n5_ : A_ (w.heap.size ≤ gb269) := ⟨h5_⟩
  have n6_ : A_ (w.heap.size ≤ gb269) := ⟨h6_⟩
  have n7_ : A_ (gb262 ≠ gb269) := ⟨h7_⟩
  have n8_ : A_ (gb269 ≠ gb262) := ⟨h8_⟩
  have n9_ : A_ (gb263 ≠ gb269) := ⟨h9_⟩
  have n10_ : A_ (gb269 ≠ gb263) := ⟨h10_⟩
  have n11_ : A_ (gb264 ≠ gb269) := ⟨h11_⟩
  have n12_ : A_ (gb269 ≠ gb264) := ⟨h12_⟩
  have n13_ : A_ (gb270 ≠ gb269) := ⟨h13_⟩
  have n14_ : A_ (gb269 ≠ gb270) := ⟨h14_⟩
  have n15_ : A_ (w.heap.size ≤ gb270) := ⟨h15_⟩
  have n16_ : A_ (w.heap.size ≤ gb270) := ⟨h16_⟩
  have n17_ : A_ (gb262 ≠ gb270) := ⟨h17_⟩
  have n18_ : A_ (gb270 ≠ gb262) := ⟨h18_⟩
  have n19_ : A_ (gb263 ≠ gb270) := ⟨h19_⟩
  have n20_ : A_ (gb270 ≠ gb263) := ⟨h20_⟩
  have n21_ : A_ (gb264 ≠ gb270) := ⟨h21_⟩
  have n22_ : A_ (gb270 ≠ gb264) := ⟨h22_⟩
  have n23_ : A_ (Below w.heap.size w w11) := ⟨h23_⟩
  clear BK262
  clear BK263
  clear BK264
  clear HB
  clear h0_ h1_ h2_ h3_ h4_ h5_ h6_ h7_ h8_ h9_ h10_ h11_ h12_ h13_ h14_ h15_ h16_ h17_ h18_ h19_ h20_ h21_ h22_ h23_
  have BK262 := n0_
  have BK263 := n1_
  have BK264 := n2_
  have BK269 := n3_
  have BK270 := n4_
  have GW269 := n5_
  have GE269 := n6_
  have NB262_269 := n7_
  have NB269_262 := n8_
  have NB263_269 := n9_
  have NB269_263 := n10_
  have NB264_269 := n11_
  have NB269_264 := n12_
  have NB270_269 := n13_
  have NB269_270 := n14_
  have GW270 := n15_
  have GE270 := n16_
  have NB262_270 := n17_
  have NB270_262 := n18_
  have NB263_270 := n19_
  have NB270_263 := n20_
  have NB264_270 := n21_
  have NB270_264 := n22_
  have HB := n23_
  clear n0_ n1_ n2_ n3_ n4_ n5_ n6_ n7_ n8_ n9_ n10_ n11_ n12_ n13_ n14_ n15_ n16_ n17_ n18_ n19_ n20_ n21_ n22_ n23_
  have hHeld : w11.cell? ⟨gb262, 0, none⟩ = some (.int .i64 a0_0) ∧ w11.cell? ⟨gb262, 1, none⟩ = some (.int .i64 a0_1) ∧ w11.cell? ⟨gb263, 0, none⟩ = some (.int .i64 a1_0) ∧ w11.cell? ⟨gb263, 1, none⟩ = some (.int .i64 a1_1) := hS_
  refine norm_ (a' := ?_) ?_ ?_
  rotate_left
  ·simp only [putAll, Act.put, sI_, s0_, s1_]
   rfl
  refine one_ (i := 4) (N := some 11) (m_ 14 3583) rfl rfl (one_of HT_.out (by kernel_rfl)) (by decide) (fun K hK => ?_)
  refine goes_ Tryd.func69 (by kernel_rfl) rfl #[.int .i64 a0_0, .int .i64 a1_1] (by rfl) rfl rfl (by (try simp only [List.map_toArray, List.map_cons, List.map_nil]); (rfl)) ?_
  with_reducible refine (spec_l2Cut.calls k a0_0 a1_1 t265 t266 _ A3.out).mono ?_
  rintro e w12 ⟨rfl, hb⟩
  refine ⟨_, rfl, ?_⟩
  replace BK262 := A_.mk (blk_below BK262.out hb)
  replace BK263 := A_.mk (blk_below BK263.out hb)
  replace BK264 := A_.mk (blk_below BK264.out hb)
  replace BK269 := A_.mk (blk_below BK269.out hb)
  replace BK270 := A_.mk (blk_below BK270.out hb)
  replace HB := A_.mk (below_step HB.out hb)
  (try clear hb)
  skip
  skip
  skip
  refine hK.out _ _ ⟨(blk_cell BK262.out 0).trans rfl, (blk_cell BK262.out 1).trans rfl, (blk_cell BK263.out 0).trans rfl, (blk_cell BK263.out 1).trans rfl⟩ (fun hHeld => ?_)
  clear hK K
  exact norm_ (by simp only [putAll, Act.put, sI_, s0_, s1_]; try rfl) (hJ4_10_11 (gb269, gb270) _ ⟨hHeld, BK262.out, BK263.out, BK264.out, BK269.out, BK270.out, GW269.out, GE269.out, NB262_269.out, NB269_262.out, NB263_269.out, NB269_263.out, NB264_269.out, NB269_264.out, NB270_269.out, NB269_270.out, GW270.out, GE270.out, NB262_270.out, NB270_262.out, NB263_270.out, NB270_263.out, NB264_270.out, NB270_264.out, HB.out⟩)
 ·rintro gb270 w11 ⟨hS_, h0_, h1_, h2_, h3_, h4_, h5_, h6_, h7_, h8_, h9_, h10_, h11_, h12_⟩
  have n0_ : A_ (w11.heap[gb262]? = some (.cells #[.int .i64 a0_0, .int .i64 a0_1] 26 (0, 0))) := ⟨h0_⟩
  have n1_ : A_ (w11.heap[gb263]? = some (.cells #[.int .i64 a1_0, .int .i64 a1_1] 26 (0, 0))) := ⟨h1_⟩
  have n2_ : A_ (w11.heap[gb264]? = some (.cells #[.int .i64 0, .int .i64 0] 26 (0, 0))) := ⟨h2_⟩
  have n3_ : A_ (w11.heap[gb270]? = some (.cells #[.int .i64 0, .int .i64 0] 26 (0, 0))) := ⟨h3_⟩
  have n4_ : A_ (w.heap.size ≤ gb270) := ⟨h4_⟩
  have n5_ : A_ (w.heap.size ≤ gb270) := ⟨h5_⟩
  have n6_ : A_ (gb262 ≠ gb270) := ⟨h6_⟩
  have n7_ : A_ (gb270 ≠ gb262) := ⟨h7_⟩
  have n8_ : A_ (gb263 ≠ gb270) := ⟨h8_⟩
  have n9_ : A_ (gb270 ≠ gb263) := ⟨h9_⟩
  have n10_ : A_ (gb264 ≠ gb270) := ⟨h10_⟩
  have n11_ : A_ (gb270 ≠ gb264) := ⟨h11_⟩
  have n12_ : A_ (Below w.heap.size w w11) := ⟨h12_⟩
  clear BK262
  clear BK263
  clear BK264
  clear HB
  clear h0_ h1_ h2_ h3_ h4_ h5_ h6_ h7_ h8_ h9_ h10_ h11_ h12_
  have BK262 := n0_
  have BK263 := n1_
  have BK264 := n2_
  have BK270 := n3_
  have GW270 := n4_
  have GE270 := n5_
  have NB262_270 := n6_
  have NB270_262 := n7_
  have NB263_270 := n8_
  have NB270_263 := n9_
  have NB264_270 := n10_
  have NB270_264 := n11_
  have HB := n12_
  clear n0_ n1_ n2_ n3_ n4_ n5_ n6_ n7_ n8_ n9_ n10_ n11_ n12_
  have hHeld : w11.cell? ⟨gb262, 0, none⟩ = some (.int .i64 a0_0) ∧ w11.cell? ⟨gb262, 1, none⟩ = some (.int .i64 a0_1) ∧ w11.cell? ⟨gb263, 0, none⟩ = some (.int .i64 a1_0) ∧ w11.cell? ⟨gb263, 1, none⟩ = some (.int .i64 a1_1) := hS_
  refine norm_ (a' := ?_) ?_ ?_
  rotate_left
  ·simp only [putAll, Act.put, sI_, s0_, s1_]
   rfl
  refine two_ (i := 9) (j := 10) (Ni := some 16) (Nj := some 5) (m_ 14 3071) (m_ 14 3583) rfl rfl rfl rfl (two_of HT_.out (by kernel_rfl)) (by decide) (by decide) (fun K hK => ?_) (fun K hK => ?_)
  ·refine goes_ Tryd.func69 (by kernel_rfl) rfl #[.int .i64 a1_0, .int .i64 a0_1] (by rfl) rfl rfl (by (try simp only [List.map_toArray, List.map_cons, List.map_nil]); (rfl)) ?_
   with_reducible refine (spec_l2Cut.calls k a1_0 a0_1 t267 t268 _ A4.out).mono ?_
   rintro e w12 ⟨rfl, hb⟩
   refine ⟨_, rfl, ?_⟩
   replace BK262 := A_.mk (blk_below BK262.out hb)
   replace BK263 := A_.mk (blk_below BK263.out hb)
   replace BK264 := A_.mk (blk_below BK264.out hb)
   replace BK270 := A_.mk (blk_below BK270.out hb)
   replace HB := A_.mk (below_step HB.out hb)
   (try clear hb)
   skip
   skip
   skip
   refine hK.out _ _ ⟨(blk_cell BK262.out 0).trans rfl, (blk_cell BK262.out 1).trans rfl, (blk_cell BK263.out 0).trans rfl, (blk_cell BK263.out 1).trans rfl⟩ (fun hHeld => ?_)
   clear hK K
   exact norm_ (by simp only [putAll, Act.put, sI_, s0_, s1_]; try rfl) (hJ4_9_11 (gb270) _ ⟨hHeld, BK262.out, BK263.out, BK264.out, BK270.out, GW270.out, GE270.out, NB262_270.out, NB270_262.out, NB263_270.out, NB270_263.out, NB264_270.out, NB270_264.out, HB.out⟩)
  ·refine box_step ?hg (N := 5) ?hd (cs := #[.int .i64 0, .int .i64 0]) (t := 26) ?hr ?_; (case hd => rfl); (case hg => rfl); (case hr => (go_simp; done))
   intro gb269 hg w12 hbox hb
   have BK269 := A_.mk (hbox)
   have GW269 := A_.mk ((by rw [hg]; exact (below_size HB.out) : w.heap.size ≤ gb269))
   have GE269 := A_.mk ((by rw [hg]; exact (below_size HB.out) : w.heap.size ≤ gb269))
   replace HB := A_.mk (below_step HB.out hb)
   have NB262_269 := A_.mk ((by rw [hg]; exact Nat.ne_of_lt (blk_lt BK262.out) : gb262 ≠ gb269))
   have NB269_262 := A_.mk ((by rw [hg]; exact Nat.ne_of_gt (blk_lt BK262.out) : gb269 ≠ gb262))
   replace BK262 := A_.mk (blk_below BK262.out hb)
   have NB263_269 := A_.mk ((by rw [hg]; exact Nat.ne_of_lt (blk_lt BK263.out) : gb263 ≠ gb269))
   have NB269_263 := A_.mk ((by rw [hg]; exact Nat.ne_of_gt (blk_lt BK263.out) : gb269 ≠ gb263))
   replace BK263 := A_.mk (blk_below BK263.out hb)
   have NB264_269 := A_.mk ((by rw [hg]; exact Nat.ne_of_lt (blk_lt BK264.out) : gb264 ≠ gb269))
   have NB269_264 := A_.mk ((by rw [hg]; exact Nat.ne_of_gt (blk_lt BK264.out) : gb269 ≠ gb264))
   replace BK264 := A_.mk (blk_below BK264.out hb)
   have NB270_269 := A_.mk ((by rw [hg]; exact Nat.ne_of_lt (blk_lt BK270.out) : gb270 ≠ gb269))
   have NB269_270 := A_.mk ((by rw [hg]; exact Nat.ne_of_gt (blk_lt BK270.out) : gb269 ≠ gb270))
   replace BK270 := A_.mk (blk_below BK270.out hb)
   clear hb hbox hg
   refine hK.out _ _ ⟨(blk_cell BK262.out 0).trans rfl, (blk_cell BK262.out 1).trans rfl, (blk_cell BK263.out 0).trans rfl, (blk_cell BK263.out 1).trans rfl⟩ (fun hHeld => ?_)
   clear hK K
   exact norm_ (by simp only [putAll, Act.put, sI_, s0_, s1_]; try rfl) (hJ4_10_11 (gb269, gb270) _ ⟨hHeld, BK262.out, BK263.out, BK264.out, BK269.out, BK270.out, GW269.out, GE269.out, NB262_269.out, NB269_262.out, NB263_269.out, NB269_263.out, NB264_269.out, NB269_264.out, NB270_269.out, NB269_270.out, GW270.out, GE270.out, NB262_270.out, NB270_262.out, NB263_270.out, NB270_263.out, NB264_270.out, NB270_264.out, HB.out⟩)
 ·rintro gb269 w11 ⟨hS_, h0_, h1_, h2_, h3_, h4_, h5_, h6_, h7_, h8_, h9_, h10_, h11_, h12_⟩
  have n0_ : A_ (w11.heap[gb262]? = some (.cells #[.int .i64 a0_0, .int .i64 a0_1] 26 (0, 0))) := ⟨h0_⟩
  have n1_ : A_ (w11.heap[gb263]? = some (.cells #[.int .i64 a1_0, .int .i64 a1_1] 26 (0, 0))) := ⟨h1_⟩
  have n2_ : A_ (w11.heap[gb264]? = some (.cells #[.int .i64 0, .int .i64 0] 26 (0, 0))) := ⟨h2_⟩
  have n3_ : A_ (w11.heap[gb269]? = some (.cells #[.int .i64 0, .int .i64 0] 26 (0, 0))) := ⟨h3_⟩
  have n4_ : A_ (w.heap.size ≤ gb269) := ⟨h4_⟩
  have n5_ : A_ (w.heap.size ≤ gb269) := ⟨h5_⟩
  have n6_ : A_ (gb262 ≠ gb269) := ⟨h6_⟩
  have n7_ : A_ (gb269 ≠ gb262) := ⟨h7_⟩
  have n8_ : A_ (gb263 ≠ gb269) := ⟨h8_⟩
  have n9_ : A_ (gb269 ≠ gb263) := ⟨h9_⟩
  have n10_ : A_ (gb264 ≠ gb269) := ⟨h10_⟩
  have n11_ : A_ (gb269 ≠ gb264) := ⟨h11_⟩
  have n12_ : A_ (Below w.heap.size w w11) := ⟨h12_⟩
  clear BK262
  clear BK263
  clear BK264
  clear HB
  clear h0_ h1_ h2_ h3_ h4_ h5_ h6_ h7_ h8_ h9_ h10_ h11_ h12_
  have BK262 := n0_
  have BK263 := n1_
  have BK264 := n2_
  have BK269 := n3_
  have GW269 := n4_
  have GE269 := n5_
  have NB262_269 := n6_
  have NB269_262 := n7_
  have NB263_269 := n8_
  have NB269_263 := n9_
  have NB264_269 := n10_
  have NB269_264 := n11_
  have HB := n12_
  clear n0_ n1_ n2_ n3_ n4_ n5_ n6_ n7_ n8_ n9_ n10_ n11_ n12_
  have hHeld : w11.cell? ⟨gb262, 0, none⟩ = some (.int .i64 a0_0) ∧ w11.cell? ⟨gb262, 1, none⟩ = some (.int .i64 a0_1) ∧ w11.cell? ⟨gb263, 0, none⟩ = some (.int .i64 a1_0) ∧ w11.cell? ⟨gb263, 1, none⟩ = some (.int .i64 a1_1) := hS_
  refine norm_ (a' := ?_) ?_ ?_
  rotate_left
  ·simp only [putAll, Act.put, sI_, s0_, s1_]
   rfl
  refine two_ (i := 9) (j := 11) (Ni := some 16) (Nj := some 6) (m_ 14 2047) (m_ 14 3583) rfl rfl rfl rfl (two_of HT_.out (by kernel_rfl)) (by decide) (by decide) (fun K hK => ?_) (fun K hK => ?_)
  ·refine goes_ Tryd.func69 (by kernel_rfl) rfl #[.int .i64 a1_0, .int .i64 a0_1] (by rfl) rfl rfl (by (try simp only [List.map_toArray, List.map_cons, List.map_nil]); (rfl)) ?_
   with_reducible refine (spec_l2Cut.calls k a1_0 a0_1 t267 t268 _ A4.out).mono ?_
   rintro e w12 ⟨rfl, hb⟩
   refine ⟨_, rfl, ?_⟩
   replace BK262 := A_.mk (blk_below BK262.out hb)
   replace BK263 := A_.mk (blk_below BK263.out hb)
   replace BK264 := A_.mk (blk_below BK264.out hb)
   replace BK269 := A_.mk (blk_below BK269.out hb)
   replace HB := A_.mk (below_step HB.out hb)
   (try clear hb)
   skip
   skip
   skip
   refine hK.out _ _ ⟨(blk_cell BK262.out 0).trans rfl, (blk_cell BK262.out 1).trans rfl, (blk_cell BK263.out 0).trans rfl, (blk_cell BK263.out 1).trans rfl⟩ (fun hHeld => ?_)
   clear hK K
   exact norm_ (by simp only [putAll, Act.put, sI_, s0_, s1_]; try rfl) (hJ4_9_10 (gb269) _ ⟨hHeld, BK262.out, BK263.out, BK264.out, BK269.out, GW269.out, GE269.out, NB262_269.out, NB269_262.out, NB263_269.out, NB269_263.out, NB264_269.out, NB269_264.out, HB.out⟩)
  ·refine box_step ?hg (N := 6) ?hd (cs := #[.int .i64 0, .int .i64 0]) (t := 26) ?hr ?_; (case hd => rfl); (case hg => rfl); (case hr => (go_simp; done))
   intro gb270 hg w12 hbox hb
   have BK270 := A_.mk (hbox)
   have GW270 := A_.mk ((by rw [hg]; exact (below_size HB.out) : w.heap.size ≤ gb270))
   have GE270 := A_.mk ((by rw [hg]; exact (below_size HB.out) : w.heap.size ≤ gb270))
   replace HB := A_.mk (below_step HB.out hb)
   have NB262_270 := A_.mk ((by rw [hg]; exact Nat.ne_of_lt (blk_lt BK262.out) : gb262 ≠ gb270))
   have NB270_262 := A_.mk ((by rw [hg]; exact Nat.ne_of_gt (blk_lt BK262.out) : gb270 ≠ gb262))
   replace BK262 := A_.mk (blk_below BK262.out hb)
   have NB263_270 := A_.mk ((by rw [hg]; exact Nat.ne_of_lt (blk_lt BK263.out) : gb263 ≠ gb270))
   have NB270_263 := A_.mk ((by rw [hg]; exact Nat.ne_of_gt (blk_lt BK263.out) : gb270 ≠ gb263))
   replace BK263 := A_.mk (blk_below BK263.out hb)
   have NB264_270 := A_.mk ((by rw [hg]; exact Nat.ne_of_lt (blk_lt BK264.out) : gb264 ≠ gb270))
   have NB270_264 := A_.mk ((by rw [hg]; exact Nat.ne_of_gt (blk_lt BK264.out) : gb270 ≠ gb264))
   replace BK264 := A_.mk (blk_below BK264.out hb)
   have NB269_270 := A_.mk ((by rw [hg]; exact Nat.ne_of_lt (blk_lt BK269.out) : gb269 ≠ gb270))
   have NB270_269 := A_.mk ((by rw [hg]; exact Nat.ne_of_gt (blk_lt BK269.out) : gb270 ≠ gb269))
   replace BK269 := A_.mk (blk_below BK269.out hb)
   clear hb hbox hg
   refine hK.out _ _ ⟨(blk_cell BK262.out 0).trans rfl, (blk_cell BK262.out 1).trans rfl, (blk_cell BK263.out 0).trans rfl, (blk_cell BK263.out 1).trans rfl⟩ (fun hHeld => ?_)
   clear hK K
   exact norm_ (by simp only [putAll, Act.put, sI_, s0_, s1_]; try rfl) (hJ4_10_11 (gb269, gb270) _ ⟨hHeld, BK262.out, BK263.out, BK264.out, BK269.out, BK270.out, GW269.out, GE269.out, NB262_269.out, NB269_262.out, NB263_269.out, NB269_263.out, NB264_269.out, NB269_264.out, NB270_269.out, NB269_270.out, GW270.out, GE270.out, NB262_270.out, NB270_262.out, NB263_270.out, NB270_263.out, NB264_270.out, NB270_264.out, HB.out⟩)
 ·rintro _ w11 ⟨hS_, h0_, h1_, h2_, h3_⟩
  have n0_ : A_ (w11.heap[gb262]? = some (.cells #[.int .i64 a0_0, .int .i64 a0_1] 26 (0, 0))) := ⟨h0_⟩
  have n1_ : A_ (w11.heap[gb263]? = some (.cells #[.int .i64 a1_0, .int .i64 a1_1] 26 (0, 0))) := ⟨h1_⟩
  have n2_ : A_ (w11.heap[gb264]? = some (.cells #[.int .i64 0, .int .i64 0] 26 (0, 0))) := ⟨h2_⟩
  have n3_ : A_ (Below w.heap.size w w11) := ⟨h3_⟩
  clear BK262
  clear BK263
  clear BK264
  clear HB
  clear h0_ h1_ h2_ h3_
  have BK262 := n0_
  have BK263 := n1_
  have BK264 := n2_
  have HB := n3_
  clear n0_ n1_ n2_ n3_
  have hHeld : w11.cell? ⟨gb262, 0, none⟩ = some (.int .i64 a0_0) ∧ w11.cell? ⟨gb262, 1, none⟩ = some (.int .i64 a0_1) ∧ w11.cell? ⟨gb263, 0, none⟩ = some (.int .i64 a1_0) ∧ w11.cell? ⟨gb263, 1, none⟩ = some (.int .i64 a1_1) := hS_
  refine norm_ (a' := ?_) ?_ ?_
  rotate_left
  ·simp only [putAll, Act.put, sI_, s0_, s1_]
   rfl
  refine two_ (i := 10) (j := 11) (Ni := some 5) (Nj := some 6) (m_ 14 2047) (m_ 14 3071) rfl rfl rfl rfl (two_of HT_.out (by kernel_rfl)) (by decide) (by decide) (fun K hK => ?_) (fun K hK => ?_)
  ·refine box_step ?hg (N := 5) ?hd (cs := #[.int .i64 0, .int .i64 0]) (t := 26) ?hr ?_; (case hd => rfl); (case hg => rfl); (case hr => (go_simp; done))
   intro gb269 hg w12 hbox hb
   have BK269 := A_.mk (hbox)
   have GW269 := A_.mk ((by rw [hg]; exact (below_size HB.out) : w.heap.size ≤ gb269))
   have GE269 := A_.mk ((by rw [hg]; exact (below_size HB.out) : w.heap.size ≤ gb269))
   replace HB := A_.mk (below_step HB.out hb)
   have NB262_269 := A_.mk ((by rw [hg]; exact Nat.ne_of_lt (blk_lt BK262.out) : gb262 ≠ gb269))
   have NB269_262 := A_.mk ((by rw [hg]; exact Nat.ne_of_gt (blk_lt BK262.out) : gb269 ≠ gb262))
   replace BK262 := A_.mk (blk_below BK262.out hb)
   have NB263_269 := A_.mk ((by rw [hg]; exact Nat.ne_of_lt (blk_lt BK263.out) : gb263 ≠ gb269))
   have NB269_263 := A_.mk ((by rw [hg]; exact Nat.ne_of_gt (blk_lt BK263.out) : gb269 ≠ gb263))
   replace BK263 := A_.mk (blk_below BK263.out hb)
   have NB264_269 := A_.mk ((by rw [hg]; exact Nat.ne_of_lt (blk_lt BK264.out) : gb264 ≠ gb269))
   have NB269_264 := A_.mk ((by rw [hg]; exact Nat.ne_of_gt (blk_lt BK264.out) : gb269 ≠ gb264))
   replace BK264 := A_.mk (blk_below BK264.out hb)
   clear hb hbox hg
   refine hK.out _ _ ⟨(blk_cell BK262.out 0).trans rfl, (blk_cell BK262.out 1).trans rfl, (blk_cell BK263.out 0).trans rfl, (blk_cell BK263.out 1).trans rfl⟩ (fun hHeld => ?_)
   clear hK K
   exact norm_ (by simp only [putAll, Act.put, sI_, s0_, s1_]; try rfl) (hJ4_9_10 (gb269) _ ⟨hHeld, BK262.out, BK263.out, BK264.out, BK269.out, GW269.out, GE269.out, NB262_269.out, NB269_262.out, NB263_269.out, NB269_263.out, NB264_269.out, NB269_264.out, HB.out⟩)
  ·refine box_step ?hg (N := 6) ?hd (cs := #[.int .i64 0, .int .i64 0]) (t := 26) ?hr ?_; (case hd => rfl); (case hg => rfl); (case hr => (go_simp; done))
   intro gb270 hg w12 hbox hb
   have BK270 := A_.mk (hbox)
   have GW270 := A_.mk ((by rw [hg]; exact (below_size HB.out) : w.heap.size ≤ gb270))
   have GE270 := A_.mk ((by rw [hg]; exact (below_size HB.out) : w.heap.size ≤ gb270))
   replace HB := A_.mk (below_step HB.out hb)
   have NB262_270 := A_.mk ((by rw [hg]; exact Nat.ne_of_lt (blk_lt BK262.out) : gb262 ≠ gb270))
   have NB270_262 := A_.mk ((by rw [hg]; exact Nat.ne_of_gt (blk_lt BK262.out) : gb270 ≠ gb262))
   replace BK262 := A_.mk (blk_below BK262.out hb)
   have NB263_270 := A_.mk ((by rw [hg]; exact Nat.ne_of_lt (blk_lt BK263.out) : gb263 ≠ gb270))
   have NB270_263 := A_.mk ((by rw [hg]; exact Nat.ne_of_gt (blk_lt BK263.out) : gb270 ≠ gb263))
   replace BK263 := A_.mk (blk_below BK263.out hb)
   have NB264_270 := A_.mk ((by rw [hg]; exact Nat.ne_of_lt (blk_lt BK264.out) : gb264 ≠ gb270))
   have NB270_264 := A_.mk ((by rw [hg]; exact Nat.ne_of_gt (blk_lt BK264.out) : gb270 ≠ gb264))
   replace BK264 := A_.mk (blk_below BK264.out hb)
   clear hb hbox hg
   refine hK.out _ _ ⟨(blk_cell BK262.out 0).trans rfl, (blk_cell BK262.out 1).trans rfl, (blk_cell BK263.out 0).trans rfl, (blk_cell BK263.out 1).trans rfl⟩ (fun hHeld => ?_)
   clear hK K
   exact norm_ (by simp only [putAll, Act.put, sI_, s0_, s1_]; try rfl) (hJ4_9_11 (gb270) _ ⟨hHeld, BK262.out, BK263.out, BK264.out, BK270.out, GW270.out, GE270.out, NB262_270.out, NB270_262.out, NB263_270.out, NB270_263.out, NB264_270.out, NB270_264.out, HB.out⟩)
 ·rintro ⟨gb269, gb270⟩ w12 ⟨hS_, h0_, h1_, h2_, h3_, h4_, h5_, h6_, h7_, h8_, h9_, h10_, h11_, h12_, h13_, h14_, h15_, h16_, h17_, h18_, h19_, h20_, h21_, h22_, h23_⟩
  have n0_ : A_ (w12.heap[gb262]? = some (.cells #[.int .i64 a0_0, .int .i64 a0_1] 26 (0, 0))) := ⟨h0_⟩
  have n1_ : A_ (w12.heap[gb263]? = some (.cells #[.int .i64 a1_0, .int .i64 a1_1] 26 (0, 0))) := ⟨h1_⟩
  have n2_ : A_ (w12.heap[gb264]? = some (.cells #[.int .i64 0, .int .i64 0] 26 (0, 0))) := ⟨h2_⟩
  have n3_ : A_ (w12.heap[gb269]? = some (.cells #[.int .i64 0, .int .i64 0] 26 (0, 0))) := ⟨h3_⟩
  have n4_ : A_ (w12.heap[gb270]? = some (.cells #[.int .i64 0, .int .i64 0] 26 (0, 0))) := ⟨h4_⟩
  have n5_ : A_ (w.heap.size ≤ gb269) := ⟨h5_⟩
  have n6_ : A_ (w.heap.size ≤ gb269) := ⟨h6_⟩
  have n7_ : A_ (gb262 ≠ gb269) := ⟨h7_⟩
  have n8_ : A_ (gb269 ≠ gb262) := ⟨h8_⟩
  have n9_ : A_ (gb263 ≠ gb269) := ⟨h9_⟩
  have n10_ : A_ (gb269 ≠ gb263) := ⟨h10_⟩
  have n11_ : A_ (gb264 ≠ gb269) := ⟨h11_⟩
  have n12_ : A_ (gb269 ≠ gb264) := ⟨h12_⟩
  have n13_ : A_ (gb270 ≠ gb269) := ⟨h13_⟩
  have n14_ : A_ (gb269 ≠ gb270) := ⟨h14_⟩
  have n15_ : A_ (w.heap.size ≤ gb270) := ⟨h15_⟩
  have n16_ : A_ (w.heap.size ≤ gb270) := ⟨h16_⟩
  have n17_ : A_ (gb262 ≠ gb270) := ⟨h17_⟩
  have n18_ : A_ (gb270 ≠ gb262) := ⟨h18_⟩
  have n19_ : A_ (gb263 ≠ gb270) := ⟨h19_⟩
  have n20_ : A_ (gb270 ≠ gb263) := ⟨h20_⟩
  have n21_ : A_ (gb264 ≠ gb270) := ⟨h21_⟩
  have n22_ : A_ (gb270 ≠ gb264) := ⟨h22_⟩
  have n23_ : A_ (Below w.heap.size w w12) := ⟨h23_⟩
  clear BK262
  clear BK263
  clear BK264
  clear HB
  clear h0_ h1_ h2_ h3_ h4_ h5_ h6_ h7_ h8_ h9_ h10_ h11_ h12_ h13_ h14_ h15_ h16_ h17_ h18_ h19_ h20_ h21_ h22_ h23_
  have BK262 := n0_
  have BK263 := n1_
  have BK264 := n2_
  have BK269 := n3_
  have BK270 := n4_
  have GW269 := n5_
  have GE269 := n6_
  have NB262_269 := n7_
  have NB269_262 := n8_
  have NB263_269 := n9_
  have NB269_263 := n10_
  have NB264_269 := n11_
  have NB269_264 := n12_
  have NB270_269 := n13_
  have NB269_270 := n14_
  have GW270 := n15_
  have GE270 := n16_
  have NB262_270 := n17_
  have NB270_262 := n18_
  have NB263_270 := n19_
  have NB270_263 := n20_
  have NB264_270 := n21_
  have NB270_264 := n22_
  have HB := n23_
  clear n0_ n1_ n2_ n3_ n4_ n5_ n6_ n7_ n8_ n9_ n10_ n11_ n12_ n13_ n14_ n15_ n16_ n17_ n18_ n19_ n20_ n21_ n22_ n23_
  have hHeld : w12.cell? ⟨gb262, 0, none⟩ = some (.int .i64 a0_0) ∧ w12.cell? ⟨gb262, 1, none⟩ = some (.int .i64 a0_1) ∧ w12.cell? ⟨gb263, 0, none⟩ = some (.int .i64 a1_0) ∧ w12.cell? ⟨gb263, 1, none⟩ = some (.int .i64 a1_1) := hS_
  refine norm_ (a' := ?_) ?_ ?_
  rotate_left
  ·simp only [putAll, Act.put, sI_, s0_, s1_]
   rfl
  refine one_ (i := 9) (N := some 16) (m_ 14 4095) rfl rfl (one_of HT_.out (by kernel_rfl)) (by decide) (fun K hK => ?_)
  refine goes_ Tryd.func69 (by kernel_rfl) rfl #[.int .i64 a1_0, .int .i64 a0_1] (by rfl) rfl rfl (by (try simp only [List.map_toArray, List.map_cons, List.map_nil]); (rfl)) ?_
  with_reducible refine (spec_l2Cut.calls k a1_0 a0_1 t267 t268 _ A4.out).mono ?_
  rintro e w13 ⟨rfl, hb⟩
  refine ⟨_, rfl, ?_⟩
  replace BK262 := A_.mk (blk_below BK262.out hb)
  replace BK263 := A_.mk (blk_below BK263.out hb)
  replace BK264 := A_.mk (blk_below BK264.out hb)
  replace BK269 := A_.mk (blk_below BK269.out hb)
  replace BK270 := A_.mk (blk_below BK270.out hb)
  replace HB := A_.mk (below_step HB.out hb)
  (try clear hb)
  skip
  skip
  skip
  refine hK.out _ _ ⟨(blk_cell BK262.out 0).trans rfl, (blk_cell BK262.out 1).trans rfl, (blk_cell BK263.out 0).trans rfl, (blk_cell BK263.out 1).trans rfl⟩ (fun hHeld => ?_)
  clear hK K
  exact norm_ (by simp only [putAll, Act.put, sI_, s0_, s1_]; try rfl) (hJ4_9_10_11 (gb269, gb270) _ ⟨hHeld, BK262.out, BK263.out, BK264.out, BK269.out, BK270.out, GW269.out, GE269.out, NB262_269.out, NB269_262.out, NB263_269.out, NB269_263.out, NB264_269.out, NB269_264.out, NB270_269.out, NB269_270.out, GW270.out, GE270.out, NB262_270.out, NB270_262.out, NB263_270.out, NB270_263.out, NB264_270.out, NB270_264.out, HB.out⟩)
 ·rintro gb270 w12 ⟨hS_, h0_, h1_, h2_, h3_, h4_, h5_, h6_, h7_, h8_, h9_, h10_, h11_, h12_⟩
  have n0_ : A_ (w12.heap[gb262]? = some (.cells #[.int .i64 a0_0, .int .i64 a0_1] 26 (0, 0))) := ⟨h0_⟩
  have n1_ : A_ (w12.heap[gb263]? = some (.cells #[.int .i64 a1_0, .int .i64 a1_1] 26 (0, 0))) := ⟨h1_⟩
  have n2_ : A_ (w12.heap[gb264]? = some (.cells #[.int .i64 0, .int .i64 0] 26 (0, 0))) := ⟨h2_⟩
  have n3_ : A_ (w12.heap[gb270]? = some (.cells #[.int .i64 0, .int .i64 0] 26 (0, 0))) := ⟨h3_⟩
  have n4_ : A_ (w.heap.size ≤ gb270) := ⟨h4_⟩
  have n5_ : A_ (w.heap.size ≤ gb270) := ⟨h5_⟩
  have n6_ : A_ (gb262 ≠ gb270) := ⟨h6_⟩
  have n7_ : A_ (gb270 ≠ gb262) := ⟨h7_⟩
  have n8_ : A_ (gb263 ≠ gb270) := ⟨h8_⟩
  have n9_ : A_ (gb270 ≠ gb263) := ⟨h9_⟩
  have n10_ : A_ (gb264 ≠ gb270) := ⟨h10_⟩
  have n11_ : A_ (gb270 ≠ gb264) := ⟨h11_⟩
  have n12_ : A_ (Below w.heap.size w w12) := ⟨h12_⟩
  clear BK262
  clear BK263
  clear BK264
  clear HB
  clear h0_ h1_ h2_ h3_ h4_ h5_ h6_ h7_ h8_ h9_ h10_ h11_ h12_
  have BK262 := n0_
  have BK263 := n1_
  have BK264 := n2_
  have BK270 := n3_
  have GW270 := n4_
  have GE270 := n5_
  have NB262_270 := n6_
  have NB270_262 := n7_
  have NB263_270 := n8_
  have NB270_263 := n9_
  have NB264_270 := n10_
  have NB270_264 := n11_
  have HB := n12_
  clear n0_ n1_ n2_ n3_ n4_ n5_ n6_ n7_ n8_ n9_ n10_ n11_ n12_
  have hHeld : w12.cell? ⟨gb262, 0, none⟩ = some (.int .i64 a0_0) ∧ w12.cell? ⟨gb262, 1, none⟩ = some (.int .i64 a0_1) ∧ w12.cell? ⟨gb263, 0, none⟩ = some (.int .i64 a1_0) ∧ w12.cell? ⟨gb263, 1, none⟩ = some (.int .i64 a1_1) := hS_
  refine norm_ (a' := ?_) ?_ ?_
  rotate_left
  ·simp only [putAll, Act.put, sI_, s0_, s1_]
   rfl
  refine one_ (i := 10) (N := some 5) (m_ 14 4095) rfl rfl (one_of HT_.out (by kernel_rfl)) (by decide) (fun K hK => ?_)
  refine box_step ?hg (N := 5) ?hd (cs := #[.int .i64 0, .int .i64 0]) (t := 26) ?hr ?_; (case hd => rfl); (case hg => rfl); (case hr => (go_simp; done))
  intro gb269 hg w13 hbox hb
  have BK269 := A_.mk (hbox)
  have GW269 := A_.mk ((by rw [hg]; exact (below_size HB.out) : w.heap.size ≤ gb269))
  have GE269 := A_.mk ((by rw [hg]; exact (below_size HB.out) : w.heap.size ≤ gb269))
  replace HB := A_.mk (below_step HB.out hb)
  have NB262_269 := A_.mk ((by rw [hg]; exact Nat.ne_of_lt (blk_lt BK262.out) : gb262 ≠ gb269))
  have NB269_262 := A_.mk ((by rw [hg]; exact Nat.ne_of_gt (blk_lt BK262.out) : gb269 ≠ gb262))
  replace BK262 := A_.mk (blk_below BK262.out hb)
  have NB263_269 := A_.mk ((by rw [hg]; exact Nat.ne_of_lt (blk_lt BK263.out) : gb263 ≠ gb269))
  have NB269_263 := A_.mk ((by rw [hg]; exact Nat.ne_of_gt (blk_lt BK263.out) : gb269 ≠ gb263))
  replace BK263 := A_.mk (blk_below BK263.out hb)
  have NB264_269 := A_.mk ((by rw [hg]; exact Nat.ne_of_lt (blk_lt BK264.out) : gb264 ≠ gb269))
  have NB269_264 := A_.mk ((by rw [hg]; exact Nat.ne_of_gt (blk_lt BK264.out) : gb269 ≠ gb264))
  replace BK264 := A_.mk (blk_below BK264.out hb)
  have NB270_269 := A_.mk ((by rw [hg]; exact Nat.ne_of_lt (blk_lt BK270.out) : gb270 ≠ gb269))
  have NB269_270 := A_.mk ((by rw [hg]; exact Nat.ne_of_gt (blk_lt BK270.out) : gb269 ≠ gb270))
  replace BK270 := A_.mk (blk_below BK270.out hb)
  clear hb hbox hg
  refine hK.out _ _ ⟨(blk_cell BK262.out 0).trans rfl, (blk_cell BK262.out 1).trans rfl, (blk_cell BK263.out 0).trans rfl, (blk_cell BK263.out 1).trans rfl⟩ (fun hHeld => ?_)
  clear hK K
  exact norm_ (by simp only [putAll, Act.put, sI_, s0_, s1_]; try rfl) (hJ4_9_10_11 (gb269, gb270) _ ⟨hHeld, BK262.out, BK263.out, BK264.out, BK269.out, BK270.out, GW269.out, GE269.out, NB262_269.out, NB269_262.out, NB263_269.out, NB269_263.out, NB264_269.out, NB269_264.out, NB270_269.out, NB269_270.out, GW270.out, GE270.out, NB262_270.out, NB270_262.out, NB263_270.out, NB270_263.out, NB264_270.out, NB270_264.out, HB.out⟩)
 ·rintro gb269 w12 ⟨hS_, h0_, h1_, h2_, h3_, h4_, h5_, h6_, h7_, h8_, h9_, h10_, h11_, h12_⟩
  have n0_ : A_ (w12.heap[gb262]? = some (.cells #[.int .i64 a0_0, .int .i64 a0_1] 26 (0, 0))) := ⟨h0_⟩
  have n1_ : A_ (w12.heap[gb263]? = some (.cells #[.int .i64 a1_0, .int .i64 a1_1] 26 (0, 0))) := ⟨h1_⟩
  have n2_ : A_ (w12.heap[gb264]? = some (.cells #[.int .i64 0, .int .i64 0] 26 (0, 0))) := ⟨h2_⟩
  have n3_ : A_ (w12.heap[gb269]? = some (.cells #[.int .i64 0, .int .i64 0] 26 (0, 0))) := ⟨h3_⟩
  have n4_ : A_ (w.heap.size ≤ gb269) := ⟨h4_⟩
  have n5_ : A_ (w.heap.size ≤ gb269) := ⟨h5_⟩
  have n6_ : A_ (gb262 ≠ gb269) := ⟨h6_⟩
  have n7_ : A_ (gb269 ≠ gb262) := ⟨h7_⟩
  have n8_ : A_ (gb263 ≠ gb269) := ⟨h8_⟩
  have n9_ : A_ (gb269 ≠ gb263) := ⟨h9_⟩
  have n10_ : A_ (gb264 ≠ gb269) := ⟨h10_⟩
  have n11_ : A_ (gb269 ≠ gb264) := ⟨h11_⟩
  have n12_ : A_ (Below w.heap.size w w12) := ⟨h12_⟩
  clear BK262
  clear BK263
  clear BK264
  clear HB
  clear h0_ h1_ h2_ h3_ h4_ h5_ h6_ h7_ h8_ h9_ h10_ h11_ h12_
  have BK262 := n0_
  have BK263 := n1_
  have BK264 := n2_
  have BK269 := n3_
  have GW269 := n4_
  have GE269 := n5_
  have NB262_269 := n6_
  have NB269_262 := n7_
  have NB263_269 := n8_
  have NB269_263 := n9_
  have NB264_269 := n10_
  have NB269_264 := n11_
  have HB := n12_
  clear n0_ n1_ n2_ n3_ n4_ n5_ n6_ n7_ n8_ n9_ n10_ n11_ n12_
  have hHeld : w12.cell? ⟨gb262, 0, none⟩ = some (.int .i64 a0_0) ∧ w12.cell? ⟨gb262, 1, none⟩ = some (.int .i64 a0_1) ∧ w12.cell? ⟨gb263, 0, none⟩ = some (.int .i64 a1_0) ∧ w12.cell? ⟨gb263, 1, none⟩ = some (.int .i64 a1_1) := hS_
  refine norm_ (a' := ?_) ?_ ?_
  rotate_left
  ·simp only [putAll, Act.put, sI_, s0_, s1_]
   rfl
  refine one_ (i := 11) (N := some 6) (m_ 14 4095) rfl rfl (one_of HT_.out (by kernel_rfl)) (by decide) (fun K hK => ?_)
  refine box_step ?hg (N := 6) ?hd (cs := #[.int .i64 0, .int .i64 0]) (t := 26) ?hr ?_; (case hd => rfl); (case hg => rfl); (case hr => (go_simp; done))
  intro gb270 hg w13 hbox hb
  have BK270 := A_.mk (hbox)
  have GW270 := A_.mk ((by rw [hg]; exact (below_size HB.out) : w.heap.size ≤ gb270))
  have GE270 := A_.mk ((by rw [hg]; exact (below_size HB.out) : w.heap.size ≤ gb270))
  replace HB := A_.mk (below_step HB.out hb)
  have NB262_270 := A_.mk ((by rw [hg]; exact Nat.ne_of_lt (blk_lt BK262.out) : gb262 ≠ gb270))
  have NB270_262 := A_.mk ((by rw [hg]; exact Nat.ne_of_gt (blk_lt BK262.out) : gb270 ≠ gb262))
  replace BK262 := A_.mk (blk_below BK262.out hb)
  have NB263_270 := A_.mk ((by rw [hg]; exact Nat.ne_of_lt (blk_lt BK263.out) : gb263 ≠ gb270))
  have NB270_263 := A_.mk ((by rw [hg]; exact Nat.ne_of_gt (blk_lt BK263.out) : gb270 ≠ gb263))
  replace BK263 := A_.mk (blk_below BK263.out hb)
  have NB264_270 := A_.mk ((by rw [hg]; exact Nat.ne_of_lt (blk_lt BK264.out) : gb264 ≠ gb270))
  have NB270_264 := A_.mk ((by rw [hg]; exact Nat.ne_of_gt (blk_lt BK264.out) : gb270 ≠ gb264))
  replace BK264 := A_.mk (blk_below BK264.out hb)
  have NB269_270 := A_.mk ((by rw [hg]; exact Nat.ne_of_lt (blk_lt BK269.out) : gb269 ≠ gb270))
  have NB270_269 := A_.mk ((by rw [hg]; exact Nat.ne_of_gt (blk_lt BK269.out) : gb270 ≠ gb269))
  replace BK269 := A_.mk (blk_below BK269.out hb)
  clear hb hbox hg
  refine hK.out _ _ ⟨(blk_cell BK262.out 0).trans rfl, (blk_cell BK262.out 1).trans rfl, (blk_cell BK263.out 0).trans rfl, (blk_cell BK263.out 1).trans rfl⟩ (fun hHeld => ?_)
  clear hK K
  exact norm_ (by simp only [putAll, Act.put, sI_, s0_, s1_]; try rfl) (hJ4_9_10_11 (gb269, gb270) _ ⟨hHeld, BK262.out, BK263.out, BK264.out, BK269.out, BK270.out, GW269.out, GE269.out, NB262_269.out, NB269_262.out, NB263_269.out, NB269_263.out, NB264_269.out, NB269_264.out, NB270_269.out, NB269_270.out, GW270.out, GE270.out, NB262_270.out, NB270_262.out, NB263_270.out, NB270_263.out, NB264_270.out, NB270_264.out, HB.out⟩)
 rintro ⟨gb269, gb270⟩ w13 ⟨hS_, h0_, h1_, h2_, h3_, h4_, h5_, h6_, h7_, h8_, h9_, h10_, h11_, h12_, h13_, h14_, h15_, h16_, h17_, h18_, h19_, h20_, h21_, h22_, h23_⟩
 have n0_ : A_ (w13.heap[gb262]? = some (.cells #[.int .i64 a0_0, .int .i64 a0_1] 26 (0, 0))) := ⟨h0_⟩
 have n1_ : A_ (w13.heap[gb263]? = some (.cells #[.int .i64 a1_0, .int .i64 a1_1] 26 (0, 0))) := ⟨h1_⟩
 have n2_ : A_ (w13.heap[gb264]? = some (.cells #[.int .i64 0, .int .i64 0] 26 (0, 0))) := ⟨h2_⟩
 have n3_ : A_ (w13.heap[gb269]? = some (.cells #[.int .i64 0, .int .i64 0] 26 (0, 0))) := ⟨h3_⟩
 have n4_ : A_ (w13.heap[gb270]? = some (.cells #[.int .i64 0, .int .i64 0] 26 (0, 0))) := ⟨h4_⟩
 have n5_ : A_ (w.heap.size ≤ gb269) := ⟨h5_⟩
 have n6_ : A_ (w.heap.size ≤ gb269) := ⟨h6_⟩
 have n7_ : A_ (gb262 ≠ gb269) := ⟨h7_⟩
 have n8_ : A_ (gb269 ≠ gb262) := ⟨h8_⟩
 have n9_ : A_ (gb263 ≠ gb269) := ⟨h9_⟩
 have n10_ : A_ (gb269 ≠ gb263) := ⟨h10_⟩
 have n11_ : A_ (gb264 ≠ gb269) := ⟨h11_⟩
 have n12_ : A_ (gb269 ≠ gb264) := ⟨h12_⟩
 have n13_ : A_ (gb270 ≠ gb269) := ⟨h13_⟩
 have n14_ : A_ (gb269 ≠ gb270) := ⟨h14_⟩
 have n15_ : A_ (w.heap.size ≤ gb270) := ⟨h15_⟩
 have n16_ : A_ (w.heap.size ≤ gb270) := ⟨h16_⟩
 have n17_ : A_ (gb262 ≠ gb270) := ⟨h17_⟩
 have n18_ : A_ (gb270 ≠ gb262) := ⟨h18_⟩
 have n19_ : A_ (gb263 ≠ gb270) := ⟨h19_⟩
 have n20_ : A_ (gb270 ≠ gb263) := ⟨h20_⟩
 have n21_ : A_ (gb264 ≠ gb270) := ⟨h21_⟩
 have n22_ : A_ (gb270 ≠ gb264) := ⟨h22_⟩
 have n23_ : A_ (Below w.heap.size w w13) := ⟨h23_⟩
 clear BK262
 clear BK263
 clear BK264
 clear HB
 clear h0_ h1_ h2_ h3_ h4_ h5_ h6_ h7_ h8_ h9_ h10_ h11_ h12_ h13_ h14_ h15_ h16_ h17_ h18_ h19_ h20_ h21_ h22_ h23_
 have BK262 := n0_
 have BK263 := n1_
 have BK264 := n2_
 have BK269 := n3_
 have BK270 := n4_
 have GW269 := n5_
 have GE269 := n6_
 have NB262_269 := n7_
 have NB269_262 := n8_
 have NB263_269 := n9_
 have NB269_263 := n10_
 have NB264_269 := n11_
 have NB269_264 := n12_
 have NB270_269 := n13_
 have NB269_270 := n14_
 have GW270 := n15_
 have GE270 := n16_
 have NB262_270 := n17_
 have NB270_262 := n18_
 have NB263_270 := n19_
 have NB270_263 := n20_
 have NB264_270 := n21_
 have NB270_264 := n22_
 have HB := n23_
 clear n0_ n1_ n2_ n3_ n4_ n5_ n6_ n7_ n8_ n9_ n10_ n11_ n12_ n13_ n14_ n15_ n16_ n17_ n18_ n19_ n20_ n21_ n22_ n23_
 have hHeld : w13.cell? ⟨gb262, 0, none⟩ = some (.int .i64 a0_0) ∧ w13.cell? ⟨gb262, 1, none⟩ = some (.int .i64 a0_1) ∧ w13.cell? ⟨gb263, 0, none⟩ = some (.int .i64 a1_0) ∧ w13.cell? ⟨gb263, 1, none⟩ = some (.int .i64 a1_1) := hS_
 refine norm_ (a' := ?_) ?_ ?_
 rotate_left
 ·simp only [putAll, Act.put, sI_, s0_, s1_]
  rfl
 refine one_ (i := 12) (N := none) (m_ 14 8191) rfl rfl (one_of HT_.out (by kernel_rfl)) (by decide) (fun K hK => ?_)
 have hs14 : w13.cell? ⟨gb269, 0, none⟩ = some (.int .i64 0) := (blk_cell BK269.out 0).trans rfl
 have hfs14 := blk_frozen BK269.out 0
 have hns14_0 := NB262_269.out
 have hns14_1 := NB263_269.out
 have hns14_2 := NB264_269.out
 have hns14_4 := NB270_269.out
 have hms14_0 := NB269_262.out
 have hms14_1 := NB269_263.out
 have hms14_2 := NB269_264.out
 have hms14_4 := NB269_270.out
 have hs15 : w13.cell? ⟨gb269, 1, none⟩ = some (.int .i64 0) := (blk_cell BK269.out 1).trans rfl
 have hfs15 := blk_frozen BK269.out 1
 have hns15_0 := NB262_269.out
 have hns15_1 := NB263_269.out
 have hns15_2 := NB264_269.out
 have hns15_4 := NB270_269.out
 have hms15_0 := NB269_262.out
 have hms15_1 := NB269_263.out
 have hms15_2 := NB269_264.out
 have hms15_4 := NB269_270.out
 refine skip_ (w1 := ?_) (by rfl) rfl ?_ ?_
 rotate_left
 ·go_simp
  rfl
 refine hK.out _ _ ⟨((cell_far (p := ⟨gb269, _, none⟩) NB262_269.out _).trans (((cell_far (p := ⟨gb269, _, none⟩) NB262_269.out _).trans (hHeld.1)))), ((cell_far (p := ⟨gb269, _, none⟩) NB262_269.out _).trans (((cell_far (p := ⟨gb269, _, none⟩) NB262_269.out _).trans (hHeld.2.1)))), ((cell_far (p := ⟨gb269, _, none⟩) NB263_269.out _).trans (((cell_far (p := ⟨gb269, _, none⟩) NB263_269.out _).trans (hHeld.2.2.1)))), ((cell_far (p := ⟨gb269, _, none⟩) NB263_269.out _).trans (((cell_far (p := ⟨gb269, _, none⟩) NB263_269.out _).trans (hHeld.2.2.2))))⟩ (fun hHeld => ?_)
 clear hK K
 refine one_ (i := 13) (N := none) (m_ 14 16383) rfl rfl (one_of HT_.out (by kernel_rfl)) (by decide) (fun K hK => ?_)
 have hs16 : w13.cell? ⟨gb270, 0, none⟩ = some (.int .i64 0) := (blk_cell BK270.out 0).trans rfl
 have hfs16 := blk_frozen BK270.out 0
 have hns16_0 := NB262_270.out
 have hns16_1 := NB263_270.out
 have hns16_2 := NB264_270.out
 have hns16_3 := NB269_270.out
 have hms16_0 := NB270_262.out
 have hms16_1 := NB270_263.out
 have hms16_2 := NB270_264.out
 have hms16_3 := NB270_269.out
 have hs17 : w13.cell? ⟨gb270, 1, none⟩ = some (.int .i64 0) := (blk_cell BK270.out 1).trans rfl
 have hfs17 := blk_frozen BK270.out 1
 have hns17_0 := NB262_270.out
 have hns17_1 := NB263_270.out
 have hns17_2 := NB264_270.out
 have hns17_3 := NB269_270.out
 have hms17_0 := NB270_262.out
 have hms17_1 := NB270_263.out
 have hms17_2 := NB270_264.out
 have hms17_3 := NB270_269.out
 refine skip_ (w1 := ?_) (by rfl) rfl ?_ ?_
 rotate_left
 ·go_simp
  rfl
 refine hK.out _ _ ⟨((cell_far (p := ⟨gb270, _, none⟩) NB262_270.out _).trans (((cell_far (p := ⟨gb270, _, none⟩) NB262_270.out _).trans (hHeld.1)))), ((cell_far (p := ⟨gb270, _, none⟩) NB262_270.out _).trans (((cell_far (p := ⟨gb270, _, none⟩) NB262_270.out _).trans (hHeld.2.1)))), ((cell_far (p := ⟨gb270, _, none⟩) NB263_270.out _).trans (((cell_far (p := ⟨gb270, _, none⟩) NB263_270.out _).trans (hHeld.2.2.1)))), ((cell_far (p := ⟨gb270, _, none⟩) NB263_270.out _).trans (((cell_far (p := ⟨gb270, _, none⟩) NB263_270.out _).trans (hHeld.2.2.2))))⟩ (fun hHeld => ?_)
 clear hK K
 refine done_ (done_of HT_.out (by kernel_rfl)) ?_
 have hnb18 := NB269_262.out
 have hnc18 := NB262_269.out
 have hnb19 := NB269_263.out
 have hnc19 := NB263_269.out
 have hnb20 := NB269_264.out
 have hnc20 := NB264_269.out
 have hnb21 := NB269_270.out
 have hnc21 := NB270_269.out
 have hcz22_0 : w13.cell? ⟨gb269, 0, none⟩ = some (.int .i64 0) := (blk_cell BK269.out 0).trans rfl
 have hcz22_1 : w13.cell? ⟨gb269, 1, none⟩ = some (.int .i64 0) := (blk_cell BK269.out 1).trans rfl
 have hfz22_0 := blk_frozen BK269.out 0
 have hfz22_1 := blk_frozen BK269.out 1
 have hnb23 := NB270_262.out
 have hnc23 := NB262_270.out
 have hnb24 := NB270_263.out
 have hnc24 := NB263_270.out
 have hnb25 := NB270_264.out
 have hnc25 := NB264_270.out
 have hcz26_0 : w13.cell? ⟨gb270, 0, none⟩ = some (.int .i64 0) := (blk_cell BK270.out 0).trans rfl
 have hcz26_1 : w13.cell? ⟨gb270, 1, none⟩ = some (.int .i64 0) := (blk_cell BK270.out 1).trans rfl
 have hfz26_0 := blk_frozen BK270.out 0
 have hfz26_1 := blk_frozen BK270.out 1
 have hnb27 := NB264_262.out
 have hnc27 := NB262_264.out
 have hnb28 := NB264_263.out
 have hnc28 := NB263_264.out
 have hcz29_0 : w13.cell? ⟨gb264, 0, none⟩ = some (.int .i64 0) := (blk_cell BK264.out 0).trans rfl
 have hcz29_1 : w13.cell? ⟨gb264, 1, none⟩ = some (.int .i64 0) := (blk_cell BK264.out 1).trans rfl
 have hfz29_0 := blk_frozen BK264.out 0
 have hfz29_1 := blk_frozen BK264.out 1
 try go_wp2
 refine bodyPost_ret (results_cell_row rfl _ _ gb264 26 #[.int .i64 (wrap64 (t265 * t267)), .int .i64 (wrap64 (t266 * t268))] (0, 0) _ rfl (by (with_reducible repeat (refine blk_drewN ?_ _)); refine blk_put (cs := #[.int .i64 (wrap64 (t265 * t267)), .int .i64 0]) ?_ 1 _ rfl; (with_reducible repeat (refine blk_drewN ?_ _)); refine blk_put (cs := #[.int .i64 0, .int .i64 0]) ?_ 0 _ rfl; (with_reducible repeat (refine blk_drewN ?_ _)); refine blk_far ?_ NB264_270.out _; (with_reducible repeat (refine blk_drewN ?_ _)); refine blk_far ?_ NB264_270.out _; (with_reducible repeat (refine blk_drewN ?_ _)); refine blk_far ?_ NB264_269.out _; (with_reducible repeat (refine blk_drewN ?_ _)); refine blk_far ?_ NB264_269.out _; (with_reducible repeat (refine blk_drewN ?_ _)); exact BK264.out) Tryd.underlying26 rfl (by kernel_rfl)) rfl ?_
 exact ⟨by rfl, by repeat ((with_reducible first | exact HB.out | refine below_set ?_ GE264.out | refine below_set ?_ GE269.out | refine below_set ?_ GE270.out))⟩

end Go.Proofs.YtihifglmnjocfaaDoor.PFnExactChanceOfFinal
