/- Written by a program of this session (wip/xprint) out of Lean's own print of the given functions: each function as a plain Lean function, and the proof that the call answers it. -/
import Derived.Test.YtihifglmnjocfaaDoorPFnExactIsFinalx0
import Derived.Test.YtihifglmnjocfaaDoorPFnExactIsFinalx8
namespace Go.Proofs.YtihifglmnjocfaaDoor.PFnExactIsFinal
open Go.RowKit Go.Proofs.YtihifglmnjocfaaDoorW.PrintWords Go.Proofs.YtihifglmnjocfaaDoorW.PrintLast Go.Proofs.YtihifglmnjocfaaDoorW.PrintMore
attribute [local go_sem] max2_int min2_int max_two min_two max_three min_three max_four min_four   -- for this text's walks alone
set_option linter.unusedVariables false
set_option linter.unusedSimpArgs false

theorem joinX9_ {P : Program} {md : Region.Mode} {ops : Array Oper} {Q : Exit → Act → World → Prop} {S : World → Prop} {ds : List Nat} {σ : Type} {fuel : Nat} {l : Array Bool} {a : Act} {w : World} (fuel' : Nat) (l' : Array Bool) (ns : σ → List (Tmp × Value)) (F : σ → World → Prop)
    (h : (∀ s w', F s w' → wpAnyLast P md ops Q S ds fuel' l' (putAll a (ns s)) w') → wpAnyLast P md ops Q S ds fuel l a w)
    (hcont : ∀ s w', F s w' → wpAnyLast P md ops Q S ds fuel' l' (putAll a (ns s)) w') : wpAnyLast P md ops Q S ds fuel l a w := join_ fuel' l' ns F hcont h
/-! ### spec_l2Times: function 55 -/
def spec_l2Times.f (k : Nat) (a0_0 : Int) (a0_1 : Int) (a1_0 : Int) (a1_1 : Int) : Option (Int × Int) := (spec_l2Cut.f k a0_0 a1_1).bind fun bt281 => ((spec_l2Cut.f k a1_0 a0_1).bind fun bt283 => (some (wrap64 (bt281.1 * bt283.1), wrap64 (bt281.2 * bt283.2))))
theorem spec_l2Times.mono : ∀ a0 a1 a2 a3 k, LeO (spec_l2Times.f k a0 a1 a2 a3) (spec_l2Times.f (k + 1) a0 a1 a2 a3) := by
 intro a0 a1 a2 a3 k
 unfold spec_l2Times.f
 repeat' first
   | (with_reducible exact spec_l2Cut.mono _ _ _)
   | (with_reducible exact LeO.refl _)
   | (with_reducible exact LeO.none _)
   | (with_reducible refine LeO.ite ?_ ?_)
   | (with_reducible refine LeO.bind ?_ (fun _ => ?_))
   | exact spec_l2Cut.mono _ _ _
   | exact LeO.none _
   | refine LeO.ite ?_ ?_
   | refine LeO.bind ?_ (fun _ => ?_)
def spec_l2Times.T1 : Bool × List (List Nat × List Nat) := (true, [([], []), ([0], [0]), ([], []), ([2], [2]), ([1, 3], [1, 3]), ([], []), ([5], [5]), ([], []), ([7], [7]), ([6, 8, 4], [6, 8]), ([], []), ([], []), ([10, 4, 9, 0, 1, 2, 3, 4, 10, 11], [4, 10]), ([11, 9, 12, 0, 1, 2, 3, 4, 5, 6, 7, 8, 9, 10, 11, 12], [9, 11])])
def spec_l2Times.B1 : List Nat := [0, 1, 0, 4, 15, 0, 32, 0, 128, 511, 0, 0, 4095, 8191]
theorem spec_l2Times.tab1 : rtab .any (opsOf Tryd.f55 1) = spec_l2Times.T1 := by kernel_rfl
theorem spec_l2Times.bits1 : waitsOk spec_l2Times.T1.2 spec_l2Times.B1 = true := by kernel_rfl
set_option maxHeartbeats 8000000 in
set_option maxRecDepth 100000 in
theorem spec_l2Times.calls (k : Nat) (a0_0 : Int) (a0_1 : Int) (a1_0 : Int) (a1_1 : Int) (r1 : Int) (r2 : Int) (w : World) (h : spec_l2Times.f k a0_0 a0_1 a1_0 a1_1 = some (r1, r2)) :
  Calls Tryd.prog 55 #[.agg #[.int .i64 a0_0, .int .i64 a0_1], .agg #[.int .i64 a1_0, .int .i64 a1_1]] w fun e w' => e = .returned (.agg #[.int .i64 r1, .int .i64 r2]) ∧ Below w.heap.size w w' := by
 have hu26 := Tryd.underlying26
 have HB := A_.mk (Below.refl w.heap.size w)
 have H : ((spec_l2Cut.f k a0_0 a1_1).bind fun bt281 => ((spec_l2Cut.f k a1_0 a0_1).bind fun bt283 => (some (wrap64 (bt281.1 * bt283.1), wrap64 (bt281.2 * bt283.2))))) = some (r1, r2) := h
 clear h
 replace H := Option.bind_eq_some_iff.mp H
 obtain ⟨⟨t281, t282⟩, A30, H⟩ := H
 replace H : ((spec_l2Cut.f k a1_0 a0_1).bind fun bt283 => (some (wrap64 (t281 * bt283.1), wrap64 (t282 * bt283.2)))) = some (r1, r2) := H
 have A3 := A_.mk A30
 clear A30
 replace H := Option.bind_eq_some_iff.mp H
 obtain ⟨⟨t283, t284⟩, A40, H⟩ := H
 replace H : (some (wrap64 (t281 * t283), wrap64 (t282 * t284))) = some (r1, r2) := H
 have A4 := A_.mk A40
 clear A40
 simp only [Option.some.injEq, Prod.mk.injEq] at H
 obtain ⟨rfl, rfl⟩ := H
 go_enter Tryd.func55, Tryd.ntmps55
 try go_wp2_with (first | ((with_reducible refine gate_dst (N := 2) rfl ?_); refine box_event ?hg (N := 2) ?hd (cs := #[.int .i64 a0_0, .int .i64 a0_1]) (t := 26) ?hr ?_; (case hd => rfl); (case hg => rfl); (case hr => (go_simp; done)); intro gb278 hg w5 hbox hb; have n0_ := A_.mk (below_step HB.out hb); have n1_ := A_.mk (hbox); have n2_ := A_.mk ((by rw [hg]; exact (below_size HB.out) : w.heap.size ≤ gb278)); have n3_ := A_.mk ((by rw [hg]; exact (below_size HB.out) : w.heap.size ≤ gb278)); clear HB; have HB := n0_; have BK278 := n1_; have GW278 := n2_; have GE278 := n3_; clear n0_ n1_ n2_ n3_; clear hb hbox hg) | ((with_reducible refine gate_dst (N := 3) rfl ?_); refine box_event ?hg (N := 3) ?hd (cs := #[.int .i64 a1_0, .int .i64 a1_1]) (t := 26) ?hr ?_; (case hd => rfl); (case hg => rfl); (case hr => (go_simp; done)); intro gb279 hg w6 hbox hb; have n0_ := A_.mk (blk_below BK278.out hb); have n1_ := A_.mk (below_step HB.out hb); have n2_ := A_.mk (hbox); have n3_ := A_.mk ((by rw [hg]; exact (below_size HB.out) : w.heap.size ≤ gb279)); have n4_ := A_.mk ((by rw [hg]; exact (below_size HB.out) : w.heap.size ≤ gb279)); have n5_ := A_.mk ((by rw [hg]; exact Nat.ne_of_lt (blk_lt BK278.out) : gb278 ≠ gb279)); have n6_ := A_.mk ((by rw [hg]; exact Nat.ne_of_gt (blk_lt BK278.out) : gb279 ≠ gb278)); clear BK278; clear HB; have BK278 := n0_; have HB := n1_; have BK279 := n2_; have GW279 := n3_; have GE279 := n4_; have NB278_279 := n5_; have NB279_278 := n6_; clear n0_ n1_ n2_ n3_ n4_ n5_ n6_; clear hb hbox hg) | ((with_reducible refine gate_dst (N := 4) rfl ?_); refine box_event ?hg (N := 4) ?hd (cs := #[.int .i64 0, .int .i64 0]) (t := 26) ?hr ?_; (case hd => rfl); (case hg => rfl); (case hr => (go_simp; done)); intro gb280 hg w7 hbox hb; have n0_ := A_.mk (blk_below BK278.out hb); have n1_ := A_.mk (blk_below BK279.out hb); have n2_ := A_.mk (below_step HB.out hb); have n3_ := A_.mk (hbox); have n4_ := A_.mk ((by rw [hg]; exact (below_size HB.out) : w.heap.size ≤ gb280)); have n5_ := A_.mk ((by rw [hg]; exact (below_size HB.out) : w.heap.size ≤ gb280)); have n6_ := A_.mk ((by rw [hg]; exact Nat.ne_of_lt (blk_lt BK278.out) : gb278 ≠ gb280)); have n7_ := A_.mk ((by rw [hg]; exact Nat.ne_of_gt (blk_lt BK278.out) : gb280 ≠ gb278)); have n8_ := A_.mk ((by rw [hg]; exact Nat.ne_of_lt (blk_lt BK279.out) : gb279 ≠ gb280)); have n9_ := A_.mk ((by rw [hg]; exact Nat.ne_of_gt (blk_lt BK279.out) : gb280 ≠ gb279)); clear BK278; clear BK279; clear HB; have BK278 := n0_; have BK279 := n1_; have HB := n2_; have BK280 := n3_; have GW280 := n4_; have GE280 := n5_; have NB278_280 := n6_; have NB280_278 := n7_; have NB279_280 := n8_; have NB280_279 := n9_; clear n0_ n1_ n2_ n3_ n4_ n5_ n6_ n7_ n8_ n9_; clear hb hbox hg))
 have n0_ := A_.mk (blk_drew BK278.out)
 have n1_ := A_.mk (blk_drew BK279.out)
 have n2_ := A_.mk (blk_drew BK280.out)
 have n3_ := A_.mk (below_drew1 HB.out)
 clear BK278
 clear BK279
 clear BK280
 clear HB
 have BK278 := n0_
 have BK279 := n1_
 have BK280 := n2_
 have HB := n3_
 clear n0_ n1_ n2_ n3_
 refine start_ (n := 14) (S := fun w' => w'.cell? ⟨gb278, 0, none⟩ = some (.int .i64 a0_0) ∧ w'.cell? ⟨gb278, 1, none⟩ = some (.int .i64 a0_1) ∧ w'.cell? ⟨gb279, 0, none⟩ = some (.int .i64 a1_0) ∧ w'.cell? ⟨gb279, 1, none⟩ = some (.int .i64 a1_1)) (ds := []) #[false, false, false, false, false, false, false, false, false, false, false, false, false, false] (by kernel_rfl) rfl rfl ⟨(blk_cell BK278.out 0).trans rfl, (blk_cell BK278.out 1).trans rfl, (blk_cell BK279.out 0).trans rfl, (blk_cell BK279.out 1).trans rfl⟩ (fun hHeld => ?_); refine with_tabW spec_l2Times.tab1 spec_l2Times.bits1 (fun HT_ HW_ => ?_)
 generalize w7.drew = w8 at BK278 BK279 BK280 HB hHeld ⊢
 refine pure_ (i := 0) (N := some 7) (v := ?_) (a' := ?_) #[true, false, false, false, false, false, false, false, false, false, false, false, false, false] rfl rfl (any_of HT_.out (by kernel_rfl)) (fun _ _ _ h => h) (Or.inl ⟨by rfl, ?_⟩) ?_ ?_
 rotate_left
 ·intro w'
  go_simp
  with_reducible rfl
 rotate_left
 ·simp only [Act.put, sI_, s0_, s1_, i64_w, i32_w]
  rfl
 refine pure_ (i := 2) (N := some 9) (v := ?_) (a' := ?_) #[true, false, true, false, false, false, false, false, false, false, false, false, false, false] rfl rfl (any_of HT_.out (by kernel_rfl)) (fun _ _ _ h => h) (Or.inl ⟨by rfl, ?_⟩) ?_ ?_
 rotate_left
 ·intro w'
  go_simp
  with_reducible rfl
 rotate_left
 ·simp only [Act.put, sI_, s0_, s1_, i64_w, i32_w]
  rfl
 refine pure_ (i := 5) (N := some 12) (v := ?_) (a' := ?_) #[true, false, true, false, false, true, false, false, false, false, false, false, false, false] rfl rfl (any_of HT_.out (by kernel_rfl)) (fun _ _ _ h => h) (Or.inl ⟨by rfl, ?_⟩) ?_ ?_
 rotate_left
 ·intro w'
  go_simp
  with_reducible rfl
 rotate_left
 ·simp only [Act.put, sI_, s0_, s1_, i64_w, i32_w]
  rfl
 refine pure_ (i := 7) (N := some 14) (v := ?_) (a' := ?_) #[true, false, true, false, false, true, false, true, false, false, false, false, false, false] rfl rfl (any_of HT_.out (by kernel_rfl)) (fun _ _ _ h => h) (Or.inl ⟨by rfl, ?_⟩) ?_ ?_
 rotate_left
 ·intro w'
  go_simp
  with_reducible rfl
 rotate_left
 ·simp only [Act.put, sI_, s0_, s1_, i64_w, i32_w]
  rfl
 refine take_ (i := 1) (N := some 8) (v := ?_) (a' := ?_) #[true, true, true, false, false, true, false, true, false, false, false, false, false, false] rfl rfl (take_ofW HT_.out HW_.out (by kernel_rfl)) (fun _ _ _ h => h) (Or.inl ⟨by rfl, ?_⟩) hHeld ?_ ?_
 rotate_left
 ·rintro w' ⟨s0, s1, s2, s3⟩
  go_simp
  with_reducible rfl
 rotate_left
 ·simp only [Act.put, sI_, s0_, s1_, i64_w, i32_w]
  rfl
 refine take_ (i := 3) (N := some 10) (v := ?_) (a' := ?_) #[true, true, true, true, false, true, false, true, false, false, false, false, false, false] rfl rfl (take_ofW HT_.out HW_.out (by kernel_rfl)) (fun _ _ _ h => h) (Or.inl ⟨by rfl, ?_⟩) hHeld ?_ ?_
 rotate_left
 ·rintro w' ⟨s0, s1, s2, s3⟩
  go_simp
  with_reducible rfl
 rotate_left
 ·simp only [Act.put, sI_, s0_, s1_, i64_w, i32_w]
  rfl
 refine take_ (i := 6) (N := some 13) (v := ?_) (a' := ?_) #[true, true, true, true, false, true, true, true, false, false, false, false, false, false] rfl rfl (take_ofW HT_.out HW_.out (by kernel_rfl)) (fun _ _ _ h => h) (Or.inl ⟨by rfl, ?_⟩) hHeld ?_ ?_
 rotate_left
 ·rintro w' ⟨s0, s1, s2, s3⟩
  go_simp
  with_reducible rfl
 rotate_left
 ·simp only [Act.put, sI_, s0_, s1_, i64_w, i32_w]
  rfl
 refine take_ (i := 8) (N := some 15) (v := ?_) (a' := ?_) #[true, true, true, true, false, true, true, true, true, false, false, false, false, false] rfl rfl (take_ofW HT_.out HW_.out (by kernel_rfl)) (fun _ _ _ h => h) (Or.inl ⟨by rfl, ?_⟩) hHeld ?_ ?_
 rotate_left
 ·rintro w' ⟨s0, s1, s2, s3⟩
  go_simp
  with_reducible rfl
 rotate_left
 ·simp only [Act.put, sI_, s0_, s1_, i64_w, i32_w]
  rfl
 refine joinX9_ (σ := Nat × Nat) 2 #[true, true, true, true, true, true, true, true, true, true, true, true, false, false] (fun s_ => [(11, .agg #[.int .i64 t281, .int .i64 t282]), (16, .agg #[.int .i64 t283, .int .i64 t284]), (5, .pointer (some ⟨s_.1, 0, none⟩)), (6, .pointer (some ⟨s_.2, 0, none⟩))]) (fun s_ w' => (w'.cell? ⟨gb278, 0, none⟩ = some (.int .i64 a0_0) ∧ w'.cell? ⟨gb278, 1, none⟩ = some (.int .i64 a0_1) ∧ w'.cell? ⟨gb279, 0, none⟩ = some (.int .i64 a1_0) ∧ w'.cell? ⟨gb279, 1, none⟩ = some (.int .i64 a1_1)) ∧ (w'.heap[gb278]? = some (.cells #[.int .i64 a0_0, .int .i64 a0_1] 26 (0, 0))) ∧ (w'.heap[gb279]? = some (.cells #[.int .i64 a1_0, .int .i64 a1_1] 26 (0, 0))) ∧ (w'.heap[gb280]? = some (.cells #[.int .i64 0, .int .i64 0] 26 (0, 0))) ∧ (w'.heap[s_.1]? = some (.cells #[.int .i64 0, .int .i64 0] 26 (0, 0))) ∧ (w'.heap[s_.2]? = some (.cells #[.int .i64 0, .int .i64 0] 26 (0, 0))) ∧ (w.heap.size ≤ s_.1) ∧ (w.heap.size ≤ s_.1) ∧ (gb278 ≠ s_.1) ∧ (s_.1 ≠ gb278) ∧ (gb279 ≠ s_.1) ∧ (s_.1 ≠ gb279) ∧ (gb280 ≠ s_.1) ∧ (s_.1 ≠ gb280) ∧ (s_.2 ≠ s_.1) ∧ (s_.1 ≠ s_.2) ∧ (w.heap.size ≤ s_.2) ∧ (w.heap.size ≤ s_.2) ∧ (gb278 ≠ s_.2) ∧ (s_.2 ≠ gb278) ∧ (gb279 ≠ s_.2) ∧ (s_.2 ≠ gb279) ∧ (gb280 ≠ s_.2) ∧ (s_.2 ≠ gb280) ∧ (Below w.heap.size w w')) ?_ ?_
 intro hJ4_9_10_11
 refine joinX9_ (σ := Nat) 3 #[true, true, true, true, true, true, true, true, true, true, true, false, false, false] (fun s_ => [(11, .agg #[.int .i64 t281, .int .i64 t282]), (16, .agg #[.int .i64 t283, .int .i64 t284]), (5, .pointer (some ⟨s_, 0, none⟩))]) (fun s_ w' => (w'.cell? ⟨gb278, 0, none⟩ = some (.int .i64 a0_0) ∧ w'.cell? ⟨gb278, 1, none⟩ = some (.int .i64 a0_1) ∧ w'.cell? ⟨gb279, 0, none⟩ = some (.int .i64 a1_0) ∧ w'.cell? ⟨gb279, 1, none⟩ = some (.int .i64 a1_1)) ∧ (w'.heap[gb278]? = some (.cells #[.int .i64 a0_0, .int .i64 a0_1] 26 (0, 0))) ∧ (w'.heap[gb279]? = some (.cells #[.int .i64 a1_0, .int .i64 a1_1] 26 (0, 0))) ∧ (w'.heap[gb280]? = some (.cells #[.int .i64 0, .int .i64 0] 26 (0, 0))) ∧ (w'.heap[s_]? = some (.cells #[.int .i64 0, .int .i64 0] 26 (0, 0))) ∧ (w.heap.size ≤ s_) ∧ (w.heap.size ≤ s_) ∧ (gb278 ≠ s_) ∧ (s_ ≠ gb278) ∧ (gb279 ≠ s_) ∧ (s_ ≠ gb279) ∧ (gb280 ≠ s_) ∧ (s_ ≠ gb280) ∧ (Below w.heap.size w w')) ?_ ?_
 intro hJ4_9_10
 refine joinX9_ (σ := Nat) 3 #[true, true, true, true, true, true, true, true, true, true, false, true, false, false] (fun s_ => [(11, .agg #[.int .i64 t281, .int .i64 t282]), (16, .agg #[.int .i64 t283, .int .i64 t284]), (6, .pointer (some ⟨s_, 0, none⟩))]) (fun s_ w' => (w'.cell? ⟨gb278, 0, none⟩ = some (.int .i64 a0_0) ∧ w'.cell? ⟨gb278, 1, none⟩ = some (.int .i64 a0_1) ∧ w'.cell? ⟨gb279, 0, none⟩ = some (.int .i64 a1_0) ∧ w'.cell? ⟨gb279, 1, none⟩ = some (.int .i64 a1_1)) ∧ (w'.heap[gb278]? = some (.cells #[.int .i64 a0_0, .int .i64 a0_1] 26 (0, 0))) ∧ (w'.heap[gb279]? = some (.cells #[.int .i64 a1_0, .int .i64 a1_1] 26 (0, 0))) ∧ (w'.heap[gb280]? = some (.cells #[.int .i64 0, .int .i64 0] 26 (0, 0))) ∧ (w'.heap[s_]? = some (.cells #[.int .i64 0, .int .i64 0] 26 (0, 0))) ∧ (w.heap.size ≤ s_) ∧ (w.heap.size ≤ s_) ∧ (gb278 ≠ s_) ∧ (s_ ≠ gb278) ∧ (gb279 ≠ s_) ∧ (s_ ≠ gb279) ∧ (gb280 ≠ s_) ∧ (s_ ≠ gb280) ∧ (Below w.heap.size w w')) ?_ ?_
 intro hJ4_9_11
 refine joinX9_ (σ := Nat × Nat) 3 #[true, true, true, true, true, true, true, true, true, false, true, true, false, false] (fun s_ => [(11, .agg #[.int .i64 t281, .int .i64 t282]), (5, .pointer (some ⟨s_.1, 0, none⟩)), (6, .pointer (some ⟨s_.2, 0, none⟩))]) (fun s_ w' => (w'.cell? ⟨gb278, 0, none⟩ = some (.int .i64 a0_0) ∧ w'.cell? ⟨gb278, 1, none⟩ = some (.int .i64 a0_1) ∧ w'.cell? ⟨gb279, 0, none⟩ = some (.int .i64 a1_0) ∧ w'.cell? ⟨gb279, 1, none⟩ = some (.int .i64 a1_1)) ∧ (w'.heap[gb278]? = some (.cells #[.int .i64 a0_0, .int .i64 a0_1] 26 (0, 0))) ∧ (w'.heap[gb279]? = some (.cells #[.int .i64 a1_0, .int .i64 a1_1] 26 (0, 0))) ∧ (w'.heap[gb280]? = some (.cells #[.int .i64 0, .int .i64 0] 26 (0, 0))) ∧ (w'.heap[s_.1]? = some (.cells #[.int .i64 0, .int .i64 0] 26 (0, 0))) ∧ (w'.heap[s_.2]? = some (.cells #[.int .i64 0, .int .i64 0] 26 (0, 0))) ∧ (w.heap.size ≤ s_.1) ∧ (w.heap.size ≤ s_.1) ∧ (gb278 ≠ s_.1) ∧ (s_.1 ≠ gb278) ∧ (gb279 ≠ s_.1) ∧ (s_.1 ≠ gb279) ∧ (gb280 ≠ s_.1) ∧ (s_.1 ≠ gb280) ∧ (s_.2 ≠ s_.1) ∧ (s_.1 ≠ s_.2) ∧ (w.heap.size ≤ s_.2) ∧ (w.heap.size ≤ s_.2) ∧ (gb278 ≠ s_.2) ∧ (s_.2 ≠ gb278) ∧ (gb279 ≠ s_.2) ∧ (s_.2 ≠ gb279) ∧ (gb280 ≠ s_.2) ∧ (s_.2 ≠ gb280) ∧ (Below w.heap.size w w')) ?_ ?_
 intro hJ4_10_11
 refine joinX9_ (σ := Unit) 4 #[true, true, true, true, true, true, true, true, true, true, false, false, false, false] (fun s_ => [(11, .agg #[.int .i64 t281, .int .i64 t282]), (16, .agg #[.int .i64 t283, .int .i64 t284])]) (fun s_ w' => (w'.cell? ⟨gb278, 0, none⟩ = some (.int .i64 a0_0) ∧ w'.cell? ⟨gb278, 1, none⟩ = some (.int .i64 a0_1) ∧ w'.cell? ⟨gb279, 0, none⟩ = some (.int .i64 a1_0) ∧ w'.cell? ⟨gb279, 1, none⟩ = some (.int .i64 a1_1)) ∧ (w'.heap[gb278]? = some (.cells #[.int .i64 a0_0, .int .i64 a0_1] 26 (0, 0))) ∧ (w'.heap[gb279]? = some (.cells #[.int .i64 a1_0, .int .i64 a1_1] 26 (0, 0))) ∧ (w'.heap[gb280]? = some (.cells #[.int .i64 0, .int .i64 0] 26 (0, 0))) ∧ (Below w.heap.size w w')) ?_ ?_
 intro hJ4_9
 refine joinX9_ (σ := Nat) 4 #[true, true, true, true, true, true, true, true, true, false, true, false, false, false] (fun s_ => [(11, .agg #[.int .i64 t281, .int .i64 t282]), (5, .pointer (some ⟨s_, 0, none⟩))]) (fun s_ w' => (w'.cell? ⟨gb278, 0, none⟩ = some (.int .i64 a0_0) ∧ w'.cell? ⟨gb278, 1, none⟩ = some (.int .i64 a0_1) ∧ w'.cell? ⟨gb279, 0, none⟩ = some (.int .i64 a1_0) ∧ w'.cell? ⟨gb279, 1, none⟩ = some (.int .i64 a1_1)) ∧ (w'.heap[gb278]? = some (.cells #[.int .i64 a0_0, .int .i64 a0_1] 26 (0, 0))) ∧ (w'.heap[gb279]? = some (.cells #[.int .i64 a1_0, .int .i64 a1_1] 26 (0, 0))) ∧ (w'.heap[gb280]? = some (.cells #[.int .i64 0, .int .i64 0] 26 (0, 0))) ∧ (w'.heap[s_]? = some (.cells #[.int .i64 0, .int .i64 0] 26 (0, 0))) ∧ (w.heap.size ≤ s_) ∧ (w.heap.size ≤ s_) ∧ (gb278 ≠ s_) ∧ (s_ ≠ gb278) ∧ (gb279 ≠ s_) ∧ (s_ ≠ gb279) ∧ (gb280 ≠ s_) ∧ (s_ ≠ gb280) ∧ (Below w.heap.size w w')) ?_ ?_
 intro hJ4_10
 refine joinX9_ (σ := Nat) 4 #[true, true, true, true, true, true, true, true, true, false, false, true, false, false] (fun s_ => [(11, .agg #[.int .i64 t281, .int .i64 t282]), (6, .pointer (some ⟨s_, 0, none⟩))]) (fun s_ w' => (w'.cell? ⟨gb278, 0, none⟩ = some (.int .i64 a0_0) ∧ w'.cell? ⟨gb278, 1, none⟩ = some (.int .i64 a0_1) ∧ w'.cell? ⟨gb279, 0, none⟩ = some (.int .i64 a1_0) ∧ w'.cell? ⟨gb279, 1, none⟩ = some (.int .i64 a1_1)) ∧ (w'.heap[gb278]? = some (.cells #[.int .i64 a0_0, .int .i64 a0_1] 26 (0, 0))) ∧ (w'.heap[gb279]? = some (.cells #[.int .i64 a1_0, .int .i64 a1_1] 26 (0, 0))) ∧ (w'.heap[gb280]? = some (.cells #[.int .i64 0, .int .i64 0] 26 (0, 0))) ∧ (w'.heap[s_]? = some (.cells #[.int .i64 0, .int .i64 0] 26 (0, 0))) ∧ (w.heap.size ≤ s_) ∧ (w.heap.size ≤ s_) ∧ (gb278 ≠ s_) ∧ (s_ ≠ gb278) ∧ (gb279 ≠ s_) ∧ (s_ ≠ gb279) ∧ (gb280 ≠ s_) ∧ (s_ ≠ gb280) ∧ (Below w.heap.size w w')) ?_ ?_
 intro hJ4_11
 refine joinX9_ (σ := Nat × Nat) 4 #[true, true, true, true, false, true, true, true, true, false, true, true, false, false] (fun s_ => [(5, .pointer (some ⟨s_.1, 0, none⟩)), (6, .pointer (some ⟨s_.2, 0, none⟩))]) (fun s_ w' => (w'.cell? ⟨gb278, 0, none⟩ = some (.int .i64 a0_0) ∧ w'.cell? ⟨gb278, 1, none⟩ = some (.int .i64 a0_1) ∧ w'.cell? ⟨gb279, 0, none⟩ = some (.int .i64 a1_0) ∧ w'.cell? ⟨gb279, 1, none⟩ = some (.int .i64 a1_1)) ∧ (w'.heap[gb278]? = some (.cells #[.int .i64 a0_0, .int .i64 a0_1] 26 (0, 0))) ∧ (w'.heap[gb279]? = some (.cells #[.int .i64 a1_0, .int .i64 a1_1] 26 (0, 0))) ∧ (w'.heap[gb280]? = some (.cells #[.int .i64 0, .int .i64 0] 26 (0, 0))) ∧ (w'.heap[s_.1]? = some (.cells #[.int .i64 0, .int .i64 0] 26 (0, 0))) ∧ (w'.heap[s_.2]? = some (.cells #[.int .i64 0, .int .i64 0] 26 (0, 0))) ∧ (w.heap.size ≤ s_.1) ∧ (w.heap.size ≤ s_.1) ∧ (gb278 ≠ s_.1) ∧ (s_.1 ≠ gb278) ∧ (gb279 ≠ s_.1) ∧ (s_.1 ≠ gb279) ∧ (gb280 ≠ s_.1) ∧ (s_.1 ≠ gb280) ∧ (s_.2 ≠ s_.1) ∧ (s_.1 ≠ s_.2) ∧ (w.heap.size ≤ s_.2) ∧ (w.heap.size ≤ s_.2) ∧ (gb278 ≠ s_.2) ∧ (s_.2 ≠ gb278) ∧ (gb279 ≠ s_.2) ∧ (s_.2 ≠ gb279) ∧ (gb280 ≠ s_.2) ∧ (s_.2 ≠ gb280) ∧ (Below w.heap.size w w')) ?_ ?_
 intro hJ10_11
 refine joinX9_ (σ := Unit) 5 #[true, true, true, true, true, true, true, true, true, false, false, false, false, false] (fun s_ => [(11, .agg #[.int .i64 t281, .int .i64 t282])]) (fun s_ w' => (w'.cell? ⟨gb278, 0, none⟩ = some (.int .i64 a0_0) ∧ w'.cell? ⟨gb278, 1, none⟩ = some (.int .i64 a0_1) ∧ w'.cell? ⟨gb279, 0, none⟩ = some (.int .i64 a1_0) ∧ w'.cell? ⟨gb279, 1, none⟩ = some (.int .i64 a1_1)) ∧ (w'.heap[gb278]? = some (.cells #[.int .i64 a0_0, .int .i64 a0_1] 26 (0, 0))) ∧ (w'.heap[gb279]? = some (.cells #[.int .i64 a1_0, .int .i64 a1_1] 26 (0, 0))) ∧ (w'.heap[gb280]? = some (.cells #[.int .i64 0, .int .i64 0] 26 (0, 0))) ∧ (Below w.heap.size w w')) ?_ ?_
 intro hJ4
 refine joinX9_ (σ := Nat) 5 #[true, true, true, true, false, true, true, true, true, false, true, false, false, false] (fun s_ => [(5, .pointer (some ⟨s_, 0, none⟩))]) (fun s_ w' => (w'.cell? ⟨gb278, 0, none⟩ = some (.int .i64 a0_0) ∧ w'.cell? ⟨gb278, 1, none⟩ = some (.int .i64 a0_1) ∧ w'.cell? ⟨gb279, 0, none⟩ = some (.int .i64 a1_0) ∧ w'.cell? ⟨gb279, 1, none⟩ = some (.int .i64 a1_1)) ∧ (w'.heap[gb278]? = some (.cells #[.int .i64 a0_0, .int .i64 a0_1] 26 (0, 0))) ∧ (w'.heap[gb279]? = some (.cells #[.int .i64 a1_0, .int .i64 a1_1] 26 (0, 0))) ∧ (w'.heap[gb280]? = some (.cells #[.int .i64 0, .int .i64 0] 26 (0, 0))) ∧ (w'.heap[s_]? = some (.cells #[.int .i64 0, .int .i64 0] 26 (0, 0))) ∧ (w.heap.size ≤ s_) ∧ (w.heap.size ≤ s_) ∧ (gb278 ≠ s_) ∧ (s_ ≠ gb278) ∧ (gb279 ≠ s_) ∧ (s_ ≠ gb279) ∧ (gb280 ≠ s_) ∧ (s_ ≠ gb280) ∧ (Below w.heap.size w w')) ?_ ?_
 intro hJ10
 refine joinX9_ (σ := Nat) 5 #[true, true, true, true, false, true, true, true, true, false, false, true, false, false] (fun s_ => [(6, .pointer (some ⟨s_, 0, none⟩))]) (fun s_ w' => (w'.cell? ⟨gb278, 0, none⟩ = some (.int .i64 a0_0) ∧ w'.cell? ⟨gb278, 1, none⟩ = some (.int .i64 a0_1) ∧ w'.cell? ⟨gb279, 0, none⟩ = some (.int .i64 a1_0) ∧ w'.cell? ⟨gb279, 1, none⟩ = some (.int .i64 a1_1)) ∧ (w'.heap[gb278]? = some (.cells #[.int .i64 a0_0, .int .i64 a0_1] 26 (0, 0))) ∧ (w'.heap[gb279]? = some (.cells #[.int .i64 a1_0, .int .i64 a1_1] 26 (0, 0))) ∧ (w'.heap[gb280]? = some (.cells #[.int .i64 0, .int .i64 0] 26 (0, 0))) ∧ (w'.heap[s_]? = some (.cells #[.int .i64 0, .int .i64 0] 26 (0, 0))) ∧ (w.heap.size ≤ s_) ∧ (w.heap.size ≤ s_) ∧ (gb278 ≠ s_) ∧ (s_ ≠ gb278) ∧ (gb279 ≠ s_) ∧ (s_ ≠ gb279) ∧ (gb280 ≠ s_) ∧ (s_ ≠ gb280) ∧ (Below w.heap.size w w')) ?_ ?_
 intro hJ11
 refine three_ (i := 4) (j := 10) (k := 11) (Ni := some 11) (Nj := some 5) (Nk := some 6) #[true, true, true, true, true, true, true, true, true, false, false, false, false, false] #[true, true, true, true, false, true, true, true, true, false, true, false, false, false] #[true, true, true, true, false, true, true, true, true, false, false, true, false, false] rfl rfl rfl rfl rfl rfl (three_of HT_.out (by kernel_rfl)) (by decide) (by decide) (by decide) (fun K hK => ?_) (fun K hK => ?_) (fun K hK => ?_)
 ·refine goes_ Tryd.func69 (by kernel_rfl) rfl #[.int .i64 a0_0, .int .i64 a1_1] (by rfl) rfl rfl (by (try simp only [List.map_toArray, List.map_cons, List.map_nil]); (rfl)) ?_
  with_reducible refine (spec_l2Cut.calls k a0_0 a1_1 t281 t282 _ A3.out).mono ?_
  rintro e w9 ⟨rfl, hb⟩
  refine ⟨_, rfl, ?_⟩
  have n0_ := A_.mk (blk_below BK278.out hb)
  have n1_ := A_.mk (blk_below BK279.out hb)
  have n2_ := A_.mk (blk_below BK280.out hb)
  have n3_ := A_.mk (below_step HB.out hb)
  clear BK278
  clear BK279
  clear BK280
  clear HB
  have BK278 := n0_
  have BK279 := n1_
  have BK280 := n2_
  have HB := n3_
  clear n0_ n1_ n2_ n3_
  (try clear hb)
  skip
  skip
  skip
  refine hK.out _ _ ⟨(blk_cell BK278.out 0).trans rfl, (blk_cell BK278.out 1).trans rfl, (blk_cell BK279.out 0).trans rfl, (blk_cell BK279.out 1).trans rfl⟩ (fun hHeld => ?_)
  clear hK K
  exact norm_ (by simp only [putAll, Act.put, sI_, s0_, s1_]; try rfl) (hJ4 () _ ⟨hHeld, BK278.out, BK279.out, BK280.out, HB.out⟩)
 ·refine box_step ?hg (N := 5) ?hd (cs := #[.int .i64 0, .int .i64 0]) (t := 26) ?hr ?_; (case hd => rfl); (case hg => rfl); (case hr => (go_simp; done))
  intro gb285 hg w9 hbox hb
  have n0_ := A_.mk (blk_below BK278.out hb)
  have n1_ := A_.mk (blk_below BK279.out hb)
  have n2_ := A_.mk (blk_below BK280.out hb)
  have n3_ := A_.mk (below_step HB.out hb)
  have n4_ := A_.mk (hbox)
  have n5_ := A_.mk ((by rw [hg]; exact (below_size HB.out) : w.heap.size ≤ gb285))
  have n6_ := A_.mk ((by rw [hg]; exact (below_size HB.out) : w.heap.size ≤ gb285))
  have n7_ := A_.mk ((by rw [hg]; exact Nat.ne_of_lt (blk_lt BK278.out) : gb278 ≠ gb285))
  have n8_ := A_.mk ((by rw [hg]; exact Nat.ne_of_gt (blk_lt BK278.out) : gb285 ≠ gb278))
  have n9_ := A_.mk ((by rw [hg]; exact Nat.ne_of_lt (blk_lt BK279.out) : gb279 ≠ gb285))
  have n10_ := A_.mk ((by rw [hg]; exact Nat.ne_of_gt (blk_lt BK279.out) : gb285 ≠ gb279))
  have n11_ := A_.mk ((by rw [hg]; exact Nat.ne_of_lt (blk_lt BK280.out) : gb280 ≠ gb285))
  have n12_ := A_.mk ((by rw [hg]; exact Nat.ne_of_gt (blk_lt BK280.out) : gb285 ≠ gb280))
  clear BK278
  clear BK279
  clear BK280
  clear HB
  have BK278 := n0_
  have BK279 := n1_
  have BK280 := n2_
  have HB := n3_
  have BK285 := n4_
  have GW285 := n5_
  have GE285 := n6_
  have NB278_285 := n7_
  have NB285_278 := n8_
  have NB279_285 := n9_
  have NB285_279 := n10_
  have NB280_285 := n11_
  have NB285_280 := n12_
  clear n0_ n1_ n2_ n3_ n4_ n5_ n6_ n7_ n8_ n9_ n10_ n11_ n12_
  clear hb hbox hg
  refine hK.out _ _ ⟨(blk_cell BK278.out 0).trans rfl, (blk_cell BK278.out 1).trans rfl, (blk_cell BK279.out 0).trans rfl, (blk_cell BK279.out 1).trans rfl⟩ (fun hHeld => ?_)
  clear hK K
  exact norm_ (by simp only [putAll, Act.put, sI_, s0_, s1_]; try rfl) (hJ10 (gb285) _ ⟨hHeld, BK278.out, BK279.out, BK280.out, BK285.out, GW285.out, GE285.out, NB278_285.out, NB285_278.out, NB279_285.out, NB285_279.out, NB280_285.out, NB285_280.out, HB.out⟩)
 ·refine box_step ?hg (N := 6) ?hd (cs := #[.int .i64 0, .int .i64 0]) (t := 26) ?hr ?_; (case hd => rfl); (case hg => rfl); (case hr => (go_simp; done))
  intro gb286 hg w9 hbox hb
  have n0_ := A_.mk (blk_below BK278.out hb)
  have n1_ := A_.mk (blk_below BK279.out hb)
  have n2_ := A_.mk (blk_below BK280.out hb)
  have n3_ := A_.mk (below_step HB.out hb)
  have n4_ := A_.mk (hbox)
  have n5_ := A_.mk ((by rw [hg]; exact (below_size HB.out) : w.heap.size ≤ gb286))
  have n6_ := A_.mk ((by rw [hg]; exact (below_size HB.out) : w.heap.size ≤ gb286))
  have n7_ := A_.mk ((by rw [hg]; exact Nat.ne_of_lt (blk_lt BK278.out) : gb278 ≠ gb286))
  have n8_ := A_.mk ((by rw [hg]; exact Nat.ne_of_gt (blk_lt BK278.out) : gb286 ≠ gb278))
  have n9_ := A_.mk ((by rw [hg]; exact Nat.ne_of_lt (blk_lt BK279.out) : gb279 ≠ gb286))
  have n10_ := A_.mk ((by rw [hg]; exact Nat.ne_of_gt (blk_lt BK279.out) : gb286 ≠ gb279))
  have n11_ := A_.mk ((by rw [hg]; exact Nat.ne_of_lt (blk_lt BK280.out) : gb280 ≠ gb286))
  have n12_ := A_.mk ((by rw [hg]; exact Nat.ne_of_gt (blk_lt BK280.out) : gb286 ≠ gb280))
  clear BK278
  clear BK279
  clear BK280
  clear HB
  have BK278 := n0_
  have BK279 := n1_
  have BK280 := n2_
  have HB := n3_
  have BK286 := n4_
  have GW286 := n5_
  have GE286 := n6_
  have NB278_286 := n7_
  have NB286_278 := n8_
  have NB279_286 := n9_
  have NB286_279 := n10_
  have NB280_286 := n11_
  have NB286_280 := n12_
  clear n0_ n1_ n2_ n3_ n4_ n5_ n6_ n7_ n8_ n9_ n10_ n11_ n12_
  clear hb hbox hg
  refine hK.out _ _ ⟨(blk_cell BK278.out 0).trans rfl, (blk_cell BK278.out 1).trans rfl, (blk_cell BK279.out 0).trans rfl, (blk_cell BK279.out 1).trans rfl⟩ (fun hHeld => ?_)
  clear hK K
  exact norm_ (by simp only [putAll, Act.put, sI_, s0_, s1_]; try rfl) (hJ11 (gb286) _ ⟨hHeld, BK278.out, BK279.out, BK280.out, BK286.out, GW286.out, GE286.out, NB278_286.out, NB286_278.out, NB279_286.out, NB286_279.out, NB280_286.out, NB286_280.out, HB.out⟩)
 ·rintro gb286 w10 ⟨hS_, h0_, h1_, h2_, h3_, h4_, h5_, h6_, h7_, h8_, h9_, h10_, h11_, h12_⟩
  have n0_ : A_ (w10.heap[gb278]? = some (.cells #[.int .i64 a0_0, .int .i64 a0_1] 26 (0, 0))) := ⟨h0_⟩
  have n1_ : A_ (w10.heap[gb279]? = some (.cells #[.int .i64 a1_0, .int .i64 a1_1] 26 (0, 0))) := ⟨h1_⟩
  have n2_ : A_ (w10.heap[gb280]? = some (.cells #[.int .i64 0, .int .i64 0] 26 (0, 0))) := ⟨h2_⟩
  have n3_ : A_ (w10.heap[gb286]? = some (.cells #[.int .i64 0, .int .i64 0] 26 (0, 0))) := ⟨h3_⟩
  have n4_ : A_ (w.heap.size ≤ gb286) := ⟨h4_⟩
  have n5_ : A_ (w.heap.size ≤ gb286) := ⟨h5_⟩
  have n6_ : A_ (gb278 ≠ gb286) := ⟨h6_⟩
  have n7_ : A_ (gb286 ≠ gb278) := ⟨h7_⟩
  have n8_ : A_ (gb279 ≠ gb286) := ⟨h8_⟩
  have n9_ : A_ (gb286 ≠ gb279) := ⟨h9_⟩
  have n10_ : A_ (gb280 ≠ gb286) := ⟨h10_⟩
  have n11_ : A_ (gb286 ≠ gb280) := ⟨h11_⟩
  have n12_ : A_ (Below w.heap.size w w10) := ⟨h12_⟩
  clear BK278
  clear BK279
  clear BK280
  clear HB
  clear h0_ h1_ h2_ h3_ h4_ h5_ h6_ h7_ h8_ h9_ h10_ h11_ h12_
  have BK278 := n0_
  have BK279 := n1_
  have BK280 := n2_
  have BK286 := n3_
  have GW286 := n4_
  have GE286 := n5_
  have NB278_286 := n6_
  have NB286_278 := n7_
  have NB279_286 := n8_
  have NB286_279 := n9_
  have NB280_286 := n10_
  have NB286_280 := n11_
  have HB := n12_
  clear n0_ n1_ n2_ n3_ n4_ n5_ n6_ n7_ n8_ n9_ n10_ n11_ n12_
  have hHeld : w10.cell? ⟨gb278, 0, none⟩ = some (.int .i64 a0_0) ∧ w10.cell? ⟨gb278, 1, none⟩ = some (.int .i64 a0_1) ∧ w10.cell? ⟨gb279, 0, none⟩ = some (.int .i64 a1_0) ∧ w10.cell? ⟨gb279, 1, none⟩ = some (.int .i64 a1_1) := hS_
  refine norm_ (a' := ?_) ?_ ?_
  rotate_left
  ·simp only [putAll, Act.put, sI_, s0_, s1_]
   rfl
  refine two_ (i := 4) (j := 10) (Ni := some 11) (Nj := some 5) #[true, true, true, true, true, true, true, true, true, false, false, true, false, false] #[true, true, true, true, false, true, true, true, true, false, true, true, false, false] rfl rfl rfl rfl (two_of HT_.out (by kernel_rfl)) (by decide) (by decide) (fun K hK => ?_) (fun K hK => ?_)
  ·refine goes_ Tryd.func69 (by kernel_rfl) rfl #[.int .i64 a0_0, .int .i64 a1_1] (by rfl) rfl rfl (by (try simp only [List.map_toArray, List.map_cons, List.map_nil]); (rfl)) ?_
   with_reducible refine (spec_l2Cut.calls k a0_0 a1_1 t281 t282 _ A3.out).mono ?_
   rintro e w11 ⟨rfl, hb⟩
   refine ⟨_, rfl, ?_⟩
   have n0_ := A_.mk (blk_below BK278.out hb)
   have n1_ := A_.mk (blk_below BK279.out hb)
   have n2_ := A_.mk (blk_below BK280.out hb)
   have n3_ := A_.mk (blk_below BK286.out hb)
   have n4_ := A_.mk (below_step HB.out hb)
   clear BK278
   clear BK279
   clear BK280
   clear BK286
   clear HB
   have BK278 := n0_
   have BK279 := n1_
   have BK280 := n2_
   have BK286 := n3_
   have HB := n4_
   clear n0_ n1_ n2_ n3_ n4_
   (try clear hb)
   skip
   skip
   skip
   refine hK.out _ _ ⟨(blk_cell BK278.out 0).trans rfl, (blk_cell BK278.out 1).trans rfl, (blk_cell BK279.out 0).trans rfl, (blk_cell BK279.out 1).trans rfl⟩ (fun hHeld => ?_)
   clear hK K
   exact norm_ (by simp only [putAll, Act.put, sI_, s0_, s1_]; try rfl) (hJ4_11 (gb286) _ ⟨hHeld, BK278.out, BK279.out, BK280.out, BK286.out, GW286.out, GE286.out, NB278_286.out, NB286_278.out, NB279_286.out, NB286_279.out, NB280_286.out, NB286_280.out, HB.out⟩)
  ·refine box_step ?hg (N := 5) ?hd (cs := #[.int .i64 0, .int .i64 0]) (t := 26) ?hr ?_; (case hd => rfl); (case hg => rfl); (case hr => (go_simp; done))
   intro gb285 hg w11 hbox hb
   have n0_ := A_.mk (blk_below BK278.out hb)
   have n1_ := A_.mk (blk_below BK279.out hb)
   have n2_ := A_.mk (blk_below BK280.out hb)
   have n3_ := A_.mk (blk_below BK286.out hb)
   have n4_ := A_.mk (below_step HB.out hb)
   have n5_ := A_.mk (hbox)
   have n6_ := A_.mk ((by rw [hg]; exact (below_size HB.out) : w.heap.size ≤ gb285))
   have n7_ := A_.mk ((by rw [hg]; exact (below_size HB.out) : w.heap.size ≤ gb285))
   have n8_ := A_.mk ((by rw [hg]; exact Nat.ne_of_lt (blk_lt BK278.out) : gb278 ≠ gb285))
   have n9_ := A_.mk ((by rw [hg]; exact Nat.ne_of_gt (blk_lt BK278.out) : gb285 ≠ gb278))
   have n10_ := A_.mk ((by rw [hg]; exact Nat.ne_of_lt (blk_lt BK279.out) : gb279 ≠ gb285))
   have n11_ := A_.mk ((by rw [hg]; exact Nat.ne_of_gt (blk_lt BK279.out) : gb285 ≠ gb279))
   have n12_ := A_.mk ((by rw [hg]; exact Nat.ne_of_lt (blk_lt BK280.out) : gb280 ≠ gb285))
   have n13_ := A_.mk ((by rw [hg]; exact Nat.ne_of_gt (blk_lt BK280.out) : gb285 ≠ gb280))
   have n14_ := A_.mk ((by rw [hg]; exact Nat.ne_of_lt (blk_lt BK286.out) : gb286 ≠ gb285))
   have n15_ := A_.mk ((by rw [hg]; exact Nat.ne_of_gt (blk_lt BK286.out) : gb285 ≠ gb286))
   clear BK278
   clear BK279
   clear BK280
   clear BK286
   clear HB
   have BK278 := n0_
   have BK279 := n1_
   have BK280 := n2_
   have BK286 := n3_
   have HB := n4_
   have BK285 := n5_
   have GW285 := n6_
   have GE285 := n7_
   have NB278_285 := n8_
   have NB285_278 := n9_
   have NB279_285 := n10_
   have NB285_279 := n11_
   have NB280_285 := n12_
   have NB285_280 := n13_
   have NB286_285 := n14_
   have NB285_286 := n15_
   clear n0_ n1_ n2_ n3_ n4_ n5_ n6_ n7_ n8_ n9_ n10_ n11_ n12_ n13_ n14_ n15_
   clear hb hbox hg
   refine hK.out _ _ ⟨(blk_cell BK278.out 0).trans rfl, (blk_cell BK278.out 1).trans rfl, (blk_cell BK279.out 0).trans rfl, (blk_cell BK279.out 1).trans rfl⟩ (fun hHeld => ?_)
   clear hK K
   exact norm_ (by simp only [putAll, Act.put, sI_, s0_, s1_]; try rfl) (hJ10_11 (gb285, gb286) _ ⟨hHeld, BK278.out, BK279.out, BK280.out, BK285.out, BK286.out, GW285.out, GE285.out, NB278_285.out, NB285_278.out, NB279_285.out, NB285_279.out, NB280_285.out, NB285_280.out, NB286_285.out, NB285_286.out, GW286.out, GE286.out, NB278_286.out, NB286_278.out, NB279_286.out, NB286_279.out, NB280_286.out, NB286_280.out, HB.out⟩)
 ·rintro gb285 w10 ⟨hS_, h0_, h1_, h2_, h3_, h4_, h5_, h6_, h7_, h8_, h9_, h10_, h11_, h12_⟩
  have n0_ : A_ (w10.heap[gb278]? = some (.cells #[.int .i64 a0_0, .int .i64 a0_1] 26 (0, 0))) := ⟨h0_⟩
  have n1_ : A_ (w10.heap[gb279]? = some (.cells #[.int .i64 a1_0, .int .i64 a1_1] 26 (0, 0))) := ⟨h1_⟩
  have n2_ : A_ (w10.heap[gb280]? = some (.cells #[.int .i64 0, .int .i64 0] 26 (0, 0))) := ⟨h2_⟩
  have n3_ : A_ (w10.heap[gb285]? = some (.cells #[.int .i64 0, .int .i64 0] 26 (0, 0))) := ⟨h3_⟩
  have n4_ : A_ (w.heap.size ≤ gb285) := ⟨h4_⟩
  have n5_ : A_ (w.heap.size ≤ gb285) := ⟨h5_⟩
  have n6_ : A_ (gb278 ≠ gb285) := ⟨h6_⟩
  have n7_ : A_ (gb285 ≠ gb278) := ⟨h7_⟩
  have n8_ : A_ (gb279 ≠ gb285) := ⟨h8_⟩
  have n9_ : A_ (gb285 ≠ gb279) := ⟨h9_⟩
  have n10_ : A_ (gb280 ≠ gb285) := ⟨h10_⟩
  have n11_ : A_ (gb285 ≠ gb280) := ⟨h11_⟩
  have n12_ : A_ (Below w.heap.size w w10) := ⟨h12_⟩
  clear BK278
  clear BK279
  clear BK280
  clear HB
  clear h0_ h1_ h2_ h3_ h4_ h5_ h6_ h7_ h8_ h9_ h10_ h11_ h12_
  have BK278 := n0_
  have BK279 := n1_
  have BK280 := n2_
  have BK285 := n3_
  have GW285 := n4_
  have GE285 := n5_
  have NB278_285 := n6_
  have NB285_278 := n7_
  have NB279_285 := n8_
  have NB285_279 := n9_
  have NB280_285 := n10_
  have NB285_280 := n11_
  have HB := n12_
  clear n0_ n1_ n2_ n3_ n4_ n5_ n6_ n7_ n8_ n9_ n10_ n11_ n12_
  have hHeld : w10.cell? ⟨gb278, 0, none⟩ = some (.int .i64 a0_0) ∧ w10.cell? ⟨gb278, 1, none⟩ = some (.int .i64 a0_1) ∧ w10.cell? ⟨gb279, 0, none⟩ = some (.int .i64 a1_0) ∧ w10.cell? ⟨gb279, 1, none⟩ = some (.int .i64 a1_1) := hS_
  refine norm_ (a' := ?_) ?_ ?_
  rotate_left
  ·simp only [putAll, Act.put, sI_, s0_, s1_]
   rfl
  refine two_ (i := 4) (j := 11) (Ni := some 11) (Nj := some 6) #[true, true, true, true, true, true, true, true, true, false, true, false, false, false] #[true, true, true, true, false, true, true, true, true, false, true, true, false, false] rfl rfl rfl rfl (two_of HT_.out (by kernel_rfl)) (by decide) (by decide) (fun K hK => ?_) (fun K hK => ?_)
  ·refine goes_ Tryd.func69 (by kernel_rfl) rfl #[.int .i64 a0_0, .int .i64 a1_1] (by rfl) rfl rfl (by (try simp only [List.map_toArray, List.map_cons, List.map_nil]); (rfl)) ?_
   with_reducible refine (spec_l2Cut.calls k a0_0 a1_1 t281 t282 _ A3.out).mono ?_
   rintro e w11 ⟨rfl, hb⟩
   refine ⟨_, rfl, ?_⟩
   have n0_ := A_.mk (blk_below BK278.out hb)
   have n1_ := A_.mk (blk_below BK279.out hb)
   have n2_ := A_.mk (blk_below BK280.out hb)
   have n3_ := A_.mk (blk_below BK285.out hb)
   have n4_ := A_.mk (below_step HB.out hb)
   clear BK278
   clear BK279
   clear BK280
   clear BK285
   clear HB
   have BK278 := n0_
   have BK279 := n1_
   have BK280 := n2_
   have BK285 := n3_
   have HB := n4_
   clear n0_ n1_ n2_ n3_ n4_
   (try clear hb)
   skip
   skip
   skip
   refine hK.out _ _ ⟨(blk_cell BK278.out 0).trans rfl, (blk_cell BK278.out 1).trans rfl, (blk_cell BK279.out 0).trans rfl, (blk_cell BK279.out 1).trans rfl⟩ (fun hHeld => ?_)
   clear hK K
   exact norm_ (by simp only [putAll, Act.put, sI_, s0_, s1_]; try rfl) (hJ4_10 (gb285) _ ⟨hHeld, BK278.out, BK279.out, BK280.out, BK285.out, GW285.out, GE285.out, NB278_285.out, NB285_278.out, NB279_285.out, NB285_279.out, NB280_285.out, NB285_280.out, HB.out⟩)
  ·refine box_step ?hg (N := 6) ?hd (cs := #[.int .i64 0, .int .i64 0]) (t := 26) ?hr ?_; (case hd => rfl); (case hg => rfl); (case hr => (go_simp; done))
   intro gb286 hg w11 hbox hb
   have n0_ := A_.mk (blk_below BK278.out hb)
   have n1_ := A_.mk (blk_below BK279.out hb)
   have n2_ := A_.mk (blk_below BK280.out hb)
   have n3_ := A_.mk (blk_below BK285.out hb)
   have n4_ := A_.mk (below_step HB.out hb)
   have n5_ := A_.mk (hbox)
   have n6_ := A_.mk ((by rw [hg]; exact (below_size HB.out) : w.heap.size ≤ gb286))
   have n7_ := A_.mk ((by rw [hg]; exact (below_size HB.out) : w.heap.size ≤ gb286))
   have n8_ := A_.mk ((by rw [hg]; exact Nat.ne_of_lt (blk_lt BK278.out) : gb278 ≠ gb286))
   have n9_ := A_.mk ((by rw [hg]; exact Nat.ne_of_gt (blk_lt BK278.out) : gb286 ≠ gb278))
   have n10_ := A_.mk ((by rw [hg]; exact Nat.ne_of_lt (blk_lt BK279.out) : gb279 ≠ gb286))
   have n11_ := A_.mk ((by rw [hg]; exact Nat.ne_of_gt (blk_lt BK279.out) : gb286 ≠ gb279))
   have n12_ := A_.mk ((by rw [hg]; exact Nat.ne_of_lt (blk_lt BK280.out) : gb280 ≠ gb286))
   have n13_ := A_.mk ((by rw [hg]; exact Nat.ne_of_gt (blk_lt BK280.out) : gb286 ≠ gb280))
   have n14_ := A_.mk ((by rw [hg]; exact Nat.ne_of_lt (blk_lt BK285.out) : gb285 ≠ gb286))
   have n15_ := A_.mk ((by rw [hg]; exact Nat.ne_of_gt (blk_lt BK285.out) : gb286 ≠ gb285))
   clear BK278
   clear BK279
   clear BK280
   clear BK285
   clear HB
   have BK278 := n0_
   have BK279 := n1_
   have BK280 := n2_
   have BK285 := n3_
   have HB := n4_
   have BK286 := n5_
   have GW286 := n6_
   have GE286 := n7_
   have NB278_286 := n8_
   have NB286_278 := n9_
   have NB279_286 := n10_
   have NB286_279 := n11_
   have NB280_286 := n12_
   have NB286_280 := n13_
   have NB285_286 := n14_
   have NB286_285 := n15_
   clear n0_ n1_ n2_ n3_ n4_ n5_ n6_ n7_ n8_ n9_ n10_ n11_ n12_ n13_ n14_ n15_
   clear hb hbox hg
   refine hK.out _ _ ⟨(blk_cell BK278.out 0).trans rfl, (blk_cell BK278.out 1).trans rfl, (blk_cell BK279.out 0).trans rfl, (blk_cell BK279.out 1).trans rfl⟩ (fun hHeld => ?_)
   clear hK K
   exact norm_ (by simp only [putAll, Act.put, sI_, s0_, s1_]; try rfl) (hJ10_11 (gb285, gb286) _ ⟨hHeld, BK278.out, BK279.out, BK280.out, BK285.out, BK286.out, GW285.out, GE285.out, NB278_285.out, NB285_278.out, NB279_285.out, NB285_279.out, NB280_285.out, NB285_280.out, NB286_285.out, NB285_286.out, GW286.out, GE286.out, NB278_286.out, NB286_278.out, NB279_286.out, NB286_279.out, NB280_286.out, NB286_280.out, HB.out⟩)
 ·rintro _ w10 ⟨hS_, h0_, h1_, h2_, h3_⟩
  have n0_ : A_ (w10.heap[gb278]? = some (.cells #[.int .i64 a0_0, .int .i64 a0_1] 26 (0, 0))) := ⟨h0_⟩
  have n1_ : A_ (w10.heap[gb279]? = some (.cells #[.int .i64 a1_0, .int .i64 a1_1] 26 (0, 0))) := ⟨h1_⟩
  have n2_ : A_ (w10.heap[gb280]? = some (.cells #[.int .i64 0, .int .i64 0] 26 (0, 0))) := ⟨h2_⟩
  have n3_ : A_ (Below w.heap.size w w10) := ⟨h3_⟩
  clear BK278
  clear BK279
  clear BK280
  clear HB
  clear h0_ h1_ h2_ h3_
  have BK278 := n0_
  have BK279 := n1_
  have BK280 := n2_
  have HB := n3_
  clear n0_ n1_ n2_ n3_
  have hHeld : w10.cell? ⟨gb278, 0, none⟩ = some (.int .i64 a0_0) ∧ w10.cell? ⟨gb278, 1, none⟩ = some (.int .i64 a0_1) ∧ w10.cell? ⟨gb279, 0, none⟩ = some (.int .i64 a1_0) ∧ w10.cell? ⟨gb279, 1, none⟩ = some (.int .i64 a1_1) := hS_
  refine norm_ (a' := ?_) ?_ ?_
  rotate_left
  ·simp only [putAll, Act.put, sI_, s0_, s1_]
   rfl
  refine three_ (i := 9) (j := 10) (k := 11) (Ni := some 16) (Nj := some 5) (Nk := some 6) #[true, true, true, true, true, true, true, true, true, true, false, false, false, false] #[true, true, true, true, true, true, true, true, true, false, true, false, false, false] #[true, true, true, true, true, true, true, true, true, false, false, true, false, false] rfl rfl rfl rfl rfl rfl (three_of HT_.out (by kernel_rfl)) (by decide) (by decide) (by decide) (fun K hK => ?_) (fun K hK => ?_) (fun K hK => ?_)
  ·refine goes_ Tryd.func69 (by kernel_rfl) rfl #[.int .i64 a1_0, .int .i64 a0_1] (by rfl) rfl rfl (by (try simp only [List.map_toArray, List.map_cons, List.map_nil]); (rfl)) ?_
   with_reducible refine (spec_l2Cut.calls k a1_0 a0_1 t283 t284 _ A4.out).mono ?_
   rintro e w11 ⟨rfl, hb⟩
   refine ⟨_, rfl, ?_⟩
   have n0_ := A_.mk (blk_below BK278.out hb)
   have n1_ := A_.mk (blk_below BK279.out hb)
   have n2_ := A_.mk (blk_below BK280.out hb)
   have n3_ := A_.mk (below_step HB.out hb)
   clear BK278
   clear BK279
   clear BK280
   clear HB
   have BK278 := n0_
   have BK279 := n1_
   have BK280 := n2_
   have HB := n3_
   clear n0_ n1_ n2_ n3_
   (try clear hb)
   skip
   skip
   skip
   refine hK.out _ _ ⟨(blk_cell BK278.out 0).trans rfl, (blk_cell BK278.out 1).trans rfl, (blk_cell BK279.out 0).trans rfl, (blk_cell BK279.out 1).trans rfl⟩ (fun hHeld => ?_)
   clear hK K
   exact norm_ (by simp only [putAll, Act.put, sI_, s0_, s1_]; try rfl) (hJ4_9 () _ ⟨hHeld, BK278.out, BK279.out, BK280.out, HB.out⟩)
  ·refine box_step ?hg (N := 5) ?hd (cs := #[.int .i64 0, .int .i64 0]) (t := 26) ?hr ?_; (case hd => rfl); (case hg => rfl); (case hr => (go_simp; done))
   intro gb285 hg w11 hbox hb
   have n0_ := A_.mk (blk_below BK278.out hb)
   have n1_ := A_.mk (blk_below BK279.out hb)
   have n2_ := A_.mk (blk_below BK280.out hb)
   have n3_ := A_.mk (below_step HB.out hb)
   have n4_ := A_.mk (hbox)
   have n5_ := A_.mk ((by rw [hg]; exact (below_size HB.out) : w.heap.size ≤ gb285))
   have n6_ := A_.mk ((by rw [hg]; exact (below_size HB.out) : w.heap.size ≤ gb285))
   have n7_ := A_.mk ((by rw [hg]; exact Nat.ne_of_lt (blk_lt BK278.out) : gb278 ≠ gb285))
   have n8_ := A_.mk ((by rw [hg]; exact Nat.ne_of_gt (blk_lt BK278.out) : gb285 ≠ gb278))
   have n9_ := A_.mk ((by rw [hg]; exact Nat.ne_of_lt (blk_lt BK279.out) : gb279 ≠ gb285))
   have n10_ := A_.mk ((by rw [hg]; exact Nat.ne_of_gt (blk_lt BK279.out) : gb285 ≠ gb279))
   have n11_ := A_.mk ((by rw [hg]; exact Nat.ne_of_lt (blk_lt BK280.out) : gb280 ≠ gb285))
   have n12_ := A_.mk ((by rw [hg]; exact Nat.ne_of_gt (blk_lt BK280.out) : gb285 ≠ gb280))
   clear BK278
   clear BK279
   clear BK280
   clear HB
   have BK278 := n0_
   have BK279 := n1_
   have BK280 := n2_
   have HB := n3_
   have BK285 := n4_
   have GW285 := n5_
   have GE285 := n6_
   have NB278_285 := n7_
   have NB285_278 := n8_
   have NB279_285 := n9_
   have NB285_279 := n10_
   have NB280_285 := n11_
   have NB285_280 := n12_
   clear n0_ n1_ n2_ n3_ n4_ n5_ n6_ n7_ n8_ n9_ n10_ n11_ n12_
   clear hb hbox hg
   refine hK.out _ _ ⟨(blk_cell BK278.out 0).trans rfl, (blk_cell BK278.out 1).trans rfl, (blk_cell BK279.out 0).trans rfl, (blk_cell BK279.out 1).trans rfl⟩ (fun hHeld => ?_)
   clear hK K
   exact norm_ (by simp only [putAll, Act.put, sI_, s0_, s1_]; try rfl) (hJ4_10 (gb285) _ ⟨hHeld, BK278.out, BK279.out, BK280.out, BK285.out, GW285.out, GE285.out, NB278_285.out, NB285_278.out, NB279_285.out, NB285_279.out, NB280_285.out, NB285_280.out, HB.out⟩)
  ·refine box_step ?hg (N := 6) ?hd (cs := #[.int .i64 0, .int .i64 0]) (t := 26) ?hr ?_; (case hd => rfl); (case hg => rfl); (case hr => (go_simp; done))
   intro gb286 hg w11 hbox hb
   have n0_ := A_.mk (blk_below BK278.out hb)
   have n1_ := A_.mk (blk_below BK279.out hb)
   have n2_ := A_.mk (blk_below BK280.out hb)
   have n3_ := A_.mk (below_step HB.out hb)
   have n4_ := A_.mk (hbox)
   have n5_ := A_.mk ((by rw [hg]; exact (below_size HB.out) : w.heap.size ≤ gb286))
   have n6_ := A_.mk ((by rw [hg]; exact (below_size HB.out) : w.heap.size ≤ gb286))
   have n7_ := A_.mk ((by rw [hg]; exact Nat.ne_of_lt (blk_lt BK278.out) : gb278 ≠ gb286))
   have n8_ := A_.mk ((by rw [hg]; exact Nat.ne_of_gt (blk_lt BK278.out) : gb286 ≠ gb278))
   have n9_ := A_.mk ((by rw [hg]; exact Nat.ne_of_lt (blk_lt BK279.out) : gb279 ≠ gb286))
   have n10_ := A_.mk ((by rw [hg]; exact Nat.ne_of_gt (blk_lt BK279.out) : gb286 ≠ gb279))
   have n11_ := A_.mk ((by rw [hg]; exact Nat.ne_of_lt (blk_lt BK280.out) : gb280 ≠ gb286))
   have n12_ := A_.mk ((by rw [hg]; exact Nat.ne_of_gt (blk_lt BK280.out) : gb286 ≠ gb280))
   clear BK278
   clear BK279
   clear BK280
   clear HB
   have BK278 := n0_
   have BK279 := n1_
   have BK280 := n2_
   have HB := n3_
   have BK286 := n4_
   have GW286 := n5_
   have GE286 := n6_
   have NB278_286 := n7_
   have NB286_278 := n8_
   have NB279_286 := n9_
   have NB286_279 := n10_
   have NB280_286 := n11_
   have NB286_280 := n12_
   clear n0_ n1_ n2_ n3_ n4_ n5_ n6_ n7_ n8_ n9_ n10_ n11_ n12_
   clear hb hbox hg
   refine hK.out _ _ ⟨(blk_cell BK278.out 0).trans rfl, (blk_cell BK278.out 1).trans rfl, (blk_cell BK279.out 0).trans rfl, (blk_cell BK279.out 1).trans rfl⟩ (fun hHeld => ?_)
   clear hK K
   exact norm_ (by simp only [putAll, Act.put, sI_, s0_, s1_]; try rfl) (hJ4_11 (gb286) _ ⟨hHeld, BK278.out, BK279.out, BK280.out, BK286.out, GW286.out, GE286.out, NB278_286.out, NB286_278.out, NB279_286.out, NB286_279.out, NB280_286.out, NB286_280.out, HB.out⟩)
 ·rintro ⟨gb285, gb286⟩ w11 ⟨hS_, h0_, h1_, h2_, h3_, h4_, h5_, h6_, h7_, h8_, h9_, h10_, h11_, h12_, h13_, h14_, h15_, h16_, h17_, h18_, h19_, h20_, h21_, h22_, h23_⟩
  have n0_ : A_ (w11.heap[gb278]? = some (.cells #[.int .i64 a0_0, .int .i64 a0_1] 26 (0, 0))) := ⟨h0_⟩
  have n1_ : A_ (w11.heap[gb279]? = some (.cells #[.int .i64 a1_0, .int .i64 a1_1] 26 (0, 0))) := ⟨h1_⟩
  have n2_ : A_ (w11.heap[gb280]? = some (.cells #[.int .i64 0, .int .i64 0] 26 (0, 0))) := ⟨h2_⟩
  have n3_ : A_ (w11.heap[gb285]? = some (.cells #[.int .i64 0, .int .i64 0] 26 (0, 0))) := ⟨h3_⟩
  have n4_ : A_ (w11.heap[gb286]? = some (.cells #[.int .i64 0, .int .i64 0] 26 (0, 0))) := ⟨h4_⟩
  have n5_ : A_ (w.heap.size ≤ gb285) := ⟨h5_⟩
  have n6_ : A_ (w.heap.size ≤ gb285) := ⟨h6_⟩
  have n7_ : A_ (gb278 ≠ gb285) := ⟨h7_⟩
  have n8_ : A_ (gb285 ≠ gb278) := ⟨h8_⟩
  have n9_ : A_ (gb279 ≠ gb285) := ⟨h9_⟩
  have n10_ : A_ (gb285 ≠ gb279) := ⟨h10_⟩
  have n11_ : A_ (gb280 ≠ gb285) := ⟨h11_⟩
  have n12_ : A_ (gb285 ≠ gb280) := ⟨h12_⟩
  have n13_ : A_ (gb286 ≠ gb285) := ⟨h13_⟩
  have n14_ : A_ (gb285 ≠ gb286) := ⟨h14_⟩
  have n15_ : A_ (w.heap.size ≤ gb286) := ⟨h15_⟩
  have n16_ : A_ (w.heap.size ≤ gb286) := ⟨h16_⟩
  have n17_ : A_ (gb278 ≠ gb286) := ⟨h17_⟩
  have n18_ : A_ (gb286 ≠ gb278) := ⟨h18_⟩
  have n19_ : A_ (gb279 ≠ gb286) := ⟨h19_⟩
  have n20_ : A_ (gb286 ≠ gb279) := ⟨h20_⟩
  have n21_ : A_ (gb280 ≠ gb286) := ⟨h21_⟩
  have n22_ : A_ (gb286 ≠ gb280) := ⟨h22_⟩
  have n23_ : A_ (Below w.heap.size w w11) := ⟨h23_⟩
  clear BK278
  clear BK279
  clear BK280
  clear HB
  clear h0_ h1_ h2_ h3_ h4_ h5_ h6_ h7_ h8_ h9_ h10_ h11_ h12_ h13_ h14_ h15_ h16_ h17_ h18_ h19_ h20_ h21_ h22_ h23_
  have BK278 := n0_
  have BK279 := n1_
  have BK280 := n2_
  have BK285 := n3_
  have BK286 := n4_
  have GW285 := n5_
  have GE285 := n6_
  have NB278_285 := n7_
  have NB285_278 := n8_
  have NB279_285 := n9_
  have NB285_279 := n10_
  have NB280_285 := n11_
  have NB285_280 := n12_
  have NB286_285 := n13_
  have NB285_286 := n14_
  have GW286 := n15_
  have GE286 := n16_
  have NB278_286 := n17_
  have NB286_278 := n18_
  have NB279_286 := n19_
  have NB286_279 := n20_
  have NB280_286 := n21_
  have NB286_280 := n22_
  have HB := n23_
  clear n0_ n1_ n2_ n3_ n4_ n5_ n6_ n7_ n8_ n9_ n10_ n11_ n12_ n13_ n14_ n15_ n16_ n17_ n18_ n19_ n20_ n21_ n22_ n23_
  have hHeld : w11.cell? ⟨gb278, 0, none⟩ = some (.int .i64 a0_0) ∧ w11.cell? ⟨gb278, 1, none⟩ = some (.int .i64 a0_1) ∧ w11.cell? ⟨gb279, 0, none⟩ = some (.int .i64 a1_0) ∧ w11.cell? ⟨gb279, 1, none⟩ = some (.int .i64 a1_1) := hS_
  refine norm_ (a' := ?_) ?_ ?_
  rotate_left
  ·simp only [putAll, Act.put, sI_, s0_, s1_]
   rfl
  refine one_ (i := 4) (N := some 11) #[true, true, true, true, true, true, true, true, true, false, true, true, false, false] rfl rfl (one_of HT_.out (by kernel_rfl)) (by decide) (fun K hK => ?_)
  refine goes_ Tryd.func69 (by kernel_rfl) rfl #[.int .i64 a0_0, .int .i64 a1_1] (by rfl) rfl rfl (by (try simp only [List.map_toArray, List.map_cons, List.map_nil]); (rfl)) ?_
  with_reducible refine (spec_l2Cut.calls k a0_0 a1_1 t281 t282 _ A3.out).mono ?_
  rintro e w12 ⟨rfl, hb⟩
  refine ⟨_, rfl, ?_⟩
  have n0_ := A_.mk (blk_below BK278.out hb)
  have n1_ := A_.mk (blk_below BK279.out hb)
  have n2_ := A_.mk (blk_below BK280.out hb)
  have n3_ := A_.mk (blk_below BK285.out hb)
  have n4_ := A_.mk (blk_below BK286.out hb)
  have n5_ := A_.mk (below_step HB.out hb)
  clear BK278
  clear BK279
  clear BK280
  clear BK285
  clear BK286
  clear HB
  have BK278 := n0_
  have BK279 := n1_
  have BK280 := n2_
  have BK285 := n3_
  have BK286 := n4_
  have HB := n5_
  clear n0_ n1_ n2_ n3_ n4_ n5_
  (try clear hb)
  skip
  skip
  skip
  refine hK.out _ _ ⟨(blk_cell BK278.out 0).trans rfl, (blk_cell BK278.out 1).trans rfl, (blk_cell BK279.out 0).trans rfl, (blk_cell BK279.out 1).trans rfl⟩ (fun hHeld => ?_)
  clear hK K
  exact norm_ (by simp only [putAll, Act.put, sI_, s0_, s1_]; try rfl) (hJ4_10_11 (gb285, gb286) _ ⟨hHeld, BK278.out, BK279.out, BK280.out, BK285.out, BK286.out, GW285.out, GE285.out, NB278_285.out, NB285_278.out, NB279_285.out, NB285_279.out, NB280_285.out, NB285_280.out, NB286_285.out, NB285_286.out, GW286.out, GE286.out, NB278_286.out, NB286_278.out, NB279_286.out, NB286_279.out, NB280_286.out, NB286_280.out, HB.out⟩)
 ·rintro gb286 w11 ⟨hS_, h0_, h1_, h2_, h3_, h4_, h5_, h6_, h7_, h8_, h9_, h10_, h11_, h12_⟩
  have n0_ : A_ (w11.heap[gb278]? = some (.cells #[.int .i64 a0_0, .int .i64 a0_1] 26 (0, 0))) := ⟨h0_⟩
  have n1_ : A_ (w11.heap[gb279]? = some (.cells #[.int .i64 a1_0, .int .i64 a1_1] 26 (0, 0))) := ⟨h1_⟩
  have n2_ : A_ (w11.heap[gb280]? = some (.cells #[.int .i64 0, .int .i64 0] 26 (0, 0))) := ⟨h2_⟩
  have n3_ : A_ (w11.heap[gb286]? = some (.cells #[.int .i64 0, .int .i64 0] 26 (0, 0))) := ⟨h3_⟩
  have n4_ : A_ (w.heap.size ≤ gb286) := ⟨h4_⟩
  have n5_ : A_ (w.heap.size ≤ gb286) := ⟨h5_⟩
  have n6_ : A_ (gb278 ≠ gb286) := ⟨h6_⟩
  have n7_ : A_ (gb286 ≠ gb278) := ⟨h7_⟩
  have n8_ : A_ (gb279 ≠ gb286) := ⟨h8_⟩
  have n9_ : A_ (gb286 ≠ gb279) := ⟨h9_⟩
  have n10_ : A_ (gb280 ≠ gb286) := ⟨h10_⟩
  have n11_ : A_ (gb286 ≠ gb280) := ⟨h11_⟩
  have n12_ : A_ (Below w.heap.size w w11) := ⟨h12_⟩
  clear BK278
  clear BK279
  clear BK280
  clear HB
  clear h0_ h1_ h2_ h3_ h4_ h5_ h6_ h7_ h8_ h9_ h10_ h11_ h12_
  have BK278 := n0_
  have BK279 := n1_
  have BK280 := n2_
  have BK286 := n3_
  have GW286 := n4_
  have GE286 := n5_
  have NB278_286 := n6_
  have NB286_278 := n7_
  have NB279_286 := n8_
  have NB286_279 := n9_
  have NB280_286 := n10_
  have NB286_280 := n11_
  have HB := n12_
  clear n0_ n1_ n2_ n3_ n4_ n5_ n6_ n7_ n8_ n9_ n10_ n11_ n12_
  have hHeld : w11.cell? ⟨gb278, 0, none⟩ = some (.int .i64 a0_0) ∧ w11.cell? ⟨gb278, 1, none⟩ = some (.int .i64 a0_1) ∧ w11.cell? ⟨gb279, 0, none⟩ = some (.int .i64 a1_0) ∧ w11.cell? ⟨gb279, 1, none⟩ = some (.int .i64 a1_1) := hS_
  refine norm_ (a' := ?_) ?_ ?_
  rotate_left
  ·simp only [putAll, Act.put, sI_, s0_, s1_]
   rfl
  refine two_ (i := 9) (j := 10) (Ni := some 16) (Nj := some 5) #[true, true, true, true, true, true, true, true, true, true, false, true, false, false] #[true, true, true, true, true, true, true, true, true, false, true, true, false, false] rfl rfl rfl rfl (two_of HT_.out (by kernel_rfl)) (by decide) (by decide) (fun K hK => ?_) (fun K hK => ?_)
  ·refine goes_ Tryd.func69 (by kernel_rfl) rfl #[.int .i64 a1_0, .int .i64 a0_1] (by rfl) rfl rfl (by (try simp only [List.map_toArray, List.map_cons, List.map_nil]); (rfl)) ?_
   with_reducible refine (spec_l2Cut.calls k a1_0 a0_1 t283 t284 _ A4.out).mono ?_
   rintro e w12 ⟨rfl, hb⟩
   refine ⟨_, rfl, ?_⟩
   have n0_ := A_.mk (blk_below BK278.out hb)
   have n1_ := A_.mk (blk_below BK279.out hb)
   have n2_ := A_.mk (blk_below BK280.out hb)
   have n3_ := A_.mk (blk_below BK286.out hb)
   have n4_ := A_.mk (below_step HB.out hb)
   clear BK278
   clear BK279
   clear BK280
   clear BK286
   clear HB
   have BK278 := n0_
   have BK279 := n1_
   have BK280 := n2_
   have BK286 := n3_
   have HB := n4_
   clear n0_ n1_ n2_ n3_ n4_
   (try clear hb)
   skip
   skip
   skip
   refine hK.out _ _ ⟨(blk_cell BK278.out 0).trans rfl, (blk_cell BK278.out 1).trans rfl, (blk_cell BK279.out 0).trans rfl, (blk_cell BK279.out 1).trans rfl⟩ (fun hHeld => ?_)
   clear hK K
   exact norm_ (by simp only [putAll, Act.put, sI_, s0_, s1_]; try rfl) (hJ4_9_11 (gb286) _ ⟨hHeld, BK278.out, BK279.out, BK280.out, BK286.out, GW286.out, GE286.out, NB278_286.out, NB286_278.out, NB279_286.out, NB286_279.out, NB280_286.out, NB286_280.out, HB.out⟩)
  ·refine box_step ?hg (N := 5) ?hd (cs := #[.int .i64 0, .int .i64 0]) (t := 26) ?hr ?_; (case hd => rfl); (case hg => rfl); (case hr => (go_simp; done))
   intro gb285 hg w12 hbox hb
   have n0_ := A_.mk (blk_below BK278.out hb)
   have n1_ := A_.mk (blk_below BK279.out hb)
   have n2_ := A_.mk (blk_below BK280.out hb)
   have n3_ := A_.mk (blk_below BK286.out hb)
   have n4_ := A_.mk (below_step HB.out hb)
   have n5_ := A_.mk (hbox)
   have n6_ := A_.mk ((by rw [hg]; exact (below_size HB.out) : w.heap.size ≤ gb285))
   have n7_ := A_.mk ((by rw [hg]; exact (below_size HB.out) : w.heap.size ≤ gb285))
   have n8_ := A_.mk ((by rw [hg]; exact Nat.ne_of_lt (blk_lt BK278.out) : gb278 ≠ gb285))
   have n9_ := A_.mk ((by rw [hg]; exact Nat.ne_of_gt (blk_lt BK278.out) : gb285 ≠ gb278))
   have n10_ := A_.mk ((by rw [hg]; exact Nat.ne_of_lt (blk_lt BK279.out) : gb279 ≠ gb285))
   have n11_ := A_.mk ((by rw [hg]; exact Nat.ne_of_gt (blk_lt BK279.out) : gb285 ≠ gb279))
   have n12_ := A_.mk ((by rw [hg]; exact Nat.ne_of_lt (blk_lt BK280.out) : gb280 ≠ gb285))
   have n13_ := A_.mk ((by rw [hg]; exact Nat.ne_of_gt (blk_lt BK280.out) : gb285 ≠ gb280))
   have n14_ := A_.mk ((by rw [hg]; exact Nat.ne_of_lt (blk_lt BK286.out) : gb286 ≠ gb285))
   have n15_ := A_.mk ((by rw [hg]; exact Nat.ne_of_gt (blk_lt BK286.out) : gb285 ≠ gb286))
   clear BK278
   clear BK279
   clear BK280
   clear BK286
   clear HB
   have BK278 := n0_
   have BK279 := n1_
   have BK280 := n2_
   have BK286 := n3_
   have HB := n4_
   have BK285 := n5_
   have GW285 := n6_
   have GE285 := n7_
   have NB278_285 := n8_
   have NB285_278 := n9_
   have NB279_285 := n10_
   have NB285_279 := n11_
   have NB280_285 := n12_
   have NB285_280 := n13_
   have NB286_285 := n14_
   have NB285_286 := n15_
   clear n0_ n1_ n2_ n3_ n4_ n5_ n6_ n7_ n8_ n9_ n10_ n11_ n12_ n13_ n14_ n15_
   clear hb hbox hg
   refine hK.out _ _ ⟨(blk_cell BK278.out 0).trans rfl, (blk_cell BK278.out 1).trans rfl, (blk_cell BK279.out 0).trans rfl, (blk_cell BK279.out 1).trans rfl⟩ (fun hHeld => ?_)
   clear hK K
   exact norm_ (by simp only [putAll, Act.put, sI_, s0_, s1_]; try rfl) (hJ4_10_11 (gb285, gb286) _ ⟨hHeld, BK278.out, BK279.out, BK280.out, BK285.out, BK286.out, GW285.out, GE285.out, NB278_285.out, NB285_278.out, NB279_285.out, NB285_279.out, NB280_285.out, NB285_280.out, NB286_285.out, NB285_286.out, GW286.out, GE286.out, NB278_286.out, NB286_278.out, NB279_286.out, NB286_279.out, NB280_286.out, NB286_280.out, HB.out⟩)
 ·rintro gb285 w11 ⟨hS_, h0_, h1_, h2_, h3_, h4_, h5_, h6_, h7_, h8_, h9_, h10_, h11_, h12_⟩
  have n0_ : A_ (w11.heap[gb278]? = some (.cells #[.int .i64 a0_0, .int .i64 a0_1] 26 (0, 0))) := ⟨h0_⟩
  have n1_ : A_ (w11.heap[gb279]? = some (.cells #[.int .i64 a1_0, .int .i64 a1_1] 26 (0, 0))) := ⟨h1_⟩
  have n2_ : A_ (w11.heap[gb280]? = some (.cells #[.int .i64 0, .int .i64 0] 26 (0, 0))) := ⟨h2_⟩
  have n3_ : A_ (w11.heap[gb285]? = some (.cells #[.int .i64 0, .int .i64 0] 26 (0, 0))) := ⟨h3_⟩
  have n4_ : A_ (w.heap.size ≤ gb285) := ⟨h4_⟩
  have n5_ : A_ (w.heap.size ≤ gb285) := ⟨h5_⟩
  have n6_ : A_ (gb278 ≠ gb285) := ⟨h6_⟩
  have n7_ : A_ (gb285 ≠ gb278) := ⟨h7_⟩
  have n8_ : A_ (gb279 ≠ gb285) := ⟨h8_⟩
  have n9_ : A_ (gb285 ≠ gb279) := ⟨h9_⟩
  have n10_ : A_ (gb280 ≠ gb285) := ⟨h10_⟩
  have n11_ : A_ (gb285 ≠ gb280) := ⟨h11_⟩
  have n12_ : A_ (Below w.heap.size w w11) := ⟨h12_⟩
  clear BK278
  clear BK279
  clear BK280
  clear HB
  clear h0_ h1_ h2_ h3_ h4_ h5_ h6_ h7_ h8_ h9_ h10_ h11_ h12_
  have BK278 := n0_
  have BK279 := n1_
  have BK280 := n2_
  have BK285 := n3_
  have GW285 := n4_
  have GE285 := n5_
  have NB278_285 := n6_
  have NB285_278 := n7_
  have NB279_285 := n8_
  have NB285_279 := n9_
  have NB280_285 := n10_
  have NB285_280 := n11_
  have HB := n12_
  clear n0_ n1_ n2_ n3_ n4_ n5_ n6_ n7_ n8_ n9_ n10_ n11_ n12_
  have hHeld : w11.cell? ⟨gb278, 0, none⟩ = some (.int .i64 a0_0) ∧ w11.cell? ⟨gb278, 1, none⟩ = some (.int .i64 a0_1) ∧ w11.cell? ⟨gb279, 0, none⟩ = some (.int .i64 a1_0) ∧ w11.cell? ⟨gb279, 1, none⟩ = some (.int .i64 a1_1) := hS_
  refine norm_ (a' := ?_) ?_ ?_
  rotate_left
  ·simp only [putAll, Act.put, sI_, s0_, s1_]
   rfl
  refine two_ (i := 9) (j := 11) (Ni := some 16) (Nj := some 6) #[true, true, true, true, true, true, true, true, true, true, true, false, false, false] #[true, true, true, true, true, true, true, true, true, false, true, true, false, false] rfl rfl rfl rfl (two_of HT_.out (by kernel_rfl)) (by decide) (by decide) (fun K hK => ?_) (fun K hK => ?_)
  ·refine goes_ Tryd.func69 (by kernel_rfl) rfl #[.int .i64 a1_0, .int .i64 a0_1] (by rfl) rfl rfl (by (try simp only [List.map_toArray, List.map_cons, List.map_nil]); (rfl)) ?_
   with_reducible refine (spec_l2Cut.calls k a1_0 a0_1 t283 t284 _ A4.out).mono ?_
   rintro e w12 ⟨rfl, hb⟩
   refine ⟨_, rfl, ?_⟩
   have n0_ := A_.mk (blk_below BK278.out hb)
   have n1_ := A_.mk (blk_below BK279.out hb)
   have n2_ := A_.mk (blk_below BK280.out hb)
   have n3_ := A_.mk (blk_below BK285.out hb)
   have n4_ := A_.mk (below_step HB.out hb)
   clear BK278
   clear BK279
   clear BK280
   clear BK285
   clear HB
   have BK278 := n0_
   have BK279 := n1_
   have BK280 := n2_
   have BK285 := n3_
   have HB := n4_
   clear n0_ n1_ n2_ n3_ n4_
   (try clear hb)
   skip
   skip
   skip
   refine hK.out _ _ ⟨(blk_cell BK278.out 0).trans rfl, (blk_cell BK278.out 1).trans rfl, (blk_cell BK279.out 0).trans rfl, (blk_cell BK279.out 1).trans rfl⟩ (fun hHeld => ?_)
   clear hK K
   exact norm_ (by simp only [putAll, Act.put, sI_, s0_, s1_]; try rfl) (hJ4_9_10 (gb285) _ ⟨hHeld, BK278.out, BK279.out, BK280.out, BK285.out, GW285.out, GE285.out, NB278_285.out, NB285_278.out, NB279_285.out, NB285_279.out, NB280_285.out, NB285_280.out, HB.out⟩)
  ·refine box_step ?hg (N := 6) ?hd (cs := #[.int .i64 0, .int .i64 0]) (t := 26) ?hr ?_; (case hd => rfl); (case hg => rfl); (case hr => (go_simp; done))
   intro gb286 hg w12 hbox hb
   have n0_ := A_.mk (blk_below BK278.out hb)
   have n1_ := A_.mk (blk_below BK279.out hb)
   have n2_ := A_.mk (blk_below BK280.out hb)
   have n3_ := A_.mk (blk_below BK285.out hb)
   have n4_ := A_.mk (below_step HB.out hb)
   have n5_ := A_.mk (hbox)
   have n6_ := A_.mk ((by rw [hg]; exact (below_size HB.out) : w.heap.size ≤ gb286))
   have n7_ := A_.mk ((by rw [hg]; exact (below_size HB.out) : w.heap.size ≤ gb286))
   have n8_ := A_.mk ((by rw [hg]; exact Nat.ne_of_lt (blk_lt BK278.out) : gb278 ≠ gb286))
   have n9_ := A_.mk ((by rw [hg]; exact Nat.ne_of_gt (blk_lt BK278.out) : gb286 ≠ gb278))
   have n10_ := A_.mk ((by rw [hg]; exact Nat.ne_of_lt (blk_lt BK279.out) : gb279 ≠ gb286))
   have n11_ := A_.mk ((by rw [hg]; exact Nat.ne_of_gt (blk_lt BK279.out) : gb286 ≠ gb279))
   have n12_ := A_.mk ((by rw [hg]; exact Nat.ne_of_lt (blk_lt BK280.out) : gb280 ≠ gb286))
   have n13_ := A_.mk ((by rw [hg]; exact Nat.ne_of_gt (blk_lt BK280.out) : gb286 ≠ gb280))
   have n14_ := A_.mk ((by rw [hg]; exact Nat.ne_of_lt (blk_lt BK285.out) : gb285 ≠ gb286))
   have n15_ := A_.mk ((by rw [hg]; exact Nat.ne_of_gt (blk_lt BK285.out) : gb286 ≠ gb285))
   clear BK278
   clear BK279
   clear BK280
   clear BK285
   clear HB
   have BK278 := n0_
   have BK279 := n1_
   have BK280 := n2_
   have BK285 := n3_
   have HB := n4_
   have BK286 := n5_
   have GW286 := n6_
   have GE286 := n7_
   have NB278_286 := n8_
   have NB286_278 := n9_
   have NB279_286 := n10_
   have NB286_279 := n11_
   have NB280_286 := n12_
   have NB286_280 := n13_
   have NB285_286 := n14_
   have NB286_285 := n15_
   clear n0_ n1_ n2_ n3_ n4_ n5_ n6_ n7_ n8_ n9_ n10_ n11_ n12_ n13_ n14_ n15_
   clear hb hbox hg
   refine hK.out _ _ ⟨(blk_cell BK278.out 0).trans rfl, (blk_cell BK278.out 1).trans rfl, (blk_cell BK279.out 0).trans rfl, (blk_cell BK279.out 1).trans rfl⟩ (fun hHeld => ?_)
   clear hK K
   exact norm_ (by simp only [putAll, Act.put, sI_, s0_, s1_]; try rfl) (hJ4_10_11 (gb285, gb286) _ ⟨hHeld, BK278.out, BK279.out, BK280.out, BK285.out, BK286.out, GW285.out, GE285.out, NB278_285.out, NB285_278.out, NB279_285.out, NB285_279.out, NB280_285.out, NB285_280.out, NB286_285.out, NB285_286.out, GW286.out, GE286.out, NB278_286.out, NB286_278.out, NB279_286.out, NB286_279.out, NB280_286.out, NB286_280.out, HB.out⟩)
 ·rintro _ w11 ⟨hS_, h0_, h1_, h2_, h3_⟩
  have n0_ : A_ (w11.heap[gb278]? = some (.cells #[.int .i64 a0_0, .int .i64 a0_1] 26 (0, 0))) := ⟨h0_⟩
  have n1_ : A_ (w11.heap[gb279]? = some (.cells #[.int .i64 a1_0, .int .i64 a1_1] 26 (0, 0))) := ⟨h1_⟩
  have n2_ : A_ (w11.heap[gb280]? = some (.cells #[.int .i64 0, .int .i64 0] 26 (0, 0))) := ⟨h2_⟩
  have n3_ : A_ (Below w.heap.size w w11) := ⟨h3_⟩
  clear BK278
  clear BK279
  clear BK280
  clear HB
  clear h0_ h1_ h2_ h3_
  have BK278 := n0_
  have BK279 := n1_
  have BK280 := n2_
  have HB := n3_
  clear n0_ n1_ n2_ n3_
  have hHeld : w11.cell? ⟨gb278, 0, none⟩ = some (.int .i64 a0_0) ∧ w11.cell? ⟨gb278, 1, none⟩ = some (.int .i64 a0_1) ∧ w11.cell? ⟨gb279, 0, none⟩ = some (.int .i64 a1_0) ∧ w11.cell? ⟨gb279, 1, none⟩ = some (.int .i64 a1_1) := hS_
  refine norm_ (a' := ?_) ?_ ?_
  rotate_left
  ·simp only [putAll, Act.put, sI_, s0_, s1_]
   rfl
  refine two_ (i := 10) (j := 11) (Ni := some 5) (Nj := some 6) #[true, true, true, true, true, true, true, true, true, true, true, false, false, false] #[true, true, true, true, true, true, true, true, true, true, false, true, false, false] rfl rfl rfl rfl (two_of HT_.out (by kernel_rfl)) (by decide) (by decide) (fun K hK => ?_) (fun K hK => ?_)
  ·refine box_step ?hg (N := 5) ?hd (cs := #[.int .i64 0, .int .i64 0]) (t := 26) ?hr ?_; (case hd => rfl); (case hg => rfl); (case hr => (go_simp; done))
   intro gb285 hg w12 hbox hb
   have n0_ := A_.mk (blk_below BK278.out hb)
   have n1_ := A_.mk (blk_below BK279.out hb)
   have n2_ := A_.mk (blk_below BK280.out hb)
   have n3_ := A_.mk (below_step HB.out hb)
   have n4_ := A_.mk (hbox)
   have n5_ := A_.mk ((by rw [hg]; exact (below_size HB.out) : w.heap.size ≤ gb285))
   have n6_ := A_.mk ((by rw [hg]; exact (below_size HB.out) : w.heap.size ≤ gb285))
   have n7_ := A_.mk ((by rw [hg]; exact Nat.ne_of_lt (blk_lt BK278.out) : gb278 ≠ gb285))
   have n8_ := A_.mk ((by rw [hg]; exact Nat.ne_of_gt (blk_lt BK278.out) : gb285 ≠ gb278))
   have n9_ := A_.mk ((by rw [hg]; exact Nat.ne_of_lt (blk_lt BK279.out) : gb279 ≠ gb285))
   have n10_ := A_.mk ((by rw [hg]; exact Nat.ne_of_gt (blk_lt BK279.out) : gb285 ≠ gb279))
   have n11_ := A_.mk ((by rw [hg]; exact Nat.ne_of_lt (blk_lt BK280.out) : gb280 ≠ gb285))
   have n12_ := A_.mk ((by rw [hg]; exact Nat.ne_of_gt (blk_lt BK280.out) : gb285 ≠ gb280))
   clear BK278
   clear BK279
   clear BK280
   clear HB
   have BK278 := n0_
   have BK279 := n1_
   have BK280 := n2_
   have HB := n3_
   have BK285 := n4_
   have GW285 := n5_
   have GE285 := n6_
   have NB278_285 := n7_
   have NB285_278 := n8_
   have NB279_285 := n9_
   have NB285_279 := n10_
   have NB280_285 := n11_
   have NB285_280 := n12_
   clear n0_ n1_ n2_ n3_ n4_ n5_ n6_ n7_ n8_ n9_ n10_ n11_ n12_
   clear hb hbox hg
   refine hK.out _ _ ⟨(blk_cell BK278.out 0).trans rfl, (blk_cell BK278.out 1).trans rfl, (blk_cell BK279.out 0).trans rfl, (blk_cell BK279.out 1).trans rfl⟩ (fun hHeld => ?_)
   clear hK K
   exact norm_ (by simp only [putAll, Act.put, sI_, s0_, s1_]; try rfl) (hJ4_9_10 (gb285) _ ⟨hHeld, BK278.out, BK279.out, BK280.out, BK285.out, GW285.out, GE285.out, NB278_285.out, NB285_278.out, NB279_285.out, NB285_279.out, NB280_285.out, NB285_280.out, HB.out⟩)
  ·refine box_step ?hg (N := 6) ?hd (cs := #[.int .i64 0, .int .i64 0]) (t := 26) ?hr ?_; (case hd => rfl); (case hg => rfl); (case hr => (go_simp; done))
   intro gb286 hg w12 hbox hb
   have n0_ := A_.mk (blk_below BK278.out hb)
   have n1_ := A_.mk (blk_below BK279.out hb)
   have n2_ := A_.mk (blk_below BK280.out hb)
   have n3_ := A_.mk (below_step HB.out hb)
   have n4_ := A_.mk (hbox)
   have n5_ := A_.mk ((by rw [hg]; exact (below_size HB.out) : w.heap.size ≤ gb286))
   have n6_ := A_.mk ((by rw [hg]; exact (below_size HB.out) : w.heap.size ≤ gb286))
   have n7_ := A_.mk ((by rw [hg]; exact Nat.ne_of_lt (blk_lt BK278.out) : gb278 ≠ gb286))
   have n8_ := A_.mk ((by rw [hg]; exact Nat.ne_of_gt (blk_lt BK278.out) : gb286 ≠ gb278))
   have n9_ := A_.mk ((by rw [hg]; exact Nat.ne_of_lt (blk_lt BK279.out) : gb279 ≠ gb286))
   have n10_ := A_.mk ((by rw [hg]; exact Nat.ne_of_gt (blk_lt BK279.out) : gb286 ≠ gb279))
   have n11_ := A_.mk ((by rw [hg]; exact Nat.ne_of_lt (blk_lt BK280.out) : gb280 ≠ gb286))
   have n12_ := A_.mk ((by rw [hg]; exact Nat.ne_of_gt (blk_lt BK280.out) : gb286 ≠ gb280))
   clear BK278
   clear BK279
   clear BK280
   clear HB
   have BK278 := n0_
   have BK279 := n1_
   have BK280 := n2_
   have HB := n3_
   have BK286 := n4_
   have GW286 := n5_
   have GE286 := n6_
   have NB278_286 := n7_
   have NB286_278 := n8_
   have NB279_286 := n9_
   have NB286_279 := n10_
   have NB280_286 := n11_
   have NB286_280 := n12_
   clear n0_ n1_ n2_ n3_ n4_ n5_ n6_ n7_ n8_ n9_ n10_ n11_ n12_
   clear hb hbox hg
   refine hK.out _ _ ⟨(blk_cell BK278.out 0).trans rfl, (blk_cell BK278.out 1).trans rfl, (blk_cell BK279.out 0).trans rfl, (blk_cell BK279.out 1).trans rfl⟩ (fun hHeld => ?_)
   clear hK K
   exact norm_ (by simp only [putAll, Act.put, sI_, s0_, s1_]; try rfl) (hJ4_9_11 (gb286) _ ⟨hHeld, BK278.out, BK279.out, BK280.out, BK286.out, GW286.out, GE286.out, NB278_286.out, NB286_278.out, NB279_286.out, NB286_279.out, NB280_286.out, NB286_280.out, HB.out⟩)
 ·rintro ⟨gb285, gb286⟩ w12 ⟨hS_, h0_, h1_, h2_, h3_, h4_, h5_, h6_, h7_, h8_, h9_, h10_, h11_, h12_, h13_, h14_, h15_, h16_, h17_, h18_, h19_, h20_, h21_, h22_, h23_⟩
  have n0_ : A_ (w12.heap[gb278]? = some (.cells #[.int .i64 a0_0, .int .i64 a0_1] 26 (0, 0))) := ⟨h0_⟩
  have n1_ : A_ (w12.heap[gb279]? = some (.cells #[.int .i64 a1_0, .int .i64 a1_1] 26 (0, 0))) := ⟨h1_⟩
  have n2_ : A_ (w12.heap[gb280]? = some (.cells #[.int .i64 0, .int .i64 0] 26 (0, 0))) := ⟨h2_⟩
  have n3_ : A_ (w12.heap[gb285]? = some (.cells #[.int .i64 0, .int .i64 0] 26 (0, 0))) := ⟨h3_⟩
  have n4_ : A_ (w12.heap[gb286]? = some (.cells #[.int .i64 0, .int .i64 0] 26 (0, 0))) := ⟨h4_⟩
  have n5_ : A_ (w.heap.size ≤ gb285) := ⟨h5_⟩
  have n6_ : A_ (w.heap.size ≤ gb285) := ⟨h6_⟩
  have n7_ : A_ (gb278 ≠ gb285) := ⟨h7_⟩
  have n8_ : A_ (gb285 ≠ gb278) := ⟨h8_⟩
  have n9_ : A_ (gb279 ≠ gb285) := ⟨h9_⟩
  have n10_ : A_ (gb285 ≠ gb279) := ⟨h10_⟩
  have n11_ : A_ (gb280 ≠ gb285) := ⟨h11_⟩
  have n12_ : A_ (gb285 ≠ gb280) := ⟨h12_⟩
  have n13_ : A_ (gb286 ≠ gb285) := ⟨h13_⟩
  have n14_ : A_ (gb285 ≠ gb286) := ⟨h14_⟩
  have n15_ : A_ (w.heap.size ≤ gb286) := ⟨h15_⟩
  have n16_ : A_ (w.heap.size ≤ gb286) := ⟨h16_⟩
  have n17_ : A_ (gb278 ≠ gb286) := ⟨h17_⟩
  have n18_ : A_ (gb286 ≠ gb278) := ⟨h18_⟩
  have n19_ : A_ (gb279 ≠ gb286) := ⟨h19_⟩
  have n20_ : A_ (gb286 ≠ gb279) := ⟨h20_⟩
  have n21_ : A_ (gb280 ≠ gb286) := ⟨h21_⟩
  have n22_ : A_ (gb286 ≠ gb280) := ⟨h22_⟩
  have n23_ : A_ (Below w.heap.size w w12) := ⟨h23_⟩
  clear BK278
  clear BK279
  clear BK280
  clear HB
  clear h0_ h1_ h2_ h3_ h4_ h5_ h6_ h7_ h8_ h9_ h10_ h11_ h12_ h13_ h14_ h15_ h16_ h17_ h18_ h19_ h20_ h21_ h22_ h23_
  have BK278 := n0_
  have BK279 := n1_
  have BK280 := n2_
  have BK285 := n3_
  have BK286 := n4_
  have GW285 := n5_
  have GE285 := n6_
  have NB278_285 := n7_
  have NB285_278 := n8_
  have NB279_285 := n9_
  have NB285_279 := n10_
  have NB280_285 := n11_
  have NB285_280 := n12_
  have NB286_285 := n13_
  have NB285_286 := n14_
  have GW286 := n15_
  have GE286 := n16_
  have NB278_286 := n17_
  have NB286_278 := n18_
  have NB279_286 := n19_
  have NB286_279 := n20_
  have NB280_286 := n21_
  have NB286_280 := n22_
  have HB := n23_
  clear n0_ n1_ n2_ n3_ n4_ n5_ n6_ n7_ n8_ n9_ n10_ n11_ n12_ n13_ n14_ n15_ n16_ n17_ n18_ n19_ n20_ n21_ n22_ n23_
  have hHeld : w12.cell? ⟨gb278, 0, none⟩ = some (.int .i64 a0_0) ∧ w12.cell? ⟨gb278, 1, none⟩ = some (.int .i64 a0_1) ∧ w12.cell? ⟨gb279, 0, none⟩ = some (.int .i64 a1_0) ∧ w12.cell? ⟨gb279, 1, none⟩ = some (.int .i64 a1_1) := hS_
  refine norm_ (a' := ?_) ?_ ?_
  rotate_left
  ·simp only [putAll, Act.put, sI_, s0_, s1_]
   rfl
  refine one_ (i := 9) (N := some 16) #[true, true, true, true, true, true, true, true, true, true, true, true, false, false] rfl rfl (one_of HT_.out (by kernel_rfl)) (by decide) (fun K hK => ?_)
  refine goes_ Tryd.func69 (by kernel_rfl) rfl #[.int .i64 a1_0, .int .i64 a0_1] (by rfl) rfl rfl (by (try simp only [List.map_toArray, List.map_cons, List.map_nil]); (rfl)) ?_
  with_reducible refine (spec_l2Cut.calls k a1_0 a0_1 t283 t284 _ A4.out).mono ?_
  rintro e w13 ⟨rfl, hb⟩
  refine ⟨_, rfl, ?_⟩
  have n0_ := A_.mk (blk_below BK278.out hb)
  have n1_ := A_.mk (blk_below BK279.out hb)
  have n2_ := A_.mk (blk_below BK280.out hb)
  have n3_ := A_.mk (blk_below BK285.out hb)
  have n4_ := A_.mk (blk_below BK286.out hb)
  have n5_ := A_.mk (below_step HB.out hb)
  clear BK278
  clear BK279
  clear BK280
  clear BK285
  clear BK286
  clear HB
  have BK278 := n0_
  have BK279 := n1_
  have BK280 := n2_
  have BK285 := n3_
  have BK286 := n4_
  have HB := n5_
  clear n0_ n1_ n2_ n3_ n4_ n5_
  (try clear hb)
  skip
  skip
  skip
  refine hK.out _ _ ⟨(blk_cell BK278.out 0).trans rfl, (blk_cell BK278.out 1).trans rfl, (blk_cell BK279.out 0).trans rfl, (blk_cell BK279.out 1).trans rfl⟩ (fun hHeld => ?_)
  clear hK K
  exact norm_ (by simp only [putAll, Act.put, sI_, s0_, s1_]; try rfl) (hJ4_9_10_11 (gb285, gb286) _ ⟨hHeld, BK278.out, BK279.out, BK280.out, BK285.out, BK286.out, GW285.out, GE285.out, NB278_285.out, NB285_278.out, NB279_285.out, NB285_279.out, NB280_285.out, NB285_280.out, NB286_285.out, NB285_286.out, GW286.out, GE286.out, NB278_286.out, NB286_278.out, NB279_286.out, NB286_279.out, NB280_286.out, NB286_280.out, HB.out⟩)
 ·rintro gb286 w12 ⟨hS_, h0_, h1_, h2_, h3_, h4_, h5_, h6_, h7_, h8_, h9_, h10_, h11_, h12_⟩
  have n0_ : A_ (w12.heap[gb278]? = some (.cells #[.int .i64 a0_0, .int .i64 a0_1] 26 (0, 0))) := ⟨h0_⟩
  have n1_ : A_ (w12.heap[gb279]? = some (.cells #[.int .i64 a1_0, .int .i64 a1_1] 26 (0, 0))) := ⟨h1_⟩
  have n2_ : A_ (w12.heap[gb280]? = some (.cells #[.int .i64 0, .int .i64 0] 26 (0, 0))) := ⟨h2_⟩
  have n3_ : A_ (w12.heap[gb286]? = some (.cells #[.int .i64 0, .int .i64 0] 26 (0, 0))) := ⟨h3_⟩
  have n4_ : A_ (w.heap.size ≤ gb286) := ⟨h4_⟩
  have n5_ : A_ (w.heap.size ≤ gb286) := ⟨h5_⟩
  have n6_ : A_ (gb278 ≠ gb286) := ⟨h6_⟩
  have n7_ : A_ (gb286 ≠ gb278) := ⟨h7_⟩
  have n8_ : A_ (gb279 ≠ gb286) := ⟨h8_⟩
  have n9_ : A_ (gb286 ≠ gb279) := ⟨h9_⟩
  have n10_ : A_ (gb280 ≠ gb286) := ⟨h10_⟩
  have n11_ : A_ (gb286 ≠ gb280) := ⟨h11_⟩
  have n12_ : A_ (Below w.heap.size w w12) := ⟨h12_⟩
  clear BK278
  clear BK279
  clear BK280
  clear HB
  clear h0_ h1_ h2_ h3_ h4_ h5_ h6_ h7_ h8_ h9_ h10_ h11_ h12_
  have BK278 := n0_
  have BK279 := n1_
  have BK280 := n2_
  have BK286 := n3_
  have GW286 := n4_
  have GE286 := n5_
  have NB278_286 := n6_
  have NB286_278 := n7_
  have NB279_286 := n8_
  have NB286_279 := n9_
  have NB280_286 := n10_
  have NB286_280 := n11_
  have HB := n12_
  clear n0_ n1_ n2_ n3_ n4_ n5_ n6_ n7_ n8_ n9_ n10_ n11_ n12_
  have hHeld : w12.cell? ⟨gb278, 0, none⟩ = some (.int .i64 a0_0) ∧ w12.cell? ⟨gb278, 1, none⟩ = some (.int .i64 a0_1) ∧ w12.cell? ⟨gb279, 0, none⟩ = some (.int .i64 a1_0) ∧ w12.cell? ⟨gb279, 1, none⟩ = some (.int .i64 a1_1) := hS_
  refine norm_ (a' := ?_) ?_ ?_
  rotate_left
  ·simp only [putAll, Act.put, sI_, s0_, s1_]
   rfl
  refine one_ (i := 10) (N := some 5) #[true, true, true, true, true, true, true, true, true, true, true, true, false, false] rfl rfl (one_of HT_.out (by kernel_rfl)) (by decide) (fun K hK => ?_)
  refine box_step ?hg (N := 5) ?hd (cs := #[.int .i64 0, .int .i64 0]) (t := 26) ?hr ?_; (case hd => rfl); (case hg => rfl); (case hr => (go_simp; done))
  intro gb285 hg w13 hbox hb
  have n0_ := A_.mk (blk_below BK278.out hb)
  have n1_ := A_.mk (blk_below BK279.out hb)
  have n2_ := A_.mk (blk_below BK280.out hb)
  have n3_ := A_.mk (blk_below BK286.out hb)
  have n4_ := A_.mk (below_step HB.out hb)
  have n5_ := A_.mk (hbox)
  have n6_ := A_.mk ((by rw [hg]; exact (below_size HB.out) : w.heap.size ≤ gb285))
  have n7_ := A_.mk ((by rw [hg]; exact (below_size HB.out) : w.heap.size ≤ gb285))
  have n8_ := A_.mk ((by rw [hg]; exact Nat.ne_of_lt (blk_lt BK278.out) : gb278 ≠ gb285))
  have n9_ := A_.mk ((by rw [hg]; exact Nat.ne_of_gt (blk_lt BK278.out) : gb285 ≠ gb278))
  have n10_ := A_.mk ((by rw [hg]; exact Nat.ne_of_lt (blk_lt BK279.out) : gb279 ≠ gb285))
  have n11_ := A_.mk ((by rw [hg]; exact Nat.ne_of_gt (blk_lt BK279.out) : gb285 ≠ gb279))
  have n12_ := A_.mk ((by rw [hg]; exact Nat.ne_of_lt (blk_lt BK280.out) : gb280 ≠ gb285))
  have n13_ := A_.mk ((by rw [hg]; exact Nat.ne_of_gt (blk_lt BK280.out) : gb285 ≠ gb280))
  have n14_ := A_.mk ((by rw [hg]; exact Nat.ne_of_lt (blk_lt BK286.out) : gb286 ≠ gb285))
  have n15_ := A_.mk ((by rw [hg]; exact Nat.ne_of_gt (blk_lt BK286.out) : gb285 ≠ gb286))
  clear BK278
  clear BK279
  clear BK280
  clear BK286
  clear HB
  have BK278 := n0_
  have BK279 := n1_
  have BK280 := n2_
  have BK286 := n3_
  have HB := n4_
  have BK285 := n5_
  have GW285 := n6_
  have GE285 := n7_
  have NB278_285 := n8_
  have NB285_278 := n9_
  have NB279_285 := n10_
  have NB285_279 := n11_
  have NB280_285 := n12_
  have NB285_280 := n13_
  have NB286_285 := n14_
  have NB285_286 := n15_
  clear n0_ n1_ n2_ n3_ n4_ n5_ n6_ n7_ n8_ n9_ n10_ n11_ n12_ n13_ n14_ n15_
  clear hb hbox hg
  refine hK.out _ _ ⟨(blk_cell BK278.out 0).trans rfl, (blk_cell BK278.out 1).trans rfl, (blk_cell BK279.out 0).trans rfl, (blk_cell BK279.out 1).trans rfl⟩ (fun hHeld => ?_)
  clear hK K
  exact norm_ (by simp only [putAll, Act.put, sI_, s0_, s1_]; try rfl) (hJ4_9_10_11 (gb285, gb286) _ ⟨hHeld, BK278.out, BK279.out, BK280.out, BK285.out, BK286.out, GW285.out, GE285.out, NB278_285.out, NB285_278.out, NB279_285.out, NB285_279.out, NB280_285.out, NB285_280.out, NB286_285.out, NB285_286.out, GW286.out, GE286.out, NB278_286.out, NB286_278.out, NB279_286.out, NB286_279.out, NB280_286.out, NB286_280.out, HB.out⟩)
 ·rintro gb285 w12 ⟨hS_, h0_, h1_, h2_, h3_, h4_, h5_, h6_, h7_, h8_, h9_, h10_, h11_, h12_⟩
  have n0_ : A_ (w12.heap[gb278]? = some (.cells #[.int .i64 a0_0, .int .i64 a0_1] 26 (0, 0))) := ⟨h0_⟩
  have n1_ : A_ (w12.heap[gb279]? = some (.cells #[.int .i64 a1_0, .int .i64 a1_1] 26 (0, 0))) := ⟨h1_⟩
  have n2_ : A_ (w12.heap[gb280]? = some (.cells #[.int .i64 0, .int .i64 0] 26 (0, 0))) := ⟨h2_⟩
  have n3_ : A_ (w12.heap[gb285]? = some (.cells #[.int .i64 0, .int .i64 0] 26 (0, 0))) := ⟨h3_⟩
  have n4_ : A_ (w.heap.size ≤ gb285) := ⟨h4_⟩
  have n5_ : A_ (w.heap.size ≤ gb285) := ⟨h5_⟩
  have n6_ : A_ (gb278 ≠ gb285) := ⟨h6_⟩
  have n7_ : A_ (gb285 ≠ gb278) := ⟨h7_⟩
  have n8_ : A_ (gb279 ≠ gb285) := ⟨h8_⟩
  have n9_ : A_ (gb285 ≠ gb279) := ⟨h9_⟩
  have n10_ : A_ (gb280 ≠ gb285) := ⟨h10_⟩
  have n11_ : A_ (gb285 ≠ gb280) := ⟨h11_⟩
  have n12_ : A_ (Below w.heap.size w w12) := ⟨h12_⟩
  clear BK278
  clear BK279
  clear BK280
  clear HB
  clear h0_ h1_ h2_ h3_ h4_ h5_ h6_ h7_ h8_ h9_ h10_ h11_ h12_
  have BK278 := n0_
  have BK279 := n1_
  have BK280 := n2_
  have BK285 := n3_
  have GW285 := n4_
  have GE285 := n5_
  have NB278_285 := n6_
  have NB285_278 := n7_
  have NB279_285 := n8_
  have NB285_279 := n9_
  have NB280_285 := n10_
  have NB285_280 := n11_
  have HB := n12_
  clear n0_ n1_ n2_ n3_ n4_ n5_ n6_ n7_ n8_ n9_ n10_ n11_ n12_
  have hHeld : w12.cell? ⟨gb278, 0, none⟩ = some (.int .i64 a0_0) ∧ w12.cell? ⟨gb278, 1, none⟩ = some (.int .i64 a0_1) ∧ w12.cell? ⟨gb279, 0, none⟩ = some (.int .i64 a1_0) ∧ w12.cell? ⟨gb279, 1, none⟩ = some (.int .i64 a1_1) := hS_
  refine norm_ (a' := ?_) ?_ ?_
  rotate_left
  ·simp only [putAll, Act.put, sI_, s0_, s1_]
   rfl
  refine one_ (i := 11) (N := some 6) #[true, true, true, true, true, true, true, true, true, true, true, true, false, false] rfl rfl (one_of HT_.out (by kernel_rfl)) (by decide) (fun K hK => ?_)
  refine box_step ?hg (N := 6) ?hd (cs := #[.int .i64 0, .int .i64 0]) (t := 26) ?hr ?_; (case hd => rfl); (case hg => rfl); (case hr => (go_simp; done))
  intro gb286 hg w13 hbox hb
  have n0_ := A_.mk (blk_below BK278.out hb)
  have n1_ := A_.mk (blk_below BK279.out hb)
  have n2_ := A_.mk (blk_below BK280.out hb)
  have n3_ := A_.mk (blk_below BK285.out hb)
  have n4_ := A_.mk (below_step HB.out hb)
  have n5_ := A_.mk (hbox)
  have n6_ := A_.mk ((by rw [hg]; exact (below_size HB.out) : w.heap.size ≤ gb286))
  have n7_ := A_.mk ((by rw [hg]; exact (below_size HB.out) : w.heap.size ≤ gb286))
  have n8_ := A_.mk ((by rw [hg]; exact Nat.ne_of_lt (blk_lt BK278.out) : gb278 ≠ gb286))
  have n9_ := A_.mk ((by rw [hg]; exact Nat.ne_of_gt (blk_lt BK278.out) : gb286 ≠ gb278))
  have n10_ := A_.mk ((by rw [hg]; exact Nat.ne_of_lt (blk_lt BK279.out) : gb279 ≠ gb286))
  have n11_ := A_.mk ((by rw [hg]; exact Nat.ne_of_gt (blk_lt BK279.out) : gb286 ≠ gb279))
  have n12_ := A_.mk ((by rw [hg]; exact Nat.ne_of_lt (blk_lt BK280.out) : gb280 ≠ gb286))
  have n13_ := A_.mk ((by rw [hg]; exact Nat.ne_of_gt (blk_lt BK280.out) : gb286 ≠ gb280))
  have n14_ := A_.mk ((by rw [hg]; exact Nat.ne_of_lt (blk_lt BK285.out) : gb285 ≠ gb286))
  have n15_ := A_.mk ((by rw [hg]; exact Nat.ne_of_gt (blk_lt BK285.out) : gb286 ≠ gb285))
  clear BK278
  clear BK279
  clear BK280
  clear BK285
  clear HB
  have BK278 := n0_
  have BK279 := n1_
  have BK280 := n2_
  have BK285 := n3_
  have HB := n4_
  have BK286 := n5_
  have GW286 := n6_
  have GE286 := n7_
  have NB278_286 := n8_
  have NB286_278 := n9_
  have NB279_286 := n10_
  have NB286_279 := n11_
  have NB280_286 := n12_
  have NB286_280 := n13_
  have NB285_286 := n14_
  have NB286_285 := n15_
  clear n0_ n1_ n2_ n3_ n4_ n5_ n6_ n7_ n8_ n9_ n10_ n11_ n12_ n13_ n14_ n15_
  clear hb hbox hg
  refine hK.out _ _ ⟨(blk_cell BK278.out 0).trans rfl, (blk_cell BK278.out 1).trans rfl, (blk_cell BK279.out 0).trans rfl, (blk_cell BK279.out 1).trans rfl⟩ (fun hHeld => ?_)
  clear hK K
  exact norm_ (by simp only [putAll, Act.put, sI_, s0_, s1_]; try rfl) (hJ4_9_10_11 (gb285, gb286) _ ⟨hHeld, BK278.out, BK279.out, BK280.out, BK285.out, BK286.out, GW285.out, GE285.out, NB278_285.out, NB285_278.out, NB279_285.out, NB285_279.out, NB280_285.out, NB285_280.out, NB286_285.out, NB285_286.out, GW286.out, GE286.out, NB278_286.out, NB286_278.out, NB279_286.out, NB286_279.out, NB280_286.out, NB286_280.out, HB.out⟩)
 rintro ⟨gb285, gb286⟩ w13 ⟨hS_, h0_, h1_, h2_, h3_, h4_, h5_, h6_, h7_, h8_, h9_, h10_, h11_, h12_, h13_, h14_, h15_, h16_, h17_, h18_, h19_, h20_, h21_, h22_, h23_⟩
 have n0_ : A_ (w13.heap[gb278]? = some (.cells #[.int .i64 a0_0, .int .i64 a0_1] 26 (0, 0))) := ⟨h0_⟩
 have n1_ : A_ (w13.heap[gb279]? = some (.cells #[.int .i64 a1_0, .int .i64 a1_1] 26 (0, 0))) := ⟨h1_⟩
 have n2_ : A_ (w13.heap[gb280]? = some (.cells #[.int .i64 0, .int .i64 0] 26 (0, 0))) := ⟨h2_⟩
 have n3_ : A_ (w13.heap[gb285]? = some (.cells #[.int .i64 0, .int .i64 0] 26 (0, 0))) := ⟨h3_⟩
 have n4_ : A_ (w13.heap[gb286]? = some (.cells #[.int .i64 0, .int .i64 0] 26 (0, 0))) := ⟨h4_⟩
 have n5_ : A_ (w.heap.size ≤ gb285) := ⟨h5_⟩
 have n6_ : A_ (w.heap.size ≤ gb285) := ⟨h6_⟩
 have n7_ : A_ (gb278 ≠ gb285) := ⟨h7_⟩
 have n8_ : A_ (gb285 ≠ gb278) := ⟨h8_⟩
 have n9_ : A_ (gb279 ≠ gb285) := ⟨h9_⟩
 have n10_ : A_ (gb285 ≠ gb279) := ⟨h10_⟩
 have n11_ : A_ (gb280 ≠ gb285) := ⟨h11_⟩
 have n12_ : A_ (gb285 ≠ gb280) := ⟨h12_⟩
 have n13_ : A_ (gb286 ≠ gb285) := ⟨h13_⟩
 have n14_ : A_ (gb285 ≠ gb286) := ⟨h14_⟩
 have n15_ : A_ (w.heap.size ≤ gb286) := ⟨h15_⟩
 have n16_ : A_ (w.heap.size ≤ gb286) := ⟨h16_⟩
 have n17_ : A_ (gb278 ≠ gb286) := ⟨h17_⟩
 have n18_ : A_ (gb286 ≠ gb278) := ⟨h18_⟩
 have n19_ : A_ (gb279 ≠ gb286) := ⟨h19_⟩
 have n20_ : A_ (gb286 ≠ gb279) := ⟨h20_⟩
 have n21_ : A_ (gb280 ≠ gb286) := ⟨h21_⟩
 have n22_ : A_ (gb286 ≠ gb280) := ⟨h22_⟩
 have n23_ : A_ (Below w.heap.size w w13) := ⟨h23_⟩
 clear BK278
 clear BK279
 clear BK280
 clear HB
 clear h0_ h1_ h2_ h3_ h4_ h5_ h6_ h7_ h8_ h9_ h10_ h11_ h12_ h13_ h14_ h15_ h16_ h17_ h18_ h19_ h20_ h21_ h22_ h23_
 have BK278 := n0_
 have BK279 := n1_
 have BK280 := n2_
 have BK285 := n3_
 have BK286 := n4_
 have GW285 := n5_
 have GE285 := n6_
 have NB278_285 := n7_
 have NB285_278 := n8_
 have NB279_285 := n9_
 have NB285_279 := n10_
 have NB280_285 := n11_
 have NB285_280 := n12_
 have NB286_285 := n13_
 have NB285_286 := n14_
 have GW286 := n15_
 have GE286 := n16_
 have NB278_286 := n17_
 have NB286_278 := n18_
 have NB279_286 := n19_
 have NB286_279 := n20_
 have NB280_286 := n21_
 have NB286_280 := n22_
 have HB := n23_
 clear n0_ n1_ n2_ n3_ n4_ n5_ n6_ n7_ n8_ n9_ n10_ n11_ n12_ n13_ n14_ n15_ n16_ n17_ n18_ n19_ n20_ n21_ n22_ n23_
 have hHeld : w13.cell? ⟨gb278, 0, none⟩ = some (.int .i64 a0_0) ∧ w13.cell? ⟨gb278, 1, none⟩ = some (.int .i64 a0_1) ∧ w13.cell? ⟨gb279, 0, none⟩ = some (.int .i64 a1_0) ∧ w13.cell? ⟨gb279, 1, none⟩ = some (.int .i64 a1_1) := hS_
 refine norm_ (a' := ?_) ?_ ?_
 rotate_left
 ·simp only [putAll, Act.put, sI_, s0_, s1_]
  rfl
 refine one_ (i := 12) (N := none) #[true, true, true, true, true, true, true, true, true, true, true, true, true, false] rfl rfl (one_of HT_.out (by kernel_rfl)) (by decide) (fun K hK => ?_)
 have hs14 : w13.cell? ⟨gb285, 0, none⟩ = some (.int .i64 0) := (blk_cell BK285.out 0).trans rfl
 have hfs14 := blk_frozen BK285.out 0
 have hns14_0 := NB278_285.out
 have hns14_1 := NB279_285.out
 have hns14_2 := NB280_285.out
 have hns14_4 := NB286_285.out
 have hms14_0 := NB285_278.out
 have hms14_1 := NB285_279.out
 have hms14_2 := NB285_280.out
 have hms14_4 := NB285_286.out
 have hs15 : w13.cell? ⟨gb285, 1, none⟩ = some (.int .i64 0) := (blk_cell BK285.out 1).trans rfl
 have hfs15 := blk_frozen BK285.out 1
 have hns15_0 := NB278_285.out
 have hns15_1 := NB279_285.out
 have hns15_2 := NB280_285.out
 have hns15_4 := NB286_285.out
 have hms15_0 := NB285_278.out
 have hms15_1 := NB285_279.out
 have hms15_2 := NB285_280.out
 have hms15_4 := NB285_286.out
 refine skip_ (w1 := ?_) (by rfl) rfl ?_ ?_
 rotate_left
 ·go_simp
  rfl
 refine hK.out _ _ ⟨((cell_far (p := ⟨gb285, _, none⟩) NB278_285.out _).trans (((cell_far (p := ⟨gb285, _, none⟩) NB278_285.out _).trans (hHeld.1)))), ((cell_far (p := ⟨gb285, _, none⟩) NB278_285.out _).trans (((cell_far (p := ⟨gb285, _, none⟩) NB278_285.out _).trans (hHeld.2.1)))), ((cell_far (p := ⟨gb285, _, none⟩) NB279_285.out _).trans (((cell_far (p := ⟨gb285, _, none⟩) NB279_285.out _).trans (hHeld.2.2.1)))), ((cell_far (p := ⟨gb285, _, none⟩) NB279_285.out _).trans (((cell_far (p := ⟨gb285, _, none⟩) NB279_285.out _).trans (hHeld.2.2.2))))⟩ (fun hHeld => ?_)
 clear hK K
 refine one_ (i := 13) (N := none) #[true, true, true, true, true, true, true, true, true, true, true, true, true, true] rfl rfl (one_of HT_.out (by kernel_rfl)) (by decide) (fun K hK => ?_)
 have hs16 : w13.cell? ⟨gb286, 0, none⟩ = some (.int .i64 0) := (blk_cell BK286.out 0).trans rfl
 have hfs16 := blk_frozen BK286.out 0
 have hns16_0 := NB278_286.out
 have hns16_1 := NB279_286.out
 have hns16_2 := NB280_286.out
 have hns16_3 := NB285_286.out
 have hms16_0 := NB286_278.out
 have hms16_1 := NB286_279.out
 have hms16_2 := NB286_280.out
 have hms16_3 := NB286_285.out
 have hs17 : w13.cell? ⟨gb286, 1, none⟩ = some (.int .i64 0) := (blk_cell BK286.out 1).trans rfl
 have hfs17 := blk_frozen BK286.out 1
 have hns17_0 := NB278_286.out
 have hns17_1 := NB279_286.out
 have hns17_2 := NB280_286.out
 have hns17_3 := NB285_286.out
 have hms17_0 := NB286_278.out
 have hms17_1 := NB286_279.out
 have hms17_2 := NB286_280.out
 have hms17_3 := NB286_285.out
 refine skip_ (w1 := ?_) (by rfl) rfl ?_ ?_
 rotate_left
 ·go_simp
  rfl
 refine hK.out _ _ ⟨((cell_far (p := ⟨gb286, _, none⟩) NB278_286.out _).trans (((cell_far (p := ⟨gb286, _, none⟩) NB278_286.out _).trans (hHeld.1)))), ((cell_far (p := ⟨gb286, _, none⟩) NB278_286.out _).trans (((cell_far (p := ⟨gb286, _, none⟩) NB278_286.out _).trans (hHeld.2.1)))), ((cell_far (p := ⟨gb286, _, none⟩) NB279_286.out _).trans (((cell_far (p := ⟨gb286, _, none⟩) NB279_286.out _).trans (hHeld.2.2.1)))), ((cell_far (p := ⟨gb286, _, none⟩) NB279_286.out _).trans (((cell_far (p := ⟨gb286, _, none⟩) NB279_286.out _).trans (hHeld.2.2.2))))⟩ (fun hHeld => ?_)
 clear hK K
 refine done_ (done_of HT_.out (by kernel_rfl)) ?_
 have hnb18 := NB285_278.out
 have hnc18 := NB278_285.out
 have hnb19 := NB285_279.out
 have hnc19 := NB279_285.out
 have hnb20 := NB285_280.out
 have hnc20 := NB280_285.out
 have hnb21 := NB285_286.out
 have hnc21 := NB286_285.out
 have hcz22_0 : w13.cell? ⟨gb285, 0, none⟩ = some (.int .i64 0) := (blk_cell BK285.out 0).trans rfl
 have hcz22_1 : w13.cell? ⟨gb285, 1, none⟩ = some (.int .i64 0) := (blk_cell BK285.out 1).trans rfl
 have hfz22_0 := blk_frozen BK285.out 0
 have hfz22_1 := blk_frozen BK285.out 1
 have hnb23 := NB286_278.out
 have hnc23 := NB278_286.out
 have hnb24 := NB286_279.out
 have hnc24 := NB279_286.out
 have hnb25 := NB286_280.out
 have hnc25 := NB280_286.out
 have hcz26_0 : w13.cell? ⟨gb286, 0, none⟩ = some (.int .i64 0) := (blk_cell BK286.out 0).trans rfl
 have hcz26_1 : w13.cell? ⟨gb286, 1, none⟩ = some (.int .i64 0) := (blk_cell BK286.out 1).trans rfl
 have hfz26_0 := blk_frozen BK286.out 0
 have hfz26_1 := blk_frozen BK286.out 1
 have hnb27 := NB280_278.out
 have hnc27 := NB278_280.out
 have hnb28 := NB280_279.out
 have hnc28 := NB279_280.out
 have hcz29_0 : w13.cell? ⟨gb280, 0, none⟩ = some (.int .i64 0) := (blk_cell BK280.out 0).trans rfl
 have hcz29_1 : w13.cell? ⟨gb280, 1, none⟩ = some (.int .i64 0) := (blk_cell BK280.out 1).trans rfl
 have hfz29_0 := blk_frozen BK280.out 0
 have hfz29_1 := blk_frozen BK280.out 1
 try go_wp2
 refine bodyPost_ret (results_cell_row rfl _ _ gb280 26 #[.int .i64 (wrap64 (t281 * t283)), .int .i64 (wrap64 (t282 * t284))] (0, 0) _ rfl (by (with_reducible repeat (refine blk_drewN ?_ _)); refine blk_put (cs := #[.int .i64 (wrap64 (t281 * t283)), .int .i64 0]) ?_ 1 _ rfl; (with_reducible repeat (refine blk_drewN ?_ _)); refine blk_put (cs := #[.int .i64 0, .int .i64 0]) ?_ 0 _ rfl; (with_reducible repeat (refine blk_drewN ?_ _)); refine blk_far ?_ NB280_286.out _; (with_reducible repeat (refine blk_drewN ?_ _)); refine blk_far ?_ NB280_286.out _; (with_reducible repeat (refine blk_drewN ?_ _)); refine blk_far ?_ NB280_285.out _; (with_reducible repeat (refine blk_drewN ?_ _)); refine blk_far ?_ NB280_285.out _; (with_reducible repeat (refine blk_drewN ?_ _)); exact BK280.out) Tryd.underlying26 rfl (by kernel_rfl)) rfl ?_
 exact ⟨by rfl, by repeat ((with_reducible first | exact HB.out | refine below_set ?_ GE280.out | refine below_set ?_ GE285.out | refine below_set ?_ GE286.out))⟩

end Go.Proofs.YtihifglmnjocfaaDoor.PFnExactIsFinal
