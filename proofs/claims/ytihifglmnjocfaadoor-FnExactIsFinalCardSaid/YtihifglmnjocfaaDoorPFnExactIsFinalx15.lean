/- Written by a program of this session (wip/xprint) out of Lean's own print of the given functions: each function as a plain Lean function, and the proof that the call answers it. -/
import Derived.Test.YtihifglmnjocfaaDoorPFnExactIsFinalx0
import Derived.Test.YtihifglmnjocfaaDoorPFnExactIsFinalx2
import Derived.Test.YtihifglmnjocfaaDoorPFnExactIsFinalx11
import Derived.Test.YtihifglmnjocfaaDoorPFnExactIsFinalx14
namespace Go.Proofs.YtihifglmnjocfaaDoor.PFnExactIsFinal
open Go.RowKit Go.Proofs.YtihifglmnjocfaaDoorW.PrintWords Go.Proofs.YtihifglmnjocfaaDoorW.PrintLast Go.Proofs.YtihifglmnjocfaaDoorW.PrintMore
attribute [local go_sem] max2_int min2_int max_two min_two max_three min_three max_four min_four   -- for this text's walks alone
set_option linter.unusedVariables false
set_option linter.unusedSimpArgs false

/-! ### laws_FnExactIsFinal: function 5 -/
def laws_FnExactIsFinal.j0 : Nat → Bool → Int → Bool → List Int → Int → Bool → List Int → Int → Bool → List Int → Int → Bool → List Int → Option (Bool)
 | 0, _, _, _, _, _, _, _, _, _, _, _, _, _ => none
 | k + 1, x47, x359000, x359001, x359002, x360000, x360001, x360002, x380000, x380001, x380002, x386000, x386001, x386002 => if x47 = true then (some false) else ((laws_toRow.f k x359000 x359001 x359002).bind fun bt388 => ((laws_eqRow.f k x380000 x380001 x380002 bt388.1 bt388.2.1 bt388.2.2).bind fun t393 => (if t393 = true then ((laws_toRow.f k x360000 x360001 x360002).bind fun bt394 => ((laws_eqRow.f k x386000 x386001 x386002 bt394.1 bt394.2.1 bt394.2.2).bind fun t399 => (if t399 = true then (some true) else (some false)))) else (some false))))
def laws_FnExactIsFinal.f (k : Nat) (a0_0 : Int) (a0_1 : Bool) (l0_2 : List Int) (a1_0 : Int) (a1_1 : Bool) (l1_2 : List Int) : Option (Bool) := (laws_szRow.f a0_0 a0_1 l0_2 1048576).bind fun t360 => (if t360 < 0 then (some true) else ((laws_szRow.f a1_0 a1_1 l1_2 t360).bind fun t361 => (if t361 < 0 then (some true) else ((laws_toRow.f k a0_0 a0_1 l0_2).bind fun bt362 => ((laws_toRow.f k a1_0 a1_1 l1_2).bind fun bt367 => ((spec_IsFinal.f k bt362.1 bt362.2.1 bt362.2.2 bt367.1 bt367.2.1 bt367.2.2).bind fun bt372 => ((laws_toRow.f k a0_0 a0_1 l0_2).bind fun bt374 => ((laws_toRow.f k a1_0 a1_1 l1_2).bind fun bt380 => ((impl_IsFinal.f k bt374.1 bt374.2.1 bt374.2.2 bt380.1 bt380.2.1 bt380.2.2).bind fun bt386 => (if (bt386.1 != bt372.1) = true then (laws_FnExactIsFinal.j0 k true a0_0 a0_1 l0_2 a1_0 a1_1 l1_2 bt374.1 bt374.2.1 bt374.2.2 bt380.1 bt380.2.1 bt380.2.2) else (laws_FnExactIsFinal.j0 k (bt386.2 != bt372.2) a0_0 a0_1 l0_2 a1_0 a1_1 l1_2 bt374.1 bt374.2.1 bt374.2.2 bt380.1 bt380.2.1 bt380.2.2)))))))))))
theorem laws_FnExactIsFinal.mono_l : ∀ k, (∀ y0 y1 y2 y3 y4 y5 y6 y7 y8 y9 y10 y11 y12, LeO (laws_FnExactIsFinal.j0 k y0 y1 y2 y3 y4 y5 y6 y7 y8 y9 y10 y11 y12) (laws_FnExactIsFinal.j0 (k + 1) y0 y1 y2 y3 y4 y5 y6 y7 y8 y9 y10 y11 y12))
 | 0 => fun _ _ _ _ _ _ _ _ _ _ _ _ _ r h => by simp [laws_FnExactIsFinal.j0] at h
 | k + 1 => by
  have ih0 := laws_FnExactIsFinal.mono_l k
  ·intro y0 y1 y2 y3 y4 y5 y6 y7 y8 y9 y10 y11 y12
   unfold laws_FnExactIsFinal.j0
   repeat' first
   | (with_reducible exact ih0 _ _ _ _ _ _ _ _ _ _ _ _ _)
   | (with_reducible exact impl_IsFinal.mono _ _ _ _ _ _ _)
   | (with_reducible exact laws_eqRow.mono _ _ _ _ _ _ _)
   | (with_reducible exact laws_toRow.mono _ _ _ _)
   | (with_reducible exact spec_IsFinal.mono _ _ _ _ _ _ _)
   | (with_reducible exact LeO.refl _)
   | (with_reducible exact LeO.none _)
   | (with_reducible refine LeO.ite ?_ ?_)
   | (with_reducible refine LeO.bind ?_ (fun _ => ?_))
   | exact ih0 _ _ _ _ _ _ _ _ _ _ _ _ _
   | exact impl_IsFinal.mono _ _ _ _ _ _ _
   | exact laws_eqRow.mono _ _ _ _ _ _ _
   | exact laws_toRow.mono _ _ _ _
   | exact spec_IsFinal.mono _ _ _ _ _ _ _
   | exact LeO.none _
   | refine LeO.ite ?_ ?_
   | refine LeO.bind ?_ (fun _ => ?_)
theorem laws_FnExactIsFinal.mono : ∀ a0 a1 a2 a3 a4 a5 k, LeO (laws_FnExactIsFinal.f k a0 a1 a2 a3 a4 a5) (laws_FnExactIsFinal.f (k + 1) a0 a1 a2 a3 a4 a5) := by
 intro a0 a1 a2 a3 a4 a5 k
 have ih0 := laws_FnExactIsFinal.mono_l k
 unfold laws_FnExactIsFinal.f
 repeat' first
   | (with_reducible exact ih0 _ _ _ _ _ _ _ _ _ _ _ _ _)
   | (with_reducible exact impl_IsFinal.mono _ _ _ _ _ _ _)
   | (with_reducible exact laws_eqRow.mono _ _ _ _ _ _ _)
   | (with_reducible exact laws_toRow.mono _ _ _ _)
   | (with_reducible exact spec_IsFinal.mono _ _ _ _ _ _ _)
   | (with_reducible exact LeO.refl _)
   | (with_reducible exact LeO.none _)
   | (with_reducible refine LeO.ite ?_ ?_)
   | (with_reducible refine LeO.bind ?_ (fun _ => ?_))
   | exact ih0 _ _ _ _ _ _ _ _ _ _ _ _ _
   | exact impl_IsFinal.mono _ _ _ _ _ _ _
   | exact laws_eqRow.mono _ _ _ _ _ _ _
   | exact laws_toRow.mono _ _ _ _
   | exact spec_IsFinal.mono _ _ _ _ _ _ _
   | exact LeO.none _
   | refine LeO.ite ?_ ?_
   | refine LeO.bind ?_ (fun _ => ?_)
theorem laws_FnExactIsFinal.j0_no : ∀ k y1 y2 y3 y4 y5 y6 y7 y8 y9 y10 y11 y12, ¬ laws_FnExactIsFinal.j0 k true y1 y2 y3 y4 y5 y6 y7 y8 y9 y10 y11 y12 = some true := by
 intro k
 cases k <;> intros <;> simp [laws_FnExactIsFinal.j0]
def laws_FnExactIsFinal.T8 : Bool × List (List Nat × List Nat) := (true, [([], []), ([0], [0]), ([], []), ([2, 1], [2]), ([1, 3, 3], [1, 3]), ([4], [4]), ([5], [5]), ([5], [5]), ([6, 4, 0, 1, 2, 3, 4, 5, 6], [6]), ([7, 8, 0, 1, 2, 3, 4, 5, 6, 7, 8], [7])])
def laws_FnExactIsFinal.B8 : List Nat := [0, 1, 0, 7, 15, 31, 63, 63, 127, 511]
theorem laws_FnExactIsFinal.tab8 : rtab .any (opsOf Tryd.f5 8) = laws_FnExactIsFinal.T8 := by kernel_rfl
theorem laws_FnExactIsFinal.bits8 : waitsOk laws_FnExactIsFinal.T8.2 laws_FnExactIsFinal.B8 = true := by kernel_rfl
set_option maxHeartbeats 8000000 in
set_option maxRecDepth 100000 in
theorem laws_FnExactIsFinal.calls (k : Nat) (a0_0 : Int) (a0_1 : Bool) (A0_2 : Option Addr) (c0_2 : Nat) (l0_2 : List Int) (a1_0 : Int) (a1_1 : Bool) (A1_2 : Option Addr) (c1_2 : Nat) (l1_2 : List Int) (w : World) (hr0_2 : Kd.C (Kd.int .i64) w A0_2 l0_2.length l0_2) (hc0_2 : l0_2.length ≤ c0_2) (hr1_2 : Kd.C (Kd.int .i64) w A1_2 l1_2.length l1_2) (hc1_2 : l1_2.length ≤ c1_2) (hT : XTab w) (h : laws_FnExactIsFinal.f k a0_0 a0_1 l0_2 a1_0 a1_1 l1_2 = some true) :
  Calls Tryd.prog 5 #[.agg #[.int .i64 a0_0, .bool a0_1, .slice A0_2 l0_2.length c0_2], .agg #[.int .i64 a1_0, .bool a1_1, .slice A1_2 l1_2.length c1_2]] w fun e w' => e = .returned (.bool true) ∧ Below w.heap.size w w' := by
 have hu24 := Tryd.underlying24
 have hu29 := Tryd.underlying29
 have HR0_2 := A_.mk hr0_2
 have HC0_2 := A_.mk hc0_2
 clear hr0_2 hc0_2
 have HR1_2 := A_.mk hr1_2
 have HC1_2 := A_.mk hc1_2
 clear hr1_2 hc1_2
 have HB := A_.mk (Below.refl w.heap.size w)
 have HT := A_.mk hT
 clear hT
 have H : ((laws_szRow.f a0_0 a0_1 l0_2 1048576).bind fun t360 => (if t360 < 0 then (some true) else ((laws_szRow.f a1_0 a1_1 l1_2 t360).bind fun t361 => (if t361 < 0 then (some true) else ((laws_toRow.f k a0_0 a0_1 l0_2).bind fun bt362 => ((laws_toRow.f k a1_0 a1_1 l1_2).bind fun bt367 => ((spec_IsFinal.f k bt362.1 bt362.2.1 bt362.2.2 bt367.1 bt367.2.1 bt367.2.2).bind fun bt372 => ((laws_toRow.f k a0_0 a0_1 l0_2).bind fun bt374 => ((laws_toRow.f k a1_0 a1_1 l1_2).bind fun bt380 => ((impl_IsFinal.f k bt374.1 bt374.2.1 bt374.2.2 bt380.1 bt380.2.1 bt380.2.2).bind fun bt386 => (if (bt386.1 != bt372.1) = true then (laws_FnExactIsFinal.j0 k true a0_0 a0_1 l0_2 a1_0 a1_1 l1_2 bt374.1 bt374.2.1 bt374.2.2 bt380.1 bt380.2.1 bt380.2.2) else (laws_FnExactIsFinal.j0 k (bt386.2 != bt372.2) a0_0 a0_1 l0_2 a1_0 a1_1 l1_2 bt374.1 bt374.2.1 bt374.2.2 bt380.1 bt380.2.1 bt380.2.2)))))))))))) = some true := h
 clear h
 replace H := Option.bind_eq_some_iff.mp H
 obtain ⟨t360, A30, H⟩ := H
 replace H : (if t360 < 0 then (some true) else ((laws_szRow.f a1_0 a1_1 l1_2 t360).bind fun t361 => (if t361 < 0 then (some true) else ((laws_toRow.f k a0_0 a0_1 l0_2).bind fun bt362 => ((laws_toRow.f k a1_0 a1_1 l1_2).bind fun bt367 => ((spec_IsFinal.f k bt362.1 bt362.2.1 bt362.2.2 bt367.1 bt367.2.1 bt367.2.2).bind fun bt372 => ((laws_toRow.f k a0_0 a0_1 l0_2).bind fun bt374 => ((laws_toRow.f k a1_0 a1_1 l1_2).bind fun bt380 => ((impl_IsFinal.f k bt374.1 bt374.2.1 bt374.2.2 bt380.1 bt380.2.1 bt380.2.2).bind fun bt386 => (if (bt386.1 != bt372.1) = true then (laws_FnExactIsFinal.j0 k true a0_0 a0_1 l0_2 a1_0 a1_1 l1_2 bt374.1 bt374.2.1 bt374.2.2 bt380.1 bt380.2.1 bt380.2.2) else (laws_FnExactIsFinal.j0 k (bt386.2 != bt372.2) a0_0 a0_1 l0_2 a1_0 a1_1 l1_2 bt374.1 bt374.2.1 bt374.2.2 bt380.1 bt380.2.1 bt380.2.2))))))))))) = some true := H
 have A3 := A_.mk A30
 clear A30
 by_cases c4 : t360 < 0
 ·rw [if_pos c4] at H
  have c4b0 : decide (t360 < 0) = true := decide_eq_true c4
  clear c4
  clear H
  go_enter Tryd.func5, Tryd.ntmps5
  go_wp2_with (first | ((with_reducible refine gate_dst (N := 2) rfl ?_); refine box_event ?hg (N := 2) ?hd (cs := #[.int .i64 a0_0, .bool a0_1, .slice A0_2 l0_2.length c0_2]) (t := 24) ?hr ?_; (case hd => rfl); (case hg => rfl); (case hr => (go_simp; done)); intro gb358 hg w5 hbox hb; have n0_ := A_.mk (below_step HB.out hb); have n1_ := A_.mk (hbox); have n2_ := A_.mk ((by rw [hg]; exact (below_size HB.out) : w.heap.size ≤ gb358)); have n3_ := A_.mk ((by rw [hg]; exact (below_size HB.out) : w.heap.size ≤ gb358)); clear HB; have HB := n0_; have BK358 := n1_; have GW358 := n2_; have GE358 := n3_; clear n0_ n1_ n2_ n3_; clear hb hbox hg) | ((with_reducible refine gate_dst (N := 3) rfl ?_); refine box_event ?hg (N := 3) ?hd (cs := #[.int .i64 a1_0, .bool a1_1, .slice A1_2 l1_2.length c1_2]) (t := 24) ?hr ?_; (case hd => rfl); (case hg => rfl); (case hr => (go_simp; done)); intro gb359 hg w6 hbox hb; have n0_ := A_.mk (blk_below BK358.out hb); have n1_ := A_.mk (below_step HB.out hb); have n2_ := A_.mk (hbox); have n3_ := A_.mk ((by rw [hg]; exact (below_size HB.out) : w.heap.size ≤ gb359)); have n4_ := A_.mk ((by rw [hg]; exact (below_size HB.out) : w.heap.size ≤ gb359)); have n5_ := A_.mk ((by rw [hg]; exact Nat.ne_of_lt (blk_lt BK358.out) : gb358 ≠ gb359)); have n6_ := A_.mk ((by rw [hg]; exact Nat.ne_of_gt (blk_lt BK358.out) : gb359 ≠ gb358)); clear BK358; clear HB; have BK358 := n0_; have HB := n1_; have BK359 := n2_; have GW359 := n3_; have GE359 := n4_; have NB358_359 := n5_; have NB359_358 := n6_; clear n0_ n1_ n2_ n3_ n4_ n5_ n6_; clear hb hbox hg; have hnb7 := NB358_359.out; have hnc7 := NB359_358.out; have hcz8_0 : w6.cell? ⟨gb358, 0, none⟩ = some (.int .i64 a0_0) := (blk_cell BK358.out 0).trans rfl; have hcz8_1 : w6.cell? ⟨gb358, 1, none⟩ = some (.bool a0_1) := (blk_cell BK358.out 1).trans rfl; have hcz8_2 : w6.cell? ⟨gb358, 2, none⟩ = some (.slice A0_2 l0_2.length c0_2) := (blk_cell BK358.out 2).trans rfl; have hfz8_0 := blk_frozen BK358.out 0; have hfz8_1 := blk_frozen BK358.out 1; have hfz8_2 := blk_frozen BK358.out 2) | ((with_reducible refine gate_callee (f := 7) rfl ?_); refine goesL_ (some 14) rfl rfl Tryd.func7 (by kernel_rfl) rfl #[.agg #[.int .i64 a0_0, .bool a0_1, .slice A0_2 l0_2.length c0_2], .int .i64 1048576] rfl (by (try simp only [List.map_toArray, List.map_cons, List.map_nil]); (rfl)) ?_; (with_reducible refine (laws_szRow.calls a0_0 a0_1 _ _ l0_2 1048576 t360 _ ?side1 ?side2 A3.out).mono ?_); (case side1 => repeat (exact (Kd.C_below HR0_2.out HB.out))); (case side2 => exact HC0_2.out); rintro e w9 ⟨rfl, hb⟩; refine ⟨_, rfl, ?_⟩; have n0_ := A_.mk (blk_below BK358.out hb); have n1_ := A_.mk (blk_below BK359.out hb); have n2_ := A_.mk (below_step HB.out hb); clear BK358; clear BK359; clear HB; have BK358 := n0_; have BK359 := n1_; have HB := n2_; clear n0_ n1_ n2_; (try clear hb)))
  go_ret
  exact ⟨by rfl, by repeat ((with_reducible (exact HB.out)))⟩
 ·rw [if_neg c4] at H
  have c4b0 : decide (t360 < 0) = false := decide_eq_false c4
  clear c4
  replace H := Option.bind_eq_some_iff.mp H
  obtain ⟨t361, A100, H⟩ := H
  replace H : (if t361 < 0 then (some true) else ((laws_toRow.f k a0_0 a0_1 l0_2).bind fun bt362 => ((laws_toRow.f k a1_0 a1_1 l1_2).bind fun bt367 => ((spec_IsFinal.f k bt362.1 bt362.2.1 bt362.2.2 bt367.1 bt367.2.1 bt367.2.2).bind fun bt372 => ((laws_toRow.f k a0_0 a0_1 l0_2).bind fun bt374 => ((laws_toRow.f k a1_0 a1_1 l1_2).bind fun bt380 => ((impl_IsFinal.f k bt374.1 bt374.2.1 bt374.2.2 bt380.1 bt380.2.1 bt380.2.2).bind fun bt386 => (if (bt386.1 != bt372.1) = true then (laws_FnExactIsFinal.j0 k true a0_0 a0_1 l0_2 a1_0 a1_1 l1_2 bt374.1 bt374.2.1 bt374.2.2 bt380.1 bt380.2.1 bt380.2.2) else (laws_FnExactIsFinal.j0 k (bt386.2 != bt372.2) a0_0 a0_1 l0_2 a1_0 a1_1 l1_2 bt374.1 bt374.2.1 bt374.2.2 bt380.1 bt380.2.1 bt380.2.2))))))))) = some true := H
  have A10 := A_.mk A100
  clear A100
  by_cases c11 : t361 < 0
  ·rw [if_pos c11] at H
   have c11b0 : decide (t361 < 0) = true := decide_eq_true c11
   clear c11
   clear H
   go_enter Tryd.func5, Tryd.ntmps5
   go_wp2_with (first | ((with_reducible refine gate_dst (N := 2) rfl ?_); refine box_event ?hg (N := 2) ?hd (cs := #[.int .i64 a0_0, .bool a0_1, .slice A0_2 l0_2.length c0_2]) (t := 24) ?hr ?_; (case hd => rfl); (case hg => rfl); (case hr => (go_simp; done)); intro gb358 hg w12 hbox hb; have n0_ := A_.mk (below_step HB.out hb); have n1_ := A_.mk (hbox); have n2_ := A_.mk ((by rw [hg]; exact (below_size HB.out) : w.heap.size ≤ gb358)); have n3_ := A_.mk ((by rw [hg]; exact (below_size HB.out) : w.heap.size ≤ gb358)); clear HB; have HB := n0_; have BK358 := n1_; have GW358 := n2_; have GE358 := n3_; clear n0_ n1_ n2_ n3_; clear hb hbox hg) | ((with_reducible refine gate_dst (N := 3) rfl ?_); refine box_event ?hg (N := 3) ?hd (cs := #[.int .i64 a1_0, .bool a1_1, .slice A1_2 l1_2.length c1_2]) (t := 24) ?hr ?_; (case hd => rfl); (case hg => rfl); (case hr => (go_simp; done)); intro gb359 hg w13 hbox hb; have n0_ := A_.mk (blk_below BK358.out hb); have n1_ := A_.mk (below_step HB.out hb); have n2_ := A_.mk (hbox); have n3_ := A_.mk ((by rw [hg]; exact (below_size HB.out) : w.heap.size ≤ gb359)); have n4_ := A_.mk ((by rw [hg]; exact (below_size HB.out) : w.heap.size ≤ gb359)); have n5_ := A_.mk ((by rw [hg]; exact Nat.ne_of_lt (blk_lt BK358.out) : gb358 ≠ gb359)); have n6_ := A_.mk ((by rw [hg]; exact Nat.ne_of_gt (blk_lt BK358.out) : gb359 ≠ gb358)); clear BK358; clear HB; have BK358 := n0_; have HB := n1_; have BK359 := n2_; have GW359 := n3_; have GE359 := n4_; have NB358_359 := n5_; have NB359_358 := n6_; clear n0_ n1_ n2_ n3_ n4_ n5_ n6_; clear hb hbox hg; have hnb14 := NB358_359.out; have hnc14 := NB359_358.out; have hcz15_0 : w13.cell? ⟨gb358, 0, none⟩ = some (.int .i64 a0_0) := (blk_cell BK358.out 0).trans rfl; have hcz15_1 : w13.cell? ⟨gb358, 1, none⟩ = some (.bool a0_1) := (blk_cell BK358.out 1).trans rfl; have hcz15_2 : w13.cell? ⟨gb358, 2, none⟩ = some (.slice A0_2 l0_2.length c0_2) := (blk_cell BK358.out 2).trans rfl; have hfz15_0 := blk_frozen BK358.out 0; have hfz15_1 := blk_frozen BK358.out 1; have hfz15_2 := blk_frozen BK358.out 2) | ((with_reducible refine gate_callee (f := 7) rfl ?_); refine goesL_ (some 14) rfl rfl Tryd.func7 (by kernel_rfl) rfl #[.agg #[.int .i64 a0_0, .bool a0_1, .slice A0_2 l0_2.length c0_2], .int .i64 1048576] rfl (by (try simp only [List.map_toArray, List.map_cons, List.map_nil]); (rfl)) ?_; (with_reducible refine (laws_szRow.calls a0_0 a0_1 _ _ l0_2 1048576 t360 _ ?side1 ?side2 A3.out).mono ?_); (case side1 => repeat (exact (Kd.C_below HR0_2.out HB.out))); (case side2 => exact HC0_2.out); rintro e w16 ⟨rfl, hb⟩; refine ⟨_, rfl, ?_⟩; have n0_ := A_.mk (blk_below BK358.out hb); have n1_ := A_.mk (blk_below BK359.out hb); have n2_ := A_.mk (below_step HB.out hb); clear BK358; clear BK359; clear HB; have BK358 := n0_; have BK359 := n1_; have HB := n2_; clear n0_ n1_ n2_; (try clear hb); have hcz17_0 : w16.cell? ⟨gb359, 0, none⟩ = some (.int .i64 a1_0) := (blk_cell BK359.out 0).trans rfl; have hcz17_1 : w16.cell? ⟨gb359, 1, none⟩ = some (.bool a1_1) := (blk_cell BK359.out 1).trans rfl; have hcz17_2 : w16.cell? ⟨gb359, 2, none⟩ = some (.slice A1_2 l1_2.length c1_2) := (blk_cell BK359.out 2).trans rfl; have hfz17_0 := blk_frozen BK359.out 0; have hfz17_1 := blk_frozen BK359.out 1; have hfz17_2 := blk_frozen BK359.out 2) | ((with_reducible refine gate_callee (f := 7) rfl ?_); refine goesL_ (some 19) rfl rfl Tryd.func7 (by kernel_rfl) rfl #[.agg #[.int .i64 a1_0, .bool a1_1, .slice A1_2 l1_2.length c1_2], .int .i64 t360] rfl (by (try simp only [List.map_toArray, List.map_cons, List.map_nil]); (rfl)) ?_; (with_reducible refine (laws_szRow.calls a1_0 a1_1 _ _ l1_2 t360 t361 _ ?side1 ?side2 A10.out).mono ?_); (case side1 => repeat (exact (Kd.C_below HR1_2.out HB.out))); (case side2 => exact HC1_2.out); rintro e w18 ⟨rfl, hb⟩; refine ⟨_, rfl, ?_⟩; have n0_ := A_.mk (blk_below BK358.out hb); have n1_ := A_.mk (blk_below BK359.out hb); have n2_ := A_.mk (below_step HB.out hb); clear BK358; clear BK359; clear HB; have BK358 := n0_; have BK359 := n1_; have HB := n2_; clear n0_ n1_ n2_; (try clear hb)))
   go_ret
   exact ⟨by rfl, by repeat ((with_reducible (exact HB.out)))⟩
  ·rw [if_neg c11] at H
   have c11b0 : decide (t361 < 0) = false := decide_eq_false c11
   clear c11
   replace H := Option.bind_eq_some_iff.mp H
   obtain ⟨⟨t362, t363, t364⟩, A190, H⟩ := H
   replace H : ((laws_toRow.f k a1_0 a1_1 l1_2).bind fun bt367 => ((spec_IsFinal.f k t362 t363 t364 bt367.1 bt367.2.1 bt367.2.2).bind fun bt372 => ((laws_toRow.f k a0_0 a0_1 l0_2).bind fun bt374 => ((laws_toRow.f k a1_0 a1_1 l1_2).bind fun bt380 => ((impl_IsFinal.f k bt374.1 bt374.2.1 bt374.2.2 bt380.1 bt380.2.1 bt380.2.2).bind fun bt386 => (if (bt386.1 != bt372.1) = true then (laws_FnExactIsFinal.j0 k true a0_0 a0_1 l0_2 a1_0 a1_1 l1_2 bt374.1 bt374.2.1 bt374.2.2 bt380.1 bt380.2.1 bt380.2.2) else (laws_FnExactIsFinal.j0 k (bt386.2 != bt372.2) a0_0 a0_1 l0_2 a1_0 a1_1 l1_2 bt374.1 bt374.2.1 bt374.2.2 bt380.1 bt380.2.1 bt380.2.2))))))) = some true := H
   have A19 := A_.mk A190
   clear A190
   replace H := Option.bind_eq_some_iff.mp H
   obtain ⟨⟨t367, t368, t369⟩, A200, H⟩ := H
   replace H : ((spec_IsFinal.f k t362 t363 t364 t367 t368 t369).bind fun bt372 => ((laws_toRow.f k a0_0 a0_1 l0_2).bind fun bt374 => ((laws_toRow.f k a1_0 a1_1 l1_2).bind fun bt380 => ((impl_IsFinal.f k bt374.1 bt374.2.1 bt374.2.2 bt380.1 bt380.2.1 bt380.2.2).bind fun bt386 => (if (bt386.1 != bt372.1) = true then (laws_FnExactIsFinal.j0 k true a0_0 a0_1 l0_2 a1_0 a1_1 l1_2 bt374.1 bt374.2.1 bt374.2.2 bt380.1 bt380.2.1 bt380.2.2) else (laws_FnExactIsFinal.j0 k (bt386.2 != bt372.2) a0_0 a0_1 l0_2 a1_0 a1_1 l1_2 bt374.1 bt374.2.1 bt374.2.2 bt380.1 bt380.2.1 bt380.2.2)))))) = some true := H
   have A20 := A_.mk A200
   clear A200
   replace H := Option.bind_eq_some_iff.mp H
   obtain ⟨⟨t372, t373⟩, A210, H⟩ := H
   replace H : ((laws_toRow.f k a0_0 a0_1 l0_2).bind fun bt374 => ((laws_toRow.f k a1_0 a1_1 l1_2).bind fun bt380 => ((impl_IsFinal.f k bt374.1 bt374.2.1 bt374.2.2 bt380.1 bt380.2.1 bt380.2.2).bind fun bt386 => (if (bt386.1 != t372) = true then (laws_FnExactIsFinal.j0 k true a0_0 a0_1 l0_2 a1_0 a1_1 l1_2 bt374.1 bt374.2.1 bt374.2.2 bt380.1 bt380.2.1 bt380.2.2) else (laws_FnExactIsFinal.j0 k (bt386.2 != t373) a0_0 a0_1 l0_2 a1_0 a1_1 l1_2 bt374.1 bt374.2.1 bt374.2.2 bt380.1 bt380.2.1 bt380.2.2))))) = some true := H
   have A21 := A_.mk A210
   clear A210
   replace H := Option.bind_eq_some_iff.mp H
   obtain ⟨⟨t374, t375, t376⟩, A220, H⟩ := H
   replace H : ((laws_toRow.f k a1_0 a1_1 l1_2).bind fun bt380 => ((impl_IsFinal.f k t374 t375 t376 bt380.1 bt380.2.1 bt380.2.2).bind fun bt386 => (if (bt386.1 != t372) = true then (laws_FnExactIsFinal.j0 k true a0_0 a0_1 l0_2 a1_0 a1_1 l1_2 t374 t375 t376 bt380.1 bt380.2.1 bt380.2.2) else (laws_FnExactIsFinal.j0 k (bt386.2 != t373) a0_0 a0_1 l0_2 a1_0 a1_1 l1_2 t374 t375 t376 bt380.1 bt380.2.1 bt380.2.2)))) = some true := H
   have A22 := A_.mk A220
   clear A220
   replace H := Option.bind_eq_some_iff.mp H
   obtain ⟨⟨t380, t381, t382⟩, A230, H⟩ := H
   replace H : ((impl_IsFinal.f k t374 t375 t376 t380 t381 t382).bind fun bt386 => (if (bt386.1 != t372) = true then (laws_FnExactIsFinal.j0 k true a0_0 a0_1 l0_2 a1_0 a1_1 l1_2 t374 t375 t376 t380 t381 t382) else (laws_FnExactIsFinal.j0 k (bt386.2 != t373) a0_0 a0_1 l0_2 a1_0 a1_1 l1_2 t374 t375 t376 t380 t381 t382))) = some true := H
   have A23 := A_.mk A230
   clear A230
   replace H := Option.bind_eq_some_iff.mp H
   obtain ⟨⟨t386, t387⟩, A240, H⟩ := H
   replace H : (if (t386 != t372) = true then (laws_FnExactIsFinal.j0 k true a0_0 a0_1 l0_2 a1_0 a1_1 l1_2 t374 t375 t376 t380 t381 t382) else (laws_FnExactIsFinal.j0 k (t387 != t373) a0_0 a0_1 l0_2 a1_0 a1_1 l1_2 t374 t375 t376 t380 t381 t382)) = some true := H
   have A24 := A_.mk A240
   clear A240
   have HC25 := A_.mk H
   clear H
   go_enter Tryd.func5, Tryd.ntmps5
   try go_wp2_with (first | ((with_reducible refine gate_dst (N := 2) rfl ?_); refine box_event ?hg (N := 2) ?hd (cs := #[.int .i64 a0_0, .bool a0_1, .slice A0_2 l0_2.length c0_2]) (t := 24) ?hr ?_; (case hd => rfl); (case hg => rfl); (case hr => (go_simp; done)); intro gb358 hg w26 hbox hb; have n0_ := A_.mk (below_step HB.out hb); have n1_ := A_.mk (hbox); have n2_ := A_.mk ((by rw [hg]; exact (below_size HB.out) : w.heap.size ≤ gb358)); have n3_ := A_.mk ((by rw [hg]; exact (below_size HB.out) : w.heap.size ≤ gb358)); clear HB; have HB := n0_; have BK358 := n1_; have GW358 := n2_; have GE358 := n3_; clear n0_ n1_ n2_ n3_; clear hb hbox hg) | ((with_reducible refine gate_dst (N := 3) rfl ?_); refine box_event ?hg (N := 3) ?hd (cs := #[.int .i64 a1_0, .bool a1_1, .slice A1_2 l1_2.length c1_2]) (t := 24) ?hr ?_; (case hd => rfl); (case hg => rfl); (case hr => (go_simp; done)); intro gb359 hg w27 hbox hb; have n0_ := A_.mk (blk_below BK358.out hb); have n1_ := A_.mk (below_step HB.out hb); have n2_ := A_.mk (hbox); have n3_ := A_.mk ((by rw [hg]; exact (below_size HB.out) : w.heap.size ≤ gb359)); have n4_ := A_.mk ((by rw [hg]; exact (below_size HB.out) : w.heap.size ≤ gb359)); have n5_ := A_.mk ((by rw [hg]; exact Nat.ne_of_lt (blk_lt BK358.out) : gb358 ≠ gb359)); have n6_ := A_.mk ((by rw [hg]; exact Nat.ne_of_gt (blk_lt BK358.out) : gb359 ≠ gb358)); clear BK358; clear HB; have BK358 := n0_; have HB := n1_; have BK359 := n2_; have GW359 := n3_; have GE359 := n4_; have NB358_359 := n5_; have NB359_358 := n6_; clear n0_ n1_ n2_ n3_ n4_ n5_ n6_; clear hb hbox hg; have hnb28 := NB358_359.out; have hnc28 := NB359_358.out; have hcz29_0 : w27.cell? ⟨gb358, 0, none⟩ = some (.int .i64 a0_0) := (blk_cell BK358.out 0).trans rfl; have hcz29_1 : w27.cell? ⟨gb358, 1, none⟩ = some (.bool a0_1) := (blk_cell BK358.out 1).trans rfl; have hcz29_2 : w27.cell? ⟨gb358, 2, none⟩ = some (.slice A0_2 l0_2.length c0_2) := (blk_cell BK358.out 2).trans rfl; have hfz29_0 := blk_frozen BK358.out 0; have hfz29_1 := blk_frozen BK358.out 1; have hfz29_2 := blk_frozen BK358.out 2) | ((with_reducible refine gate_callee (f := 7) rfl ?_); refine goesL_ (some 14) rfl rfl Tryd.func7 (by kernel_rfl) rfl #[.agg #[.int .i64 a0_0, .bool a0_1, .slice A0_2 l0_2.length c0_2], .int .i64 1048576] rfl (by (try simp only [List.map_toArray, List.map_cons, List.map_nil]); (rfl)) ?_; (with_reducible refine (laws_szRow.calls a0_0 a0_1 _ _ l0_2 1048576 t360 _ ?side1 ?side2 A3.out).mono ?_); (case side1 => repeat (exact (Kd.C_below HR0_2.out HB.out))); (case side2 => exact HC0_2.out); rintro e w30 ⟨rfl, hb⟩; refine ⟨_, rfl, ?_⟩; have n0_ := A_.mk (blk_below BK358.out hb); have n1_ := A_.mk (blk_below BK359.out hb); have n2_ := A_.mk (below_step HB.out hb); clear BK358; clear BK359; clear HB; have BK358 := n0_; have BK359 := n1_; have HB := n2_; clear n0_ n1_ n2_; (try clear hb); have hcz31_0 : w30.cell? ⟨gb359, 0, none⟩ = some (.int .i64 a1_0) := (blk_cell BK359.out 0).trans rfl; have hcz31_1 : w30.cell? ⟨gb359, 1, none⟩ = some (.bool a1_1) := (blk_cell BK359.out 1).trans rfl; have hcz31_2 : w30.cell? ⟨gb359, 2, none⟩ = some (.slice A1_2 l1_2.length c1_2) := (blk_cell BK359.out 2).trans rfl; have hfz31_0 := blk_frozen BK359.out 0; have hfz31_1 := blk_frozen BK359.out 1; have hfz31_2 := blk_frozen BK359.out 2) | ((with_reducible refine gate_callee (f := 7) rfl ?_); refine goesL_ (some 19) rfl rfl Tryd.func7 (by kernel_rfl) rfl #[.agg #[.int .i64 a1_0, .bool a1_1, .slice A1_2 l1_2.length c1_2], .int .i64 t360] rfl (by (try simp only [List.map_toArray, List.map_cons, List.map_nil]); (rfl)) ?_; (with_reducible refine (laws_szRow.calls a1_0 a1_1 _ _ l1_2 t360 t361 _ ?side1 ?side2 A10.out).mono ?_); (case side1 => repeat (exact (Kd.C_below HR1_2.out HB.out))); (case side2 => exact HC1_2.out); rintro e w32 ⟨rfl, hb⟩; refine ⟨_, rfl, ?_⟩; have n0_ := A_.mk (blk_below BK358.out hb); have n1_ := A_.mk (blk_below BK359.out hb); have n2_ := A_.mk (below_step HB.out hb); clear BK358; clear BK359; clear HB; have BK358 := n0_; have BK359 := n1_; have HB := n2_; clear n0_ n1_ n2_; (try clear hb)))
   have n0_ := A_.mk (blk_drew BK358.out)
   have n1_ := A_.mk (blk_drew BK359.out)
   have n2_ := A_.mk (below_drew1 HB.out)
   clear BK358
   clear BK359
   clear HB
   have BK358 := n0_
   have BK359 := n1_
   have HB := n2_
   clear n0_ n1_ n2_
   refine start_ (n := 10) (S := fun w' => w'.cell? ⟨gb358, 0, none⟩ = some (.int .i64 a0_0) ∧ w'.cell? ⟨gb358, 1, none⟩ = some (.bool a0_1) ∧ w'.cell? ⟨gb358, 2, none⟩ = some (.slice A0_2 l0_2.length c0_2) ∧ w'.cell? ⟨gb359, 0, none⟩ = some (.int .i64 a1_0) ∧ w'.cell? ⟨gb359, 1, none⟩ = some (.bool a1_1) ∧ w'.cell? ⟨gb359, 2, none⟩ = some (.slice A1_2 l1_2.length c1_2)) (ds := []) #[false, false, false, false, false, false, false, false, false, false] (by kernel_rfl) rfl rfl ⟨(blk_cell BK358.out 0).trans rfl, (blk_cell BK358.out 1).trans rfl, (blk_cell BK358.out 2).trans rfl, (blk_cell BK359.out 0).trans rfl, (blk_cell BK359.out 1).trans rfl, (blk_cell BK359.out 2).trans rfl⟩ (fun hHeld => ?_); refine with_tabW laws_FnExactIsFinal.tab8 laws_FnExactIsFinal.bits8 (fun HT_ HW_ => ?_)
   generalize w32.drew = w33 at BK358 BK359 HB hHeld ⊢
   refine take_ (i := 0) (N := some 23) (v := ?_) (a' := ?_) #[true, false, false, false, false, false, false, false, false, false] rfl rfl (take_ofW HT_.out HW_.out (by kernel_rfl)) (fun _ _ _ h => h) (Or.inl ⟨by rfl, ?_⟩) hHeld ?_ ?_
   rotate_left
   ·rintro w' ⟨s0, s1, s2, s3, s4, s5⟩
    go_simp
    with_reducible rfl
   rotate_left
   ·simp only [Act.put, sI_, s0_, s1_, i64_w, i32_w]
    rfl
   refine take_ (i := 2) (N := some 25) (v := ?_) (a' := ?_) #[true, false, true, false, false, false, false, false, false, false] rfl rfl (take_ofW HT_.out HW_.out (by kernel_rfl)) (fun _ _ _ h => h) (Or.inl ⟨by rfl, ?_⟩) hHeld ?_ ?_
   rotate_left
   ·rintro w' ⟨s0, s1, s2, s3, s4, s5⟩
    go_simp
    with_reducible rfl
   rotate_left
   ·simp only [Act.put, sI_, s0_, s1_, i64_w, i32_w]
    rfl
   refine one_ (i := 1) (N := some 24) #[true, true, true, false, false, false, false, false, false, false] rfl rfl (one_of HT_.out (by kernel_rfl)) (by decide) (fun K hK => ?_)
   refine goes_ Tryd.func9 (by kernel_rfl) rfl #[.agg #[.int .i64 a0_0, .bool a0_1, .slice A0_2 l0_2.length c0_2]] (by rfl) rfl rfl (by (try simp only [List.map_toArray, List.map_cons, List.map_nil]); (rfl)) ?_
   with_reducible refine (laws_toRow.calls k a0_0 a0_1 _ _ l0_2 t362 t363 t364 _ ?side1 ?side2 A19.out).mono ?_
   (case side1 => repeat (exact (Kd.C_below HR0_2.out HB.out)))
   (case side2 => exact HC0_2.out)
   rintro e w34 ⟨v365, rfl, ho0, hb⟩
   refine ⟨_, rfl, ?_⟩
   have n0_ := A_.mk (Kd.R_lower ho0 (below_size HB.out))
   have n1_ := A_.mk (blk_below BK358.out hb)
   have n2_ := A_.mk (blk_below BK359.out hb)
   have n3_ := A_.mk (below_step HB.out hb)
   clear BK358
   clear BK359
   clear HB
   have HO366 := n0_
   have BK358 := n1_
   have BK359 := n2_
   have HB := n3_
   clear n0_ n1_ n2_ n3_
   (try clear hb)
   skip
   skip
   skip
   (try clear ho0)
   refine hK.out _ _ ⟨(blk_cell BK358.out 0).trans rfl, (blk_cell BK358.out 1).trans rfl, (blk_cell BK358.out 2).trans rfl, (blk_cell BK359.out 0).trans rfl, (blk_cell BK359.out 1).trans rfl, (blk_cell BK359.out 2).trans rfl⟩ (fun hHeld => ?_)
   clear hK K
   refine norm_ (a' := ?_) ?_ ?_
   rotate_left
   ·show Act.put _ (some 24) _ = _
    simp only [Act.put, sI_, s0_, s1_, i64_w, i32_w]
    rfl
   refine one_ (i := 3) (N := some 26) #[true, true, true, true, false, false, false, false, false, false] rfl rfl (one_of HT_.out (by kernel_rfl)) (by decide) (fun K hK => ?_)
   refine goes_ Tryd.func9 (by kernel_rfl) rfl #[.agg #[.int .i64 a1_0, .bool a1_1, .slice A1_2 l1_2.length c1_2]] (by rfl) rfl rfl (by (try simp only [List.map_toArray, List.map_cons, List.map_nil]); (rfl)) ?_
   with_reducible refine (laws_toRow.calls k a1_0 a1_1 _ _ l1_2 t367 t368 t369 _ ?side1 ?side2 A20.out).mono ?_
   (case side1 => repeat (exact (Kd.C_below HR1_2.out HB.out)))
   (case side2 => exact HC1_2.out)
   rintro e w35 ⟨v370, rfl, ho0, hb⟩
   refine ⟨_, rfl, ?_⟩
   have n0_ := A_.mk (Kd.R_elder' HO366.out (Kd.R_base ho0) hb)
   have n1_ := A_.mk (Kd.R_lower (Kd.R_new' ho0 (Kd.R_lt HO366.out)) (below_size HB.out))
   have n2_ := A_.mk (blk_below BK358.out hb)
   have n3_ := A_.mk (blk_below BK359.out hb)
   have n4_ := A_.mk (below_step HB.out hb)
   clear HO366
   clear BK358
   clear BK359
   clear HB
   have HO366 := n0_
   have HO371 := n1_
   have BK358 := n2_
   have BK359 := n3_
   have HB := n4_
   clear n0_ n1_ n2_ n3_ n4_
   (try clear hb)
   skip
   skip
   skip
   (try clear ho0)
   obtain ⟨Ao36, co36, eo36⟩ := Kd.R_slice HO366.out
   (subst eo36)
   obtain ⟨Ao37, co37, eo37⟩ := Kd.R_slice HO371.out
   (subst eo37)
   refine hK.out _ _ ⟨(blk_cell BK358.out 0).trans rfl, (blk_cell BK358.out 1).trans rfl, (blk_cell BK358.out 2).trans rfl, (blk_cell BK359.out 0).trans rfl, (blk_cell BK359.out 1).trans rfl, (blk_cell BK359.out 2).trans rfl⟩ (fun hHeld => ?_)
   clear hK K
   refine norm_ (a' := ?_) ?_ ?_
   rotate_left
   ·show Act.put _ (some 26) _ = _
    simp only [Act.put, sI_, s0_, s1_, i64_w, i32_w]
    rfl
   refine one_ (i := 4) (N := some 27) #[true, true, true, true, true, false, false, false, false, false] rfl rfl (one_of HT_.out (by kernel_rfl)) (by decide) (fun K hK => ?_)
   refine goes_ Tryd.func19 (by kernel_rfl) rfl #[.agg #[.int .i64 t362, .bool t363, .slice Ao36 t364.length co36], .agg #[.int .i64 t367, .bool t368, .slice Ao37 t369.length co37]] (by rfl) rfl rfl (by (try simp only [List.map_toArray, List.map_cons, List.map_nil]); (rfl)) ?_
   with_reducible refine (spec_IsFinal.calls k t362 t363 _ _ t364 t367 t368 _ _ t369 t372 t373 _ ?side1 ?side2 ?side3 ?side4 A21.out).mono ?_
   (case side1 => repeat (exact (Kd.R_reads' HO366.out).2.2))
   (case side2 => exact (Kd.R_reads' HO366.out).2.1)
   (case side3 => repeat (exact (Kd.R_reads' HO371.out).2.2))
   (case side4 => exact (Kd.R_reads' HO371.out).2.1)
   rintro e w38 ⟨rfl, hb⟩
   refine ⟨_, rfl, ?_⟩
   have n0_ := A_.mk (Kd.R_below HO366.out hb)
   have n1_ := A_.mk (Kd.R_below HO371.out hb)
   have n2_ := A_.mk (blk_below BK358.out hb)
   have n3_ := A_.mk (blk_below BK359.out hb)
   have n4_ := A_.mk (below_step HB.out hb)
   clear HO366
   clear HO371
   clear BK358
   clear BK359
   clear HB
   have HO366 := n0_
   have HO371 := n1_
   have BK358 := n2_
   have BK359 := n3_
   have HB := n4_
   clear n0_ n1_ n2_ n3_ n4_
   (try clear hb)
   skip
   skip
   skip
   refine hK.out _ _ ⟨(blk_cell BK358.out 0).trans rfl, (blk_cell BK358.out 1).trans rfl, (blk_cell BK358.out 2).trans rfl, (blk_cell BK359.out 0).trans rfl, (blk_cell BK359.out 1).trans rfl, (blk_cell BK359.out 2).trans rfl⟩ (fun hHeld => ?_)
   clear hK K
   refine norm_ (a' := ?_) ?_ ?_
   rotate_left
   ·show Act.put _ (some 27) _ = _
    simp only [Act.put, sI_, s0_, s1_, i64_w, i32_w]
    rfl
   refine pure_ (i := 5) (N := some 22) (v := ?_) (a' := ?_) #[true, true, true, true, true, true, false, false, false, false] rfl rfl (any_of HT_.out (by kernel_rfl)) (fun _ _ _ h => h) (Or.inl ⟨by rfl, ?_⟩) ?_ ?_
   rotate_left
   ·intro w'
    go_simp
    with_reducible rfl
   rotate_left
   ·simp only [Act.put, sI_, s0_, s1_, i64_w, i32_w]
    rfl
   refine pure_ (i := 6) (N := some 28) (v := ?_) (a' := ?_) #[true, true, true, true, true, true, true, false, false, false] rfl rfl (any_of HT_.out (by kernel_rfl)) (fun _ _ _ h => h) (Or.inl ⟨by rfl, ?_⟩) ?_ ?_
   rotate_left
   ·intro w'
    go_simp
    with_reducible rfl
   rotate_left
   ·simp only [Act.put, sI_, s0_, s1_, i64_w, i32_w]
    rfl
   refine pure_ (i := 7) (N := some 29) (v := ?_) (a' := ?_) #[true, true, true, true, true, true, true, true, false, false] rfl rfl (any_of HT_.out (by kernel_rfl)) (fun _ _ _ h => h) (Or.inl ⟨by rfl, ?_⟩) ?_ ?_
   rotate_left
   ·intro w'
    go_simp
    with_reducible rfl
   rotate_left
   ·simp only [Act.put, sI_, s0_, s1_, i64_w, i32_w]
    rfl
   refine pure_ (i := 8) (N := some 6) (v := ?_) (a' := ?_) #[true, true, true, true, true, true, true, true, true, false] rfl rfl (any_of HT_.out (by kernel_rfl)) (fun _ _ _ h => h) (Or.inl ⟨by rfl, ?_⟩) ?_ ?_
   rotate_left
   ·intro w'
    go_simp
    with_reducible rfl
   rotate_left
   ·simp only [Act.put, sI_, s0_, s1_, i64_w, i32_w]
    rfl
   refine pure_ (i := 9) (N := some 7) (v := ?_) (a' := ?_) #[true, true, true, true, true, true, true, true, true, true] rfl rfl (any_of HT_.out (by kernel_rfl)) (fun _ _ _ h => h) (Or.inl ⟨by rfl, ?_⟩) ?_ ?_
   rotate_left
   ·intro w'
    go_simp
    with_reducible rfl
   rotate_left
   ·simp only [Act.put, sI_, s0_, s1_, i64_w, i32_w]
    rfl
   refine done_ (done_of HT_.out (by kernel_rfl)) ?_
   have hcz39_0 : w38.cell? ⟨gb358, 0, none⟩ = some (.int .i64 a0_0) := (blk_cell BK358.out 0).trans rfl
   have hcz39_1 : w38.cell? ⟨gb358, 1, none⟩ = some (.bool a0_1) := (blk_cell BK358.out 1).trans rfl
   have hcz39_2 : w38.cell? ⟨gb358, 2, none⟩ = some (.slice A0_2 l0_2.length c0_2) := (blk_cell BK358.out 2).trans rfl
   have hfz39_0 := blk_frozen BK358.out 0
   have hfz39_1 := blk_frozen BK358.out 1
   have hfz39_2 := blk_frozen BK358.out 2
   go_upto_region 12 with (first | ((with_reducible refine gate_callee (f := 9) rfl ?_); refine goesL_ (some 31) rfl rfl Tryd.func9 (by kernel_rfl) rfl #[.agg #[.int .i64 a0_0, .bool a0_1, .slice A0_2 l0_2.length c0_2]] rfl (by (try simp only [List.map_toArray, List.map_cons, List.map_nil]); (rfl)) ?_; (with_reducible refine (laws_toRow.calls k a0_0 a0_1 _ _ l0_2 t374 t375 t376 _ ?side1 ?side2 A22.out).mono ?_); (case side1 => repeat (exact (Kd.C_below HR0_2.out HB.out))); (case side2 => exact HC0_2.out); rintro e w40 ⟨v377, rfl, ho0, hb⟩; refine ⟨_, rfl, ?_⟩; have n0_ := A_.mk (Kd.R_elder' HO366.out (Kd.R_base ho0) hb); have n1_ := A_.mk (Kd.R_elder' HO371.out (Kd.R_base ho0) hb); have n2_ := A_.mk (Kd.R_lower (Kd.R_new' (Kd.R_new' ho0 (Kd.R_lt HO366.out)) (Kd.R_lt HO371.out)) (below_size HB.out)); have n3_ := A_.mk (blk_below BK358.out hb); have n4_ := A_.mk (blk_below BK359.out hb); have n5_ := A_.mk (below_step HB.out hb); clear HO366; clear HO371; clear BK358; clear BK359; clear HB; have HO366 := n0_; have HO371 := n1_; have HO378 := n2_; have BK358 := n3_; have BK359 := n4_; have HB := n5_; clear n0_ n1_ n2_ n3_ n4_ n5_; (try clear hb); (try clear ho0)) | ((with_reducible refine gate_dst (N := 8) rfl ?_); refine box_event ?hg (N := 8) ?hd (cs := #[.int .i64 0, .bool false, .slice none 0 0]) (t := 29) ?hr ?_; (case hd => rfl); (case hg => rfl); (case hr => (go_simp; done)); intro gb379 hg w41 hbox hb; have n0_ := A_.mk (Kd.R_below HO366.out hb); have n1_ := A_.mk (Kd.R_below HO371.out hb); have n2_ := A_.mk (Kd.R_below HO378.out hb); have n3_ := A_.mk (blk_below BK358.out hb); have n4_ := A_.mk (blk_below BK359.out hb); have n5_ := A_.mk (below_step HB.out hb); have n6_ := A_.mk (hbox); have n7_ := A_.mk ((by rw [hg]; exact (below_size HB.out) : w.heap.size ≤ gb379)); have n8_ := A_.mk ((by rw [hg]; exact (below_size HB.out) : w.heap.size ≤ gb379)); have n9_ := A_.mk ((by rw [hg]; exact Nat.ne_of_lt (blk_lt BK358.out) : gb358 ≠ gb379)); have n10_ := A_.mk ((by rw [hg]; exact Nat.ne_of_gt (blk_lt BK358.out) : gb379 ≠ gb358)); have n11_ := A_.mk ((by rw [hg]; exact Nat.ne_of_lt (blk_lt BK359.out) : gb359 ≠ gb379)); have n12_ := A_.mk ((by rw [hg]; exact Nat.ne_of_gt (blk_lt BK359.out) : gb379 ≠ gb359)); clear HO366; clear HO371; clear HO378; clear BK358; clear BK359; clear HB; have HO366 := n0_; have HO371 := n1_; have HO378 := n2_; have BK358 := n3_; have BK359 := n4_; have HB := n5_; have BK379 := n6_; have GW379 := n7_; have GE379 := n8_; have NB358_379 := n9_; have NB379_358 := n10_; have NB359_379 := n11_; have NB379_359 := n12_; clear n0_ n1_ n2_ n3_ n4_ n5_ n6_ n7_ n8_ n9_ n10_ n11_ n12_; clear hb hbox hg; have hnb42 := NB379_358.out; have hnc42 := NB358_379.out; have hnb43 := NB379_359.out; have hnc43 := NB359_379.out; have hcz44_0 : w41.cell? ⟨gb379, 0, none⟩ = some (.int .i64 0) := (blk_cell BK379.out 0).trans rfl; have hcz44_1 : w41.cell? ⟨gb379, 1, none⟩ = some (.bool false) := (blk_cell BK379.out 1).trans rfl; have hcz44_2 : w41.cell? ⟨gb379, 2, none⟩ = some (.slice none 0 0) := (blk_cell BK379.out 2).trans rfl; have hfz44_0 := blk_frozen BK379.out 0; have hfz44_1 := blk_frozen BK379.out 1; have hfz44_2 := blk_frozen BK379.out 2; obtain ⟨Ao45, co45, eo45⟩ := Kd.R_slice HO378.out; subst eo45; have hcz46_0 : w41.cell? ⟨gb359, 0, none⟩ = some (.int .i64 a1_0) := (blk_cell BK359.out 0).trans rfl; have hcz46_1 : w41.cell? ⟨gb359, 1, none⟩ = some (.bool a1_1) := (blk_cell BK359.out 1).trans rfl; have hcz46_2 : w41.cell? ⟨gb359, 2, none⟩ = some (.slice A1_2 l1_2.length c1_2) := (blk_cell BK359.out 2).trans rfl; have hfz46_0 := blk_frozen BK359.out 0; have hfz46_1 := blk_frozen BK359.out 1; have hfz46_2 := blk_frozen BK359.out 2) | ((with_reducible refine gate_callee (f := 9) rfl ?_); refine goesL_ (some 33) rfl rfl Tryd.func9 (by kernel_rfl) rfl #[.agg #[.int .i64 a1_0, .bool a1_1, .slice A1_2 l1_2.length c1_2]] rfl (by (try simp only [List.map_toArray, List.map_cons, List.map_nil]); (rfl)) ?_; (with_reducible refine (laws_toRow.calls k a1_0 a1_1 _ _ l1_2 t380 t381 t382 _ ?side1 ?side2 A23.out).mono ?_); (case side1 => exact Kd.C_below HR1_2.out (by repeat ((with_reducible first | exact HB.out | refine below_set ?_ GE379.out)))); (case side2 => exact HC1_2.out); rintro e w47 ⟨v383, rfl, ho0, hb⟩; refine ⟨_, rfl, ?_⟩; have n0_ := A_.mk (Kd.R_elder' (by (with_reducible repeat (apply Kd.R_alloc)); exact (Kd.R_mono (Kd.R_far (p := ⟨gb379, 2, none⟩) (Kd.R_far (p := ⟨gb379, 1, none⟩) (Kd.R_far (p := ⟨gb379, 0, none⟩) (Kd.R_types HO366.out BK379.out (by decide)) (fun _ hk => hk.2) (.int .i64 t374)) (fun _ hk => hk.2) (.bool t375)) (fun _ hk => hk.2) (.slice Ao45 t376.length co45)) (fun _ h_ => h_.1))) (Kd.R_base ho0) hb); have n1_ := A_.mk (Kd.R_elder' (by (with_reducible repeat (apply Kd.R_alloc)); exact (Kd.R_mono (Kd.R_far (p := ⟨gb379, 2, none⟩) (Kd.R_far (p := ⟨gb379, 1, none⟩) (Kd.R_far (p := ⟨gb379, 0, none⟩) (Kd.R_types HO371.out BK379.out (by decide)) (fun _ hk => hk.2) (.int .i64 t374)) (fun _ hk => hk.2) (.bool t375)) (fun _ hk => hk.2) (.slice Ao45 t376.length co45)) (fun _ h_ => h_.1))) (Kd.R_base ho0) hb); have n2_ := A_.mk (Kd.R_elder' (by (with_reducible repeat (apply Kd.R_alloc)); exact (Kd.R_mono (Kd.R_far (p := ⟨gb379, 2, none⟩) (Kd.R_far (p := ⟨gb379, 1, none⟩) (Kd.R_far (p := ⟨gb379, 0, none⟩) (Kd.R_types HO378.out BK379.out (by decide)) (fun _ hk => hk.2) (.int .i64 t374)) (fun _ hk => hk.2) (.bool t375)) (fun _ hk => hk.2) (.slice Ao45 t376.length co45)) (fun _ h_ => h_.1))) (Kd.R_base ho0) hb); have n3_ := A_.mk (Kd.R_lower (Kd.R_new' (Kd.R_new' (Kd.R_new' ho0 (Kd.R_lt (by (with_reducible repeat (apply Kd.R_alloc)); exact (Kd.R_mono (Kd.R_far (p := ⟨gb379, 2, none⟩) (Kd.R_far (p := ⟨gb379, 1, none⟩) (Kd.R_far (p := ⟨gb379, 0, none⟩) (Kd.R_types HO366.out BK379.out (by decide)) (fun _ hk => hk.2) (.int .i64 t374)) (fun _ hk => hk.2) (.bool t375)) (fun _ hk => hk.2) (.slice Ao45 t376.length co45)) (fun _ h_ => h_.1))))) (Kd.R_lt (by (with_reducible repeat (apply Kd.R_alloc)); exact (Kd.R_mono (Kd.R_far (p := ⟨gb379, 2, none⟩) (Kd.R_far (p := ⟨gb379, 1, none⟩) (Kd.R_far (p := ⟨gb379, 0, none⟩) (Kd.R_types HO371.out BK379.out (by decide)) (fun _ hk => hk.2) (.int .i64 t374)) (fun _ hk => hk.2) (.bool t375)) (fun _ hk => hk.2) (.slice Ao45 t376.length co45)) (fun _ h_ => h_.1))))) (Kd.R_lt (by (with_reducible repeat (apply Kd.R_alloc)); exact (Kd.R_mono (Kd.R_far (p := ⟨gb379, 2, none⟩) (Kd.R_far (p := ⟨gb379, 1, none⟩) (Kd.R_far (p := ⟨gb379, 0, none⟩) (Kd.R_types HO378.out BK379.out (by decide)) (fun _ hk => hk.2) (.int .i64 t374)) (fun _ hk => hk.2) (.bool t375)) (fun _ hk => hk.2) (.slice Ao45 t376.length co45)) (fun _ h_ => h_.1))))) (below_size (by repeat ((with_reducible first | exact HB.out | refine below_set ?_ GE379.out))))); have n4_ := A_.mk (blk_below (g := gb358) (o := .cells #[.int .i64 a0_0, .bool a0_1, .slice A0_2 l0_2.length c0_2] 24 (0, 0)) (by (with_reducible repeat (refine blk_drewN ?_ _)); refine blk_far ?_ NB358_379.out _; (with_reducible repeat (refine blk_drewN ?_ _)); refine blk_far ?_ NB358_379.out _; (with_reducible repeat (refine blk_drewN ?_ _)); refine blk_far ?_ NB358_379.out _; (with_reducible repeat (refine blk_drewN ?_ _)); exact BK358.out) hb); have n5_ := A_.mk (blk_below (g := gb359) (o := .cells #[.int .i64 a1_0, .bool a1_1, .slice A1_2 l1_2.length c1_2] 24 (0, 0)) (by (with_reducible repeat (refine blk_drewN ?_ _)); refine blk_far ?_ NB359_379.out _; (with_reducible repeat (refine blk_drewN ?_ _)); refine blk_far ?_ NB359_379.out _; (with_reducible repeat (refine blk_drewN ?_ _)); refine blk_far ?_ NB359_379.out _; (with_reducible repeat (refine blk_drewN ?_ _)); exact BK359.out) hb); have n6_ := A_.mk (blk_below (g := gb379) (o := .cells #[.int .i64 t374, .bool t375, .slice Ao45 t376.length co45] 29 (0, 0)) (by (with_reducible repeat (refine blk_drewN ?_ _)); refine blk_put (cs := #[.int .i64 t374, .bool t375, .slice none 0 0]) ?_ 2 _ rfl; (with_reducible repeat (refine blk_drewN ?_ _)); refine blk_put (cs := #[.int .i64 t374, .bool false, .slice none 0 0]) ?_ 1 _ rfl; (with_reducible repeat (refine blk_drewN ?_ _)); refine blk_put (cs := #[.int .i64 0, .bool false, .slice none 0 0]) ?_ 0 _ rfl; (with_reducible repeat (refine blk_drewN ?_ _)); exact BK379.out) hb); have n7_ := A_.mk (below_step (by repeat ((with_reducible first | exact HB.out | refine below_set ?_ GE379.out))) hb); clear HO366; clear HO371; clear HO378; clear BK358; clear BK359; clear BK379; clear HB; have HO366 := n0_; have HO371 := n1_; have HO378 := n2_; have HO384 := n3_; have BK358 := n4_; have BK359 := n5_; have BK379 := n6_; have HB := n7_; clear n0_ n1_ n2_ n3_ n4_ n5_ n6_ n7_; (try clear hb); (try clear ho0)) | ((with_reducible refine gate_dst (N := 9) rfl ?_); refine box_event ?hg (N := 9) ?hd (cs := #[.int .i64 0, .bool false, .slice none 0 0]) (t := 29) ?hr ?_; (case hd => rfl); (case hg => rfl); (case hr => (go_simp; done)); intro gb385 hg w48 hbox hb; have n0_ := A_.mk (Kd.R_below HO366.out hb); have n1_ := A_.mk (Kd.R_below HO371.out hb); have n2_ := A_.mk (Kd.R_below HO378.out hb); have n3_ := A_.mk (Kd.R_below HO384.out hb); have n4_ := A_.mk (blk_below BK358.out hb); have n5_ := A_.mk (blk_below BK359.out hb); have n6_ := A_.mk (blk_below BK379.out hb); have n7_ := A_.mk (below_step HB.out hb); have n8_ := A_.mk (hbox); have n9_ := A_.mk ((by rw [hg]; exact (below_size HB.out) : w.heap.size ≤ gb385)); have n10_ := A_.mk ((by rw [hg]; exact (below_size HB.out) : w.heap.size ≤ gb385)); have n11_ := A_.mk ((by rw [hg]; exact Nat.ne_of_lt (blk_lt BK358.out) : gb358 ≠ gb385)); have n12_ := A_.mk ((by rw [hg]; exact Nat.ne_of_gt (blk_lt BK358.out) : gb385 ≠ gb358)); have n13_ := A_.mk ((by rw [hg]; exact Nat.ne_of_lt (blk_lt BK359.out) : gb359 ≠ gb385)); have n14_ := A_.mk ((by rw [hg]; exact Nat.ne_of_gt (blk_lt BK359.out) : gb385 ≠ gb359)); have n15_ := A_.mk ((by rw [hg]; exact Nat.ne_of_lt (blk_lt BK379.out) : gb379 ≠ gb385)); have n16_ := A_.mk ((by rw [hg]; exact Nat.ne_of_gt (blk_lt BK379.out) : gb385 ≠ gb379)); clear HO366; clear HO371; clear HO378; clear HO384; clear BK358; clear BK359; clear BK379; clear HB; have HO366 := n0_; have HO371 := n1_; have HO378 := n2_; have HO384 := n3_; have BK358 := n4_; have BK359 := n5_; have BK379 := n6_; have HB := n7_; have BK385 := n8_; have GW385 := n9_; have GE385 := n10_; have NB358_385 := n11_; have NB385_358 := n12_; have NB359_385 := n13_; have NB385_359 := n14_; have NB379_385 := n15_; have NB385_379 := n16_; clear n0_ n1_ n2_ n3_ n4_ n5_ n6_ n7_ n8_ n9_ n10_ n11_ n12_ n13_ n14_ n15_ n16_; clear hb hbox hg; have hnb49 := NB385_358.out; have hnc49 := NB358_385.out; have hnb50 := NB385_359.out; have hnc50 := NB359_385.out; have hnb51 := NB385_379.out; have hnc51 := NB379_385.out; have hcz52_0 : w48.cell? ⟨gb385, 0, none⟩ = some (.int .i64 0) := (blk_cell BK385.out 0).trans rfl; have hcz52_1 : w48.cell? ⟨gb385, 1, none⟩ = some (.bool false) := (blk_cell BK385.out 1).trans rfl; have hcz52_2 : w48.cell? ⟨gb385, 2, none⟩ = some (.slice none 0 0) := (blk_cell BK385.out 2).trans rfl; have hfz52_0 := blk_frozen BK385.out 0; have hfz52_1 := blk_frozen BK385.out 1; have hfz52_2 := blk_frozen BK385.out 2; obtain ⟨Ao53, co53, eo53⟩ := Kd.R_slice HO384.out; subst eo53; have hcz54_0 : w48.cell? ⟨gb379, 0, none⟩ = some (.int .i64 t374) := (blk_cell BK379.out 0).trans rfl; have hcz54_1 : w48.cell? ⟨gb379, 1, none⟩ = some (.bool t375) := (blk_cell BK379.out 1).trans rfl; have hcz54_2 : w48.cell? ⟨gb379, 2, none⟩ = some (.slice Ao45 t376.length co45) := (blk_cell BK379.out 2).trans rfl; have hfz54_0 := blk_frozen BK379.out 0; have hfz54_1 := blk_frozen BK379.out 1; have hfz54_2 := blk_frozen BK379.out 2) | ((with_reducible refine gate_callee (f := 20) rfl ?_); refine goesL_ (some 37) rfl rfl Tryd.func20 (by kernel_rfl) rfl #[.agg #[.int .i64 t374, .bool t375, .slice Ao45 t376.length co45], .agg #[.int .i64 t380, .bool t381, .slice Ao53 t382.length co53]] rfl (by (try simp only [List.map_toArray, List.map_cons, List.map_nil]); (rfl)) ?_; (with_reducible refine (impl_IsFinal.calls k t374 t375 _ _ t376 t380 t381 _ _ t382 t386 t387 _ ?side1 ?side2 ?side3 ?side4 ?side5 A24.out).mono ?_); (case side1 => refine (Kd.R_reads' (e := 3) (base := w.heap.size) (ok := fun k_ => (((True ∧ some k_ ≠ (.slice Ao36 t364.length co36 : Value).ownBlock) ∧ some k_ ≠ (.slice Ao37 t369.length co37 : Value).ownBlock) ∧ some k_ ≠ (.slice Ao53 t382.length co53 : Value).ownBlock)) (n := t376.length) (c := co45) ?_).2.2; exact (by (with_reducible repeat (apply Kd.R_alloc)); exact (Kd.R_mono (Kd.R_far (p := ⟨gb385, 2, none⟩) (Kd.R_far (p := ⟨gb385, 1, none⟩) (Kd.R_far (p := ⟨gb385, 0, none⟩) (Kd.R_types HO378.out BK385.out (by decide)) (fun _ hk => hk.2) (.int .i64 t380)) (fun _ hk => hk.2) (.bool t381)) (fun _ hk => hk.2) (.slice Ao53 t382.length co53)) (fun _ h_ => h_.1)))); (case side2 => exact (Kd.R_reads' HO378.out).2.1); (case side3 => refine (Kd.R_reads' (e := 3) (base := w.heap.size) (ok := fun k_ => (((True ∧ some k_ ≠ (.slice Ao36 t364.length co36 : Value).ownBlock) ∧ some k_ ≠ (.slice Ao37 t369.length co37 : Value).ownBlock) ∧ some k_ ≠ (.slice Ao45 t376.length co45 : Value).ownBlock)) (n := t382.length) (c := co53) ?_).2.2; exact (by (with_reducible repeat (apply Kd.R_alloc)); exact (Kd.R_mono (Kd.R_far (p := ⟨gb385, 2, none⟩) (Kd.R_far (p := ⟨gb385, 1, none⟩) (Kd.R_far (p := ⟨gb385, 0, none⟩) (Kd.R_types HO384.out BK385.out (by decide)) (fun _ hk => hk.2) (.int .i64 t380)) (fun _ hk => hk.2) (.bool t381)) (fun _ hk => hk.2) (.slice Ao53 t382.length co53)) (fun _ h_ => h_.1)))); (case side4 => exact (Kd.R_reads' HO384.out).2.1); (case side5 => exact XTab.below HT.out (by repeat ((with_reducible first | exact HB.out | refine below_set ?_ GE385.out)))); rintro e w55 ⟨rfl, hb⟩; refine ⟨_, rfl, ?_⟩; have n0_ := A_.mk (Kd.R_below (by (with_reducible repeat (apply Kd.R_alloc)); exact (Kd.R_mono (Kd.R_far (p := ⟨gb385, 2, none⟩) (Kd.R_far (p := ⟨gb385, 1, none⟩) (Kd.R_far (p := ⟨gb385, 0, none⟩) (Kd.R_types HO366.out BK385.out (by decide)) (fun _ hk => hk.2) (.int .i64 t380)) (fun _ hk => hk.2) (.bool t381)) (fun _ hk => hk.2) (.slice Ao53 t382.length co53)) (fun _ h_ => h_.1))) hb); have n1_ := A_.mk (Kd.R_below (by (with_reducible repeat (apply Kd.R_alloc)); exact (Kd.R_mono (Kd.R_far (p := ⟨gb385, 2, none⟩) (Kd.R_far (p := ⟨gb385, 1, none⟩) (Kd.R_far (p := ⟨gb385, 0, none⟩) (Kd.R_types HO371.out BK385.out (by decide)) (fun _ hk => hk.2) (.int .i64 t380)) (fun _ hk => hk.2) (.bool t381)) (fun _ hk => hk.2) (.slice Ao53 t382.length co53)) (fun _ h_ => h_.1))) hb); have n2_ := A_.mk (Kd.R_below (by (with_reducible repeat (apply Kd.R_alloc)); exact (Kd.R_mono (Kd.R_far (p := ⟨gb385, 2, none⟩) (Kd.R_far (p := ⟨gb385, 1, none⟩) (Kd.R_far (p := ⟨gb385, 0, none⟩) (Kd.R_types HO378.out BK385.out (by decide)) (fun _ hk => hk.2) (.int .i64 t380)) (fun _ hk => hk.2) (.bool t381)) (fun _ hk => hk.2) (.slice Ao53 t382.length co53)) (fun _ h_ => h_.1))) hb); have n3_ := A_.mk (Kd.R_below (by (with_reducible repeat (apply Kd.R_alloc)); exact (Kd.R_mono (Kd.R_far (p := ⟨gb385, 2, none⟩) (Kd.R_far (p := ⟨gb385, 1, none⟩) (Kd.R_far (p := ⟨gb385, 0, none⟩) (Kd.R_types HO384.out BK385.out (by decide)) (fun _ hk => hk.2) (.int .i64 t380)) (fun _ hk => hk.2) (.bool t381)) (fun _ hk => hk.2) (.slice Ao53 t382.length co53)) (fun _ h_ => h_.1))) hb); have n4_ := A_.mk (blk_below (g := gb358) (o := .cells #[.int .i64 a0_0, .bool a0_1, .slice A0_2 l0_2.length c0_2] 24 (0, 0)) (by (with_reducible repeat (refine blk_drewN ?_ _)); refine blk_far ?_ NB358_385.out _; (with_reducible repeat (refine blk_drewN ?_ _)); refine blk_far ?_ NB358_385.out _; (with_reducible repeat (refine blk_drewN ?_ _)); refine blk_far ?_ NB358_385.out _; (with_reducible repeat (refine blk_drewN ?_ _)); exact BK358.out) hb); have n5_ := A_.mk (blk_below (g := gb359) (o := .cells #[.int .i64 a1_0, .bool a1_1, .slice A1_2 l1_2.length c1_2] 24 (0, 0)) (by (with_reducible repeat (refine blk_drewN ?_ _)); refine blk_far ?_ NB359_385.out _; (with_reducible repeat (refine blk_drewN ?_ _)); refine blk_far ?_ NB359_385.out _; (with_reducible repeat (refine blk_drewN ?_ _)); refine blk_far ?_ NB359_385.out _; (with_reducible repeat (refine blk_drewN ?_ _)); exact BK359.out) hb); have n6_ := A_.mk (blk_below (g := gb379) (o := .cells #[.int .i64 t374, .bool t375, .slice Ao45 t376.length co45] 29 (0, 0)) (by (with_reducible repeat (refine blk_drewN ?_ _)); refine blk_far ?_ NB379_385.out _; (with_reducible repeat (refine blk_drewN ?_ _)); refine blk_far ?_ NB379_385.out _; (with_reducible repeat (refine blk_drewN ?_ _)); refine blk_far ?_ NB379_385.out _; (with_reducible repeat (refine blk_drewN ?_ _)); exact BK379.out) hb); have n7_ := A_.mk (blk_below (g := gb385) (o := .cells #[.int .i64 t380, .bool t381, .slice Ao53 t382.length co53] 29 (0, 0)) (by (with_reducible repeat (refine blk_drewN ?_ _)); refine blk_put (cs := #[.int .i64 t380, .bool t381, .slice none 0 0]) ?_ 2 _ rfl; (with_reducible repeat (refine blk_drewN ?_ _)); refine blk_put (cs := #[.int .i64 t380, .bool false, .slice none 0 0]) ?_ 1 _ rfl; (with_reducible repeat (refine blk_drewN ?_ _)); refine blk_put (cs := #[.int .i64 0, .bool false, .slice none 0 0]) ?_ 0 _ rfl; (with_reducible repeat (refine blk_drewN ?_ _)); exact BK385.out) hb); have n8_ := A_.mk (below_step (by repeat ((with_reducible first | exact HB.out | refine below_set ?_ GE385.out))) hb); clear HO366; clear HO371; clear HO378; clear HO384; clear BK358; clear BK359; clear BK379; clear BK385; clear HB; have HO366 := n0_; have HO371 := n1_; have HO378 := n2_; have HO384 := n3_; have BK358 := n4_; have BK359 := n5_; have BK379 := n6_; have BK385 := n7_; have HB := n8_; clear n0_ n1_ n2_ n3_ n4_ n5_ n6_ n7_ n8_; (try clear hb)))
   skip
   go_cut [47] (fun v47 wc => ∃ (kq : Nat) (x47_24 : Bool), v47 = .bool x47_24 ∧ A_ (laws_FnExactIsFinal.j0 kq x47_24 a0_0 a0_1 l0_2 a1_0 a1_1 l1_2 t374 t375 t376 t380 t381 t382 = some true) ∧ A_ (kq ≤ k) ∧ A_ (Kd.R (Kd.int .i64) 3 wc w.heap.size (fun k_ => some k_ ≠ ((.slice Ao53 t382.length co53) : Value).ownBlock) (.slice Ao45 t376.length co45) t376) ∧ A_ (Kd.R (Kd.int .i64) 3 wc w.heap.size (fun k_ => some k_ ≠ ((.slice Ao45 t376.length co45) : Value).ownBlock) (.slice Ao53 t382.length co53) t382) ∧ A_ (wc.heap[gb358]? = some (.cells #[.int .i64 a0_0, .bool a0_1, (.slice A0_2 l0_2.length c0_2)] 24 (0, 0))) ∧ A_ (wc.heap[gb359]? = some (.cells #[.int .i64 a1_0, .bool a1_1, (.slice A1_2 l1_2.length c1_2)] 24 (0, 0))) ∧ A_ (wc.heap[gb379]? = some (.cells #[.int .i64 t374, .bool t375, (.slice Ao45 t376.length co45)] 29 (0, 0))) ∧ A_ (wc.heap[gb385]? = some (.cells #[.int .i64 t380, .bool t381, (.slice Ao53 t382.length co53)] 29 (0, 0))) ∧ A_ (Below w.heap.size w wc))
   case first =>
    have H := HC25.out
    clear HC25
    by_cases c56 : (t386 != t372) = true
    ·rw [if_pos c56] at H
     have c56b0 : (t386 != t372) = true := c56
     (try (have c56b1 : decide (t386 = t372) = false := by simpa using c56))
     (try (have c56b2 : (t386 == t372) = false := by simpa using c56))
     (try (have c56b3 : ¬ (t386 = t372) := by simpa using c56))
     clear c56
     (skip)
     exact absurd H (laws_FnExactIsFinal.j0_no _ _ _ _ _ _ _ _ _ _ _ _ _)
    ·rw [if_neg c56] at H
     have c56b0 : (t386 != t372) = false := by simpa using c56
     (try (have c56b1 : decide (t386 = t372) = true := by simpa using c56))
     (try (have c56b2 : (t386 == t372) = true := by simpa using c56))
     clear c56
     (skip)
     have H' := A_.mk H
     clear H
     go_wp2
     go_meet
     case rel => exact ⟨_, ((t387 != t373)), (by rfl), H', ⟨by omega⟩, ⟨by (with_reducible repeat (apply Kd.R_alloc)); exact Kd.R_mono HO378.out (fun _ hk => hk.2)⟩, ⟨by (with_reducible repeat (apply Kd.R_alloc)); exact Kd.R_mono HO384.out (fun _ hk => hk.2)⟩, ⟨by (with_reducible repeat (refine blk_drewN ?_ _)); exact BK358.out⟩, ⟨by (with_reducible repeat (refine blk_drewN ?_ _)); exact BK359.out⟩, ⟨by (with_reducible repeat (refine blk_drewN ?_ _)); exact BK379.out⟩, ⟨by (with_reducible repeat (refine blk_drewN ?_ _)); exact BK385.out⟩, ⟨by repeat ((with_reducible (exact HB.out)))⟩⟩
   case rest =>
    clear HC25
    try clear c1
    try clear c2
    try clear p2
    try clear c4
    try clear c4b0
    try clear c5
    try clear p6
    try clear c7
    try clear c9
    try clear c11
    try clear c11b0
    try clear c14
    try clear c19
    try clear c20
    try clear c28
    try clear c42
    try clear c43
    try clear c49
    try clear c50
    try clear c51
    try clear c56
    try clear c56b0
    try clear c56b1
    try clear c56b2
    try clear hcz15_0
    try clear hcz15_1
    try clear hcz15_2
    try clear hcz17_0
    try clear hcz17_1
    try clear hcz17_2
    try clear hcz29_0
    try clear hcz29_1
    try clear hcz29_2
    try clear hcz31_0
    try clear hcz31_1
    try clear hcz31_2
    try clear hcz39_0
    try clear hcz39_1
    try clear hcz39_2
    try clear hcz44_0
    try clear hcz44_1
    try clear hcz44_2
    try clear hcz46_0
    try clear hcz46_1
    try clear hcz46_2
    try clear hcz52_0
    try clear hcz52_1
    try clear hcz52_2
    try clear hcz54_0
    try clear hcz54_1
    try clear hcz54_2
    try clear hcz8_0
    try clear hcz8_1
    try clear hcz8_2
    try clear hfz15_0
    try clear hfz15_1
    try clear hfz15_2
    try clear hfz17_0
    try clear hfz17_1
    try clear hfz17_2
    try clear hfz29_0
    try clear hfz29_1
    try clear hfz29_2
    try clear hfz31_0
    try clear hfz31_1
    try clear hfz31_2
    try clear hfz39_0
    try clear hfz39_1
    try clear hfz39_2
    try clear hfz44_0
    try clear hfz44_1
    try clear hfz44_2
    try clear hfz46_0
    try clear hfz46_1
    try clear hfz46_2
    try clear hfz52_0
    try clear hfz52_1
    try clear hfz52_2
    try clear hfz54_0
    try clear hfz54_1
    try clear hfz54_2
    try clear hfz8_0
    try clear hfz8_1
    try clear hfz8_2
    obtain ⟨kq, x47_24, rfl, HA, HJ24, HO_380002, HO_386002, BK358, BK359, BK379, BK385, HB⟩ := hcut
    cases kq with
    | zero => exact absurd HA.out (by simp [laws_FnExactIsFinal.j0])
    | succ kj24 =>
     have H := HA.out
     clear HA
     simp only [laws_FnExactIsFinal.j0] at H
     by_cases c57 : x47_24 = true
     ·subst c57
      have H1 : (some false) = some true := by rw [if_pos rfl] at H; exact H
      clear H
      have H := H1
      clear H1
      exact absurd (Option.some.inj H) (by decide)
     ·replace c57 := Bool.eq_false_iff.mpr c57
      subst c57
      have H1 : ((laws_toRow.f kj24 a0_0 a0_1 l0_2).bind fun bt388 => ((laws_eqRow.f kj24 t374 t375 t376 bt388.1 bt388.2.1 bt388.2.2).bind fun t393 => (if t393 = true then ((laws_toRow.f kj24 a1_0 a1_1 l1_2).bind fun bt394 => ((laws_eqRow.f kj24 t380 t381 t382 bt394.1 bt394.2.1 bt394.2.2).bind fun t399 => (if t399 = true then (some true) else (some false)))) else (some false)))) = some true := by rw [if_neg (show ¬ (false = true) by decide)] at H; exact H
      clear H
      have H := H1
      clear H1
      replace H := Option.bind_eq_some_iff.mp H
      obtain ⟨⟨t388, t389, t390⟩, A580, H⟩ := H
      replace H : ((laws_eqRow.f kj24 t374 t375 t376 t388 t389 t390).bind fun t393 => (if t393 = true then ((laws_toRow.f kj24 a1_0 a1_1 l1_2).bind fun bt394 => ((laws_eqRow.f kj24 t380 t381 t382 bt394.1 bt394.2.1 bt394.2.2).bind fun t399 => (if t399 = true then (some true) else (some false)))) else (some false))) = some true := H
      have A58 := A_.mk A580
      clear A580
      replace H := Option.bind_eq_some_iff.mp H
      obtain ⟨t393, A590, H⟩ := H
      replace H : (if t393 = true then ((laws_toRow.f kj24 a1_0 a1_1 l1_2).bind fun bt394 => ((laws_eqRow.f kj24 t380 t381 t382 bt394.1 bt394.2.1 bt394.2.2).bind fun t399 => (if t399 = true then (some true) else (some false)))) else (some false)) = some true := H
      have A59 := A_.mk A590
      clear A590
      by_cases c60 : t393 = true
      ·subst c60
       have H1 : ((laws_toRow.f kj24 a1_0 a1_1 l1_2).bind fun bt394 => ((laws_eqRow.f kj24 t380 t381 t382 bt394.1 bt394.2.1 bt394.2.2).bind fun t399 => (if t399 = true then (some true) else (some false)))) = some true := by rw [if_pos rfl] at H; exact H
       clear H
       have H := H1
       clear H1
       replace H := Option.bind_eq_some_iff.mp H
       obtain ⟨⟨t394, t395, t396⟩, A610, H⟩ := H
       replace H : ((laws_eqRow.f kj24 t380 t381 t382 t394 t395 t396).bind fun t399 => (if t399 = true then (some true) else (some false))) = some true := H
       have A61 := A_.mk A610
       clear A610
       replace H := Option.bind_eq_some_iff.mp H
       obtain ⟨t399, A620, H⟩ := H
       replace H : (if t399 = true then (some true) else (some false)) = some true := H
       have A62 := A_.mk A620
       clear A620
       by_cases c63 : t399 = true
       ·subst c63
        have H1 : (some true) = some true := rfl
        clear H
        have H := H1
        clear H1
        clear H
        try go_wp2
        have n0_ := A_.mk (Kd.R_drew HO_380002.out)
        have n1_ := A_.mk (Kd.R_drew HO_386002.out)
        have n2_ := A_.mk (blk_drew BK358.out)
        have n3_ := A_.mk (blk_drew BK359.out)
        have n4_ := A_.mk (blk_drew BK379.out)
        have n5_ := A_.mk (blk_drew BK385.out)
        have n6_ := A_.mk (below_drew1 HB.out)
        clear HO_380002
        clear HO_386002
        clear BK358
        clear BK359
        clear BK379
        clear BK385
        clear HB
        have HO_380002 := n0_
        have HO_386002 := n1_
        have BK358 := n2_
        have BK359 := n3_
        have BK379 := n4_
        have BK385 := n5_
        have HB := n6_
        clear n0_ n1_ n2_ n3_ n4_ n5_ n6_
        refine start_ (n := 5) (S := fun w' => w'.cell? ⟨gb379, 0, none⟩ = some (.int .i64 t374) ∧ w'.cell? ⟨gb379, 1, none⟩ = some (.bool t375) ∧ w'.cell? ⟨gb379, 2, none⟩ = some (.slice Ao45 t376.length co45) ∧ w'.cell? ⟨gb358, 0, none⟩ = some (.int .i64 a0_0) ∧ w'.cell? ⟨gb358, 1, none⟩ = some (.bool a0_1) ∧ w'.cell? ⟨gb358, 2, none⟩ = some (.slice A0_2 l0_2.length c0_2)) (ds := []) #[false, false, false, false, false] (by kernel_rfl) rfl rfl ⟨(blk_cell BK379.out 0).trans rfl, (blk_cell BK379.out 1).trans rfl, (blk_cell BK379.out 2).trans rfl, (blk_cell BK358.out 0).trans rfl, (blk_cell BK358.out 1).trans rfl, (blk_cell BK358.out 2).trans rfl⟩ (fun hHeld => ?_)
        generalize wc.drew = w64 at HO_380002 HO_386002 BK358 BK359 BK379 BK385 HB hHeld ⊢
        refine take_ (i := 0) (N := some 48) (v := ?_) (a' := ?_) #[true, false, false, false, false] rfl rfl (by kernel_rfl) (fun _ _ _ h => h) (Or.inl ⟨by rfl, ?_⟩) hHeld ?_ ?_
        rotate_left
        ·rintro w' ⟨s0, s1, s2, s3, s4, s5⟩
         go_simp
         with_reducible rfl
        rotate_left
        ·simp only [Act.put, sI_, s0_, s1_, i64_w, i32_w]
         rfl
        refine take_ (i := 1) (N := some 49) (v := ?_) (a' := ?_) #[true, true, false, false, false] rfl rfl (by kernel_rfl) (fun _ _ _ h => h) (Or.inl ⟨by rfl, ?_⟩) hHeld ?_ ?_
        rotate_left
        ·rintro w' ⟨s0, s1, s2, s3, s4, s5⟩
         go_simp
         with_reducible rfl
        rotate_left
        ·simp only [Act.put, sI_, s0_, s1_, i64_w, i32_w]
         rfl
        refine one_ (i := 2) (N := some 50) #[true, true, true, false, false] rfl rfl (by kernel_rfl) (by decide) (fun K hK => ?_)
        refine goes_ Tryd.func9 (by kernel_rfl) rfl #[.agg #[.int .i64 a0_0, .bool a0_1, .slice A0_2 l0_2.length c0_2]] (by rfl) rfl rfl (by (try simp only [List.map_toArray, List.map_cons, List.map_nil]); (rfl)) ?_
        with_reducible refine (laws_toRow.calls kj24 a0_0 a0_1 _ _ l0_2 t388 t389 t390 _ ?side1 ?side2 A58.out).mono ?_
        (case side1 => repeat (exact (Kd.C_below HR0_2.out HB.out)))
        (case side2 => exact HC0_2.out)
        rintro e w65 ⟨v391, rfl, ho0, hb⟩
        refine ⟨_, rfl, ?_⟩
        have n0_ := A_.mk (Kd.R_elder' HO_380002.out (Kd.R_base ho0) hb)
        have n1_ := A_.mk (Kd.R_elder' HO_386002.out (Kd.R_base ho0) hb)
        have n2_ := A_.mk (Kd.R_lower (Kd.R_new' (Kd.R_new' ho0 (Kd.R_lt HO_380002.out)) (Kd.R_lt HO_386002.out)) (below_size HB.out))
        have n3_ := A_.mk (blk_below BK358.out hb)
        have n4_ := A_.mk (blk_below BK359.out hb)
        have n5_ := A_.mk (blk_below BK379.out hb)
        have n6_ := A_.mk (blk_below BK385.out hb)
        have n7_ := A_.mk (below_step HB.out hb)
        clear HO_380002
        clear HO_386002
        clear BK358
        clear BK359
        clear BK379
        clear BK385
        clear HB
        have HO_380002 := n0_
        have HO_386002 := n1_
        have HO392 := n2_
        have BK358 := n3_
        have BK359 := n4_
        have BK379 := n5_
        have BK385 := n6_
        have HB := n7_
        clear n0_ n1_ n2_ n3_ n4_ n5_ n6_ n7_
        (try clear hb)
        skip
        skip
        skip
        (try clear ho0)
        obtain ⟨Ao66, co66, eo66⟩ := Kd.R_slice HO392.out
        (subst eo66)
        refine hK.out _ _ ⟨(blk_cell BK379.out 0).trans rfl, (blk_cell BK379.out 1).trans rfl, (blk_cell BK379.out 2).trans rfl, (blk_cell BK358.out 0).trans rfl, (blk_cell BK358.out 1).trans rfl, (blk_cell BK358.out 2).trans rfl⟩ (fun hHeld => ?_)
        clear hK K
        refine norm_ (a' := ?_) ?_ ?_
        rotate_left
        ·show Act.put _ (some 50) _ = _
         simp only [Act.put, sI_, s0_, s1_, i64_w, i32_w]
         rfl
        refine one_ (i := 3) (N := some 51) #[true, true, true, true, false] rfl rfl (by kernel_rfl) (by decide) (fun K hK => ?_)
        refine goes_ Tryd.func12 (by kernel_rfl) rfl #[.agg #[.int .i64 t374, .bool t375, .slice Ao45 t376.length co45], .agg #[.int .i64 t388, .bool t389, .slice Ao66 t390.length co66]] (by rfl) rfl rfl (by (try simp only [List.map_toArray, List.map_cons, List.map_nil]); (rfl)) ?_
        with_reducible refine (laws_eqRow.calls kj24 t374 t375 _ _ t376 t388 t389 _ _ t390 true _ ?side1 ?side2 ?side3 ?side4 A59.out).mono ?_
        (case side1 => repeat (exact (Kd.R_reads' HO_380002.out).2.2))
        (case side2 => exact (Kd.R_reads' HO_380002.out).2.1)
        (case side3 => repeat (exact (Kd.R_reads' HO392.out).2.2))
        (case side4 => exact (Kd.R_reads' HO392.out).2.1)
        rintro e w67 ⟨rfl, hb⟩
        refine ⟨_, rfl, ?_⟩
        have n0_ := A_.mk (Kd.R_below HO_380002.out hb)
        have n1_ := A_.mk (Kd.R_below HO_386002.out hb)
        have n2_ := A_.mk (Kd.R_below HO392.out hb)
        have n3_ := A_.mk (blk_below BK358.out hb)
        have n4_ := A_.mk (blk_below BK359.out hb)
        have n5_ := A_.mk (blk_below BK379.out hb)
        have n6_ := A_.mk (blk_below BK385.out hb)
        have n7_ := A_.mk (below_step HB.out hb)
        clear HO_380002
        clear HO_386002
        clear HO392
        clear BK358
        clear BK359
        clear BK379
        clear BK385
        clear HB
        have HO_380002 := n0_
        have HO_386002 := n1_
        have HO392 := n2_
        have BK358 := n3_
        have BK359 := n4_
        have BK379 := n5_
        have BK385 := n6_
        have HB := n7_
        clear n0_ n1_ n2_ n3_ n4_ n5_ n6_ n7_
        (try clear hb)
        skip
        skip
        skip
        refine hK.out _ _ ⟨(blk_cell BK379.out 0).trans rfl, (blk_cell BK379.out 1).trans rfl, (blk_cell BK379.out 2).trans rfl, (blk_cell BK358.out 0).trans rfl, (blk_cell BK358.out 1).trans rfl, (blk_cell BK358.out 2).trans rfl⟩ (fun hHeld => ?_)
        clear hK K
        refine norm_ (a' := ?_) ?_ ?_
        rotate_left
        ·show Act.put _ (some 51) _ = _
         simp only [Act.put, sI_, s0_, s1_, i64_w, i32_w]
         rfl
        refine pure_ (i := 4) (N := some 52) (v := ?_) (a' := ?_) #[true, true, true, true, true] rfl rfl (by kernel_rfl) (fun _ _ _ h => h) (Or.inl ⟨by rfl, ?_⟩) ?_ ?_
        rotate_left
        ·intro w'
         go_simp
         with_reducible rfl
        rotate_left
        ·simp only [Act.put, sI_, s0_, s1_, i64_w, i32_w]
         rfl
        refine done_ (by kernel_rfl) ?_
        try go_wp2
        have n0_ := A_.mk (Kd.R_drew HO_380002.out)
        have n1_ := A_.mk (Kd.R_drew HO_386002.out)
        have n2_ := A_.mk (Kd.R_drew HO392.out)
        have n3_ := A_.mk (blk_drew BK358.out)
        have n4_ := A_.mk (blk_drew BK359.out)
        have n5_ := A_.mk (blk_drew BK379.out)
        have n6_ := A_.mk (blk_drew BK385.out)
        have n7_ := A_.mk (below_drew1 HB.out)
        clear HO_380002
        clear HO_386002
        clear HO392
        clear BK358
        clear BK359
        clear BK379
        clear BK385
        clear HB
        have HO_380002 := n0_
        have HO_386002 := n1_
        have HO392 := n2_
        have BK358 := n3_
        have BK359 := n4_
        have BK379 := n5_
        have BK385 := n6_
        have HB := n7_
        clear n0_ n1_ n2_ n3_ n4_ n5_ n6_ n7_
        refine start_ (n := 5) (S := fun w' => w'.cell? ⟨gb385, 0, none⟩ = some (.int .i64 t380) ∧ w'.cell? ⟨gb385, 1, none⟩ = some (.bool t381) ∧ w'.cell? ⟨gb385, 2, none⟩ = some (.slice Ao53 t382.length co53) ∧ w'.cell? ⟨gb359, 0, none⟩ = some (.int .i64 a1_0) ∧ w'.cell? ⟨gb359, 1, none⟩ = some (.bool a1_1) ∧ w'.cell? ⟨gb359, 2, none⟩ = some (.slice A1_2 l1_2.length c1_2)) (ds := []) #[false, false, false, false, false] (by kernel_rfl) rfl rfl ⟨(blk_cell BK385.out 0).trans rfl, (blk_cell BK385.out 1).trans rfl, (blk_cell BK385.out 2).trans rfl, (blk_cell BK359.out 0).trans rfl, (blk_cell BK359.out 1).trans rfl, (blk_cell BK359.out 2).trans rfl⟩ (fun hHeld => ?_)
        generalize w67.drew = w68 at HO_380002 HO_386002 HO392 BK358 BK359 BK379 BK385 HB hHeld ⊢
        refine take_ (i := 0) (N := some 53) (v := ?_) (a' := ?_) #[true, false, false, false, false] rfl rfl (by kernel_rfl) (fun _ _ _ h => h) (Or.inl ⟨by rfl, ?_⟩) hHeld ?_ ?_
        rotate_left
        ·rintro w' ⟨s0, s1, s2, s3, s4, s5⟩
         go_simp
         with_reducible rfl
        rotate_left
        ·simp only [Act.put, sI_, s0_, s1_, i64_w, i32_w]
         rfl
        refine take_ (i := 1) (N := some 54) (v := ?_) (a' := ?_) #[true, true, false, false, false] rfl rfl (by kernel_rfl) (fun _ _ _ h => h) (Or.inl ⟨by rfl, ?_⟩) hHeld ?_ ?_
        rotate_left
        ·rintro w' ⟨s0, s1, s2, s3, s4, s5⟩
         go_simp
         with_reducible rfl
        rotate_left
        ·simp only [Act.put, sI_, s0_, s1_, i64_w, i32_w]
         rfl
        refine one_ (i := 2) (N := some 55) #[true, true, true, false, false] rfl rfl (by kernel_rfl) (by decide) (fun K hK => ?_)
        refine goes_ Tryd.func9 (by kernel_rfl) rfl #[.agg #[.int .i64 a1_0, .bool a1_1, .slice A1_2 l1_2.length c1_2]] (by rfl) rfl rfl (by (try simp only [List.map_toArray, List.map_cons, List.map_nil]); (rfl)) ?_
        with_reducible refine (laws_toRow.calls kj24 a1_0 a1_1 _ _ l1_2 t394 t395 t396 _ ?side1 ?side2 A61.out).mono ?_
        (case side1 => repeat (exact (Kd.C_below HR1_2.out HB.out)))
        (case side2 => exact HC1_2.out)
        rintro e w69 ⟨v397, rfl, ho0, hb⟩
        refine ⟨_, rfl, ?_⟩
        have n0_ := A_.mk (Kd.R_elder' HO_380002.out (Kd.R_base ho0) hb)
        have n1_ := A_.mk (Kd.R_elder' HO_386002.out (Kd.R_base ho0) hb)
        have n2_ := A_.mk (Kd.R_elder' HO392.out (Kd.R_base ho0) hb)
        have n3_ := A_.mk (Kd.R_lower (Kd.R_new' (Kd.R_new' (Kd.R_new' ho0 (Kd.R_lt HO_380002.out)) (Kd.R_lt HO_386002.out)) (Kd.R_lt HO392.out)) (below_size HB.out))
        have n4_ := A_.mk (blk_below BK358.out hb)
        have n5_ := A_.mk (blk_below BK359.out hb)
        have n6_ := A_.mk (blk_below BK379.out hb)
        have n7_ := A_.mk (blk_below BK385.out hb)
        have n8_ := A_.mk (below_step HB.out hb)
        clear HO_380002
        clear HO_386002
        clear HO392
        clear BK358
        clear BK359
        clear BK379
        clear BK385
        clear HB
        have HO_380002 := n0_
        have HO_386002 := n1_
        have HO392 := n2_
        have HO398 := n3_
        have BK358 := n4_
        have BK359 := n5_
        have BK379 := n6_
        have BK385 := n7_
        have HB := n8_
        clear n0_ n1_ n2_ n3_ n4_ n5_ n6_ n7_ n8_
        (try clear hb)
        skip
        skip
        skip
        (try clear ho0)
        obtain ⟨Ao70, co70, eo70⟩ := Kd.R_slice HO398.out
        (subst eo70)
        refine hK.out _ _ ⟨(blk_cell BK385.out 0).trans rfl, (blk_cell BK385.out 1).trans rfl, (blk_cell BK385.out 2).trans rfl, (blk_cell BK359.out 0).trans rfl, (blk_cell BK359.out 1).trans rfl, (blk_cell BK359.out 2).trans rfl⟩ (fun hHeld => ?_)
        clear hK K
        refine norm_ (a' := ?_) ?_ ?_
        rotate_left
        ·show Act.put _ (some 55) _ = _
         simp only [Act.put, sI_, s0_, s1_, i64_w, i32_w]
         rfl
        refine one_ (i := 3) (N := some 56) #[true, true, true, true, false] rfl rfl (by kernel_rfl) (by decide) (fun K hK => ?_)
        refine goes_ Tryd.func12 (by kernel_rfl) rfl #[.agg #[.int .i64 t380, .bool t381, .slice Ao53 t382.length co53], .agg #[.int .i64 t394, .bool t395, .slice Ao70 t396.length co70]] (by rfl) rfl rfl (by (try simp only [List.map_toArray, List.map_cons, List.map_nil]); (rfl)) ?_
        with_reducible refine (laws_eqRow.calls kj24 t380 t381 _ _ t382 t394 t395 _ _ t396 true _ ?side1 ?side2 ?side3 ?side4 A62.out).mono ?_
        (case side1 => repeat (exact (Kd.R_reads' HO_386002.out).2.2))
        (case side2 => exact (Kd.R_reads' HO_386002.out).2.1)
        (case side3 => repeat (exact (Kd.R_reads' HO398.out).2.2))
        (case side4 => exact (Kd.R_reads' HO398.out).2.1)
        rintro e w71 ⟨rfl, hb⟩
        refine ⟨_, rfl, ?_⟩
        have n0_ := A_.mk (Kd.R_below HO_380002.out hb)
        have n1_ := A_.mk (Kd.R_below HO_386002.out hb)
        have n2_ := A_.mk (Kd.R_below HO392.out hb)
        have n3_ := A_.mk (Kd.R_below HO398.out hb)
        have n4_ := A_.mk (blk_below BK358.out hb)
        have n5_ := A_.mk (blk_below BK359.out hb)
        have n6_ := A_.mk (blk_below BK379.out hb)
        have n7_ := A_.mk (blk_below BK385.out hb)
        have n8_ := A_.mk (below_step HB.out hb)
        clear HO_380002
        clear HO_386002
        clear HO392
        clear HO398
        clear BK358
        clear BK359
        clear BK379
        clear BK385
        clear HB
        have HO_380002 := n0_
        have HO_386002 := n1_
        have HO392 := n2_
        have HO398 := n3_
        have BK358 := n4_
        have BK359 := n5_
        have BK379 := n6_
        have BK385 := n7_
        have HB := n8_
        clear n0_ n1_ n2_ n3_ n4_ n5_ n6_ n7_ n8_
        (try clear hb)
        skip
        skip
        skip
        refine hK.out _ _ ⟨(blk_cell BK385.out 0).trans rfl, (blk_cell BK385.out 1).trans rfl, (blk_cell BK385.out 2).trans rfl, (blk_cell BK359.out 0).trans rfl, (blk_cell BK359.out 1).trans rfl, (blk_cell BK359.out 2).trans rfl⟩ (fun hHeld => ?_)
        clear hK K
        refine norm_ (a' := ?_) ?_ ?_
        rotate_left
        ·show Act.put _ (some 56) _ = _
         simp only [Act.put, sI_, s0_, s1_, i64_w, i32_w]
         rfl
        refine pure_ (i := 4) (N := some 57) (v := ?_) (a' := ?_) #[true, true, true, true, true] rfl rfl (by kernel_rfl) (fun _ _ _ h => h) (Or.inl ⟨by rfl, ?_⟩) ?_ ?_
        rotate_left
        ·intro w'
         go_simp
         with_reducible rfl
        rotate_left
        ·simp only [Act.put, sI_, s0_, s1_, i64_w, i32_w]
         rfl
        refine done_ (by kernel_rfl) ?_
        try go_wp2
        go_ret
        exact ⟨by rfl, by repeat ((with_reducible (exact HB.out)))⟩
       ·replace c63 := Bool.eq_false_iff.mpr c63
        subst c63
        have H1 : (some false) = some true := by rw [if_neg (show ¬ (false = true) by decide)] at H; exact H
        clear H
        have H := H1
        clear H1
        exact absurd (Option.some.inj H) (by decide)
      ·replace c60 := Bool.eq_false_iff.mpr c60
       subst c60
       have H1 : (some false) = some true := by rw [if_neg (show ¬ (false = true) by decide)] at H; exact H
       clear H
       have H := H1
       clear H1
       exact absurd (Option.some.inj H) (by decide)

/-- THE ONE PURE STATEMENT of laws_FnExactIsFinal: yours. -/
def laws_FnExactIsFinal.Pure : Prop := ∀ (a0_0 : Int) (a0_1 : Bool) (l0_2 : List Int) (a1_0 : Int) (a1_1 : Bool) (l1_2 : List Int), (Lit.int .i64 a0_0).wf = true → l0_2.length ≤ maxLen → (∀ x ∈ l0_2, (Lit.int .i64 x).wf = true) → (Lit.int .i64 a1_0).wf = true → l1_2.length ≤ maxLen → (∀ x ∈ l1_2, (Lit.int .i64 x).wf = true) → ∃ k, laws_FnExactIsFinal.f k a0_0 a0_1 l0_2 a1_0 a1_1 l1_2 = some true
theorem laws_FnExactIsFinal.walk (P : laws_FnExactIsFinal.Pure) (a0_0 : Int) (a0_1 : Bool) (a0_2 : Option Addr) (len0_2 cap0_2 : Nat) (z0_2 : List Int) (a1_0 : Int) (a1_1 : Bool) (a1_2 : Option Addr) (len1_2 cap1_2 : Nat) (z1_2 : List Int) (w : World) (w0_0 : (Lit.int .i64 a0_0).wf = true) (w0_2 : (a0_2 = none ∧ len0_2 = 0 ∧ cap0_2 = 0 ∧ z0_2 = []) ∨ ∃ x, a0_2 = some x ∧ len0_2 ≤ cap0_2 ∧ cap0_2 ≤ maxLen ∧ z0_2.length = cap0_2 ∧ (∀ i, i < z0_2.length → w.cell? (x.add i) = some (.int .i64 (z0_2.getD i 0))) ∧ ∀ n ∈ z0_2, (Lit.int .i64 n).wf = true) (w1_0 : (Lit.int .i64 a1_0).wf = true) (w1_2 : (a1_2 = none ∧ len1_2 = 0 ∧ cap1_2 = 0 ∧ z1_2 = []) ∨ ∃ x, a1_2 = some x ∧ len1_2 ≤ cap1_2 ∧ cap1_2 ≤ maxLen ∧ z1_2.length = cap1_2 ∧ (∀ i, i < z1_2.length → w.cell? (x.add i) = some (.int .i64 (z1_2.getD i 0))) ∧ ∀ n ∈ z1_2, (Lit.int .i64 n).wf = true) (hT : XTab w) :
  Calls Tryd.prog 5 #[.agg #[.int .i64 a0_0, .bool a0_1, .slice a0_2 len0_2 cap0_2], .agg #[.int .i64 a1_0, .bool a1_1, .slice a1_2 len1_2 cap1_2]] w fun e w' => e = .returned (.bool true) ∧ Below w.heap.size w w' := by
 obtain ⟨l0_2, rfl, hr0_2, hm0_2, hw0_2, hc0_2⟩ := ReadsInt.ofRowC w0_2
 obtain ⟨l1_2, rfl, hr1_2, hm1_2, hw1_2, hc1_2⟩ := ReadsInt.ofRowC w1_2
 obtain ⟨k, h⟩ := P a0_0 a0_1 l0_2 a1_0 a1_1 l1_2 w0_0 hm0_2 hw0_2 w1_0 hm1_2 hw1_2
 refine (laws_FnExactIsFinal.calls k a0_0 a0_1 _ _ l0_2 a1_0 a1_1 _ _ l1_2 w (Kd.C_of_reads (d := (0 : Int)) (h1 := fun _ => rfl) hr0_2) hc0_2 (Kd.C_of_reads (d := (0 : Int)) (h1 := fun _ => rfl) hr1_2) hc1_2 hT h).mono ?_
 rintro e w' ⟨rfl, hd⟩
 exact ⟨rfl, hd⟩

end Go.Proofs.YtihifglmnjocfaaDoor.PFnExactIsFinal
