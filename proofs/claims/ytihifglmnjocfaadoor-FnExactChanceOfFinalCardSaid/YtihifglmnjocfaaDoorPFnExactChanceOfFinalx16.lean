/- Given functions as plain Lean functions, and that their calls answer these. -/
import Derived.Test.YtihifglmnjocfaaDoorPFnExactChanceOfFinalx0
import Derived.Test.YtihifglmnjocfaaDoorPFnExactChanceOfFinalx2
import Derived.Test.YtihifglmnjocfaaDoorPFnExactChanceOfFinalx10
import Derived.Test.YtihifglmnjocfaaDoorPFnExactChanceOfFinalx14
import Derived.Test.YtihifglmnjocfaaDoorPFnExactChanceOfFinalx15
namespace Go.Proofs.YtihifglmnjocfaaDoor.PFnExactChanceOfFinal
open Go.RowKit Go.Proofs.YtihifglmnjocfaaDoorW.PrintWords Go.Proofs.YtihifglmnjocfaaDoorW.PrintLast Go.Proofs.YtihifglmnjocfaaDoorW.PrintMore
attribute [local go_sem] max2_int min2_int max_two min_two max_three min_three max_four min_four
set_option maxHeartbeats 8000000
set_option maxRecDepth 100000
set_option linter.unusedVariables false
set_option linter.unusedSimpArgs false

/-! ### laws_FnExactChanceOfFinal: function 3 -/
def laws_FnExactChanceOfFinal.j0 : Nat → Bool → Int → Bool → List Int → Int → Bool → List Int → Int → Bool → List Int → Int → Bool → List Int → Option (Bool)
 | 0, _, _, _, _, _, _, _, _, _, _, _, _, _ => none
 | k + 1, x48, x365000, x365001, x365002, x366000, x366001, x366002, x388000, x388001, x388002, x394000, x394001, x394002 => if x48 = true then (some false) else ((laws_toRow.f k x365000 x365001 x365002).bind fun bt399 => ((laws_eqRow.f k x388000 x388001 x388002 bt399.1 bt399.2.1 bt399.2.2).bind fun t404 => (if t404 = true then ((laws_toRow.f k x366000 x366001 x366002).bind fun bt405 => ((laws_eqRow.f k x394000 x394001 x394002 bt405.1 bt405.2.1 bt405.2.2).bind fun t410 => (if t410 = true then (some true) else (some false)))) else (some false))))
def laws_FnExactChanceOfFinal.f (k : Nat) (a0_0 : Int) (a0_1 : Bool) (l0_2 : List Int) (a1_0 : Int) (a1_1 : Bool) (l1_2 : List Int) : Option (Bool) := (laws_szRow.f a0_0 a0_1 l0_2 1048576).bind fun t366 => (if t366 < 0 then (some true) else ((laws_szRow.f a1_0 a1_1 l1_2 t366).bind fun t367 => (if t367 < 0 then (some true) else ((laws_toRow.f k a0_0 a0_1 l0_2).bind fun bt368 => ((laws_toRow.f k a1_0 a1_1 l1_2).bind fun bt373 => ((spec_ChanceOfFinal.f k bt368.1 bt368.2.1 bt368.2.2 bt373.1 bt373.2.1 bt373.2.2).bind fun bt378 => ((laws_toRow.f k a0_0 a0_1 l0_2).bind fun bt382 => ((laws_toRow.f k a1_0 a1_1 l1_2).bind fun bt388 => ((impl_ChanceOfFinal.f k bt382.1 bt382.2.1 bt382.2.2 bt388.1 bt388.2.1 bt388.2.2).bind fun bt394 => ((laws_eqIntA2.f k bt394.1 bt394.2.1 bt378.1 bt378.2.1).bind fun t398 => (if t398 = true then (laws_FnExactChanceOfFinal.j0 k (bt394.2.2 != bt378.2.2) a0_0 a0_1 l0_2 a1_0 a1_1 l1_2 bt382.1 bt382.2.1 bt382.2.2 bt388.1 bt388.2.1 bt388.2.2) else (laws_FnExactChanceOfFinal.j0 k true a0_0 a0_1 l0_2 a1_0 a1_1 l1_2 bt382.1 bt382.2.1 bt382.2.2 bt388.1 bt388.2.1 bt388.2.2))))))))))))
theorem laws_FnExactChanceOfFinal.mono_l : ∀ k, (∀ y0 y1 y2 y3 y4 y5 y6 y7 y8 y9 y10 y11 y12, LeO (laws_FnExactChanceOfFinal.j0 k y0 y1 y2 y3 y4 y5 y6 y7 y8 y9 y10 y11 y12) (laws_FnExactChanceOfFinal.j0 (k + 1) y0 y1 y2 y3 y4 y5 y6 y7 y8 y9 y10 y11 y12))
 | 0 => fun _ _ _ _ _ _ _ _ _ _ _ _ _ r h => by simp [laws_FnExactChanceOfFinal.j0] at h
 | k + 1 => by
  have ih0 := laws_FnExactChanceOfFinal.mono_l k
  ·intro y0 y1 y2 y3 y4 y5 y6 y7 y8 y9 y10 y11 y12
   unfold laws_FnExactChanceOfFinal.j0
   repeat' first
   | (with_reducible exact ih0 _ _ _ _ _ _ _ _ _ _ _ _ _)
   | (with_reducible exact impl_ChanceOfFinal.mono _ _ _ _ _ _ _)
   | (with_reducible exact laws_eqIntA2.mono _ _ _ _ _)
   | (with_reducible exact laws_eqRow.mono _ _ _ _ _ _ _)
   | (with_reducible exact laws_toRow.mono _ _ _ _)
   | (with_reducible exact spec_ChanceOfFinal.mono _ _ _ _ _ _ _)
   | (with_reducible exact LeO.refl _)
   | (with_reducible exact LeO.none _)
   | (with_reducible refine LeO.ite ?_ ?_)
   | (with_reducible refine LeO.bind ?_ (fun _ => ?_))
   | exact ih0 _ _ _ _ _ _ _ _ _ _ _ _ _
   | exact impl_ChanceOfFinal.mono _ _ _ _ _ _ _
   | exact laws_eqIntA2.mono _ _ _ _ _
   | exact laws_eqRow.mono _ _ _ _ _ _ _
   | exact laws_toRow.mono _ _ _ _
   | exact spec_ChanceOfFinal.mono _ _ _ _ _ _ _
   | exact LeO.none _
   | refine LeO.ite ?_ ?_
   | refine LeO.bind ?_ (fun _ => ?_)
theorem laws_FnExactChanceOfFinal.mono : ∀ a0 a1 a2 a3 a4 a5 k, LeO (laws_FnExactChanceOfFinal.f k a0 a1 a2 a3 a4 a5) (laws_FnExactChanceOfFinal.f (k + 1) a0 a1 a2 a3 a4 a5) := by
 intro a0 a1 a2 a3 a4 a5 k
 have ih0 := laws_FnExactChanceOfFinal.mono_l k
 unfold laws_FnExactChanceOfFinal.f
 repeat' first
   | (with_reducible exact ih0 _ _ _ _ _ _ _ _ _ _ _ _ _)
   | (with_reducible exact impl_ChanceOfFinal.mono _ _ _ _ _ _ _)
   | (with_reducible exact laws_eqIntA2.mono _ _ _ _ _)
   | (with_reducible exact laws_eqRow.mono _ _ _ _ _ _ _)
   | (with_reducible exact laws_toRow.mono _ _ _ _)
   | (with_reducible exact spec_ChanceOfFinal.mono _ _ _ _ _ _ _)
   | (with_reducible exact LeO.refl _)
   | (with_reducible exact LeO.none _)
   | (with_reducible refine LeO.ite ?_ ?_)
   | (with_reducible refine LeO.bind ?_ (fun _ => ?_))
   | exact ih0 _ _ _ _ _ _ _ _ _ _ _ _ _
   | exact impl_ChanceOfFinal.mono _ _ _ _ _ _ _
   | exact laws_eqIntA2.mono _ _ _ _ _
   | exact laws_eqRow.mono _ _ _ _ _ _ _
   | exact laws_toRow.mono _ _ _ _
   | exact spec_ChanceOfFinal.mono _ _ _ _ _ _ _
   | exact LeO.none _
   | refine LeO.ite ?_ ?_
   | refine LeO.bind ?_ (fun _ => ?_)
theorem laws_FnExactChanceOfFinal.j0_no : ∀ k y1 y2 y3 y4 y5 y6 y7 y8 y9 y10 y11 y12, ¬ laws_FnExactChanceOfFinal.j0 k true y1 y2 y3 y4 y5 y6 y7 y8 y9 y10 y11 y12 = some true := by
 intro k
 cases k <;> intros <;> simp [laws_FnExactChanceOfFinal.j0]
def laws_FnExactChanceOfFinal.T8 : Bool × List (List Nat × List Nat) := (true, [([], []), ([0], [0]), ([], []), ([2, 1], [2]), ([1, 3, 3], [1, 3]), ([4], [4]), ([5], [5]), ([5], [5]), ([], []), ([8, 6, 4, 0, 1, 2, 3, 4, 5, 6, 8], [6, 8]), ([7, 9, 0, 1, 2, 3, 4, 5, 6, 7, 8, 9], [7])])
def laws_FnExactChanceOfFinal.B8 : List Nat := [0, 1, 0, 7, 15, 31, 63, 63, 0, 383, 1023]
theorem laws_FnExactChanceOfFinal.tab8 : rtab .any (opsOf Tryd.f3 8) = laws_FnExactChanceOfFinal.T8 := by kernel_rfl
theorem laws_FnExactChanceOfFinal.bits8 : waitsOk laws_FnExactChanceOfFinal.T8.2 laws_FnExactChanceOfFinal.B8 = true := by kernel_rfl
theorem laws_FnExactChanceOfFinal.calls (k : Nat) (a0_0 : Int) (a0_1 : Bool) (A0_2 : Option Addr) (c0_2 : Nat) (l0_2 : List Int) (a1_0 : Int) (a1_1 : Bool) (A1_2 : Option Addr) (c1_2 : Nat) (l1_2 : List Int) (w : World) (hr0_2 : Kd.C (Kd.int .i64) w A0_2 l0_2.length l0_2) (hc0_2 : l0_2.length ≤ c0_2) (hr1_2 : Kd.C (Kd.int .i64) w A1_2 l1_2.length l1_2) (hc1_2 : l1_2.length ≤ c1_2) (hT : XTab w) (h : laws_FnExactChanceOfFinal.f k a0_0 a0_1 l0_2 a1_0 a1_1 l1_2 = some true) :
  Calls Tryd.prog 3 #[.agg #[.int .i64 a0_0, .bool a0_1, .slice A0_2 l0_2.length c0_2], .agg #[.int .i64 a1_0, .bool a1_1, .slice A1_2 l1_2.length c1_2]] w fun e w' => e = .returned (.bool true) ∧ Below w.heap.size w w' := by
 have hu24 := Tryd.underlying24
 have hu26 := Tryd.underlying26
 have hu29 := Tryd.underlying29
 have HR0_2 := A_.mk hr0_2
 have HC0_2 := A_.mk hc0_2
 clear hr0_2 hc0_2
 have HR1_2 := A_.mk hr1_2
 have HC1_2 := A_.mk hc1_2
 clear hr1_2 hc1_2
 have HB := A_.mk (Below.refl w.heap.size w)
 have HT := A_.mk hT
 clear hT
 have H : ((laws_szRow.f a0_0 a0_1 l0_2 1048576).bind fun t366 => (if t366 < 0 then (some true) else ((laws_szRow.f a1_0 a1_1 l1_2 t366).bind fun t367 => (if t367 < 0 then (some true) else ((laws_toRow.f k a0_0 a0_1 l0_2).bind fun bt368 => ((laws_toRow.f k a1_0 a1_1 l1_2).bind fun bt373 => ((spec_ChanceOfFinal.f k bt368.1 bt368.2.1 bt368.2.2 bt373.1 bt373.2.1 bt373.2.2).bind fun bt378 => ((laws_toRow.f k a0_0 a0_1 l0_2).bind fun bt382 => ((laws_toRow.f k a1_0 a1_1 l1_2).bind fun bt388 => ((impl_ChanceOfFinal.f k bt382.1 bt382.2.1 bt382.2.2 bt388.1 bt388.2.1 bt388.2.2).bind fun bt394 => ((laws_eqIntA2.f k bt394.1 bt394.2.1 bt378.1 bt378.2.1).bind fun t398 => (if t398 = true then (laws_FnExactChanceOfFinal.j0 k (bt394.2.2 != bt378.2.2) a0_0 a0_1 l0_2 a1_0 a1_1 l1_2 bt382.1 bt382.2.1 bt382.2.2 bt388.1 bt388.2.1 bt388.2.2) else (laws_FnExactChanceOfFinal.j0 k true a0_0 a0_1 l0_2 a1_0 a1_1 l1_2 bt382.1 bt382.2.1 bt382.2.2 bt388.1 bt388.2.1 bt388.2.2))))))))))))) = some true := h
 clear h
 replace H := Option.bind_eq_some_iff.mp H
 obtain ⟨t366, A30, H⟩ := H
 replace H : (if t366 < 0 then (some true) else ((laws_szRow.f a1_0 a1_1 l1_2 t366).bind fun t367 => (if t367 < 0 then (some true) else ((laws_toRow.f k a0_0 a0_1 l0_2).bind fun bt368 => ((laws_toRow.f k a1_0 a1_1 l1_2).bind fun bt373 => ((spec_ChanceOfFinal.f k bt368.1 bt368.2.1 bt368.2.2 bt373.1 bt373.2.1 bt373.2.2).bind fun bt378 => ((laws_toRow.f k a0_0 a0_1 l0_2).bind fun bt382 => ((laws_toRow.f k a1_0 a1_1 l1_2).bind fun bt388 => ((impl_ChanceOfFinal.f k bt382.1 bt382.2.1 bt382.2.2 bt388.1 bt388.2.1 bt388.2.2).bind fun bt394 => ((laws_eqIntA2.f k bt394.1 bt394.2.1 bt378.1 bt378.2.1).bind fun t398 => (if t398 = true then (laws_FnExactChanceOfFinal.j0 k (bt394.2.2 != bt378.2.2) a0_0 a0_1 l0_2 a1_0 a1_1 l1_2 bt382.1 bt382.2.1 bt382.2.2 bt388.1 bt388.2.1 bt388.2.2) else (laws_FnExactChanceOfFinal.j0 k true a0_0 a0_1 l0_2 a1_0 a1_1 l1_2 bt382.1 bt382.2.1 bt382.2.2 bt388.1 bt388.2.1 bt388.2.2)))))))))))) = some true := H
 have A3 := A_.mk A30
 clear A30
 by_cases c4 : t366 < 0
 ·rw [if_pos c4] at H
  have c4b0 : decide (t366 < 0) = true := decide_eq_true c4
  clear c4
  clear H
  go_enter Tryd.func3, Tryd.ntmps3
  go_wp2_with (first | ((with_reducible refine gate_dst (N := 2) rfl ?_); refine box_event ?hg (N := 2) ?hd (cs := #[.int .i64 a0_0, .bool a0_1, .slice A0_2 l0_2.length c0_2]) (t := 24) ?hr ?_; (case hd => rfl); (case hg => rfl); (case hr => (go_simp; done)); intro gb364 hg w5 hbox hb; have BK364 := A_.mk (hbox); have GW364 := A_.mk ((by rw [hg]; exact (below_size HB.out) : w.heap.size ≤ gb364)); have GE364 := A_.mk ((by rw [hg]; exact (below_size HB.out) : w.heap.size ≤ gb364)); replace HB := A_.mk (below_step HB.out hb); clear hb hbox hg) | ((with_reducible refine gate_dst (N := 3) rfl ?_); refine box_event ?hg (N := 3) ?hd (cs := #[.int .i64 a1_0, .bool a1_1, .slice A1_2 l1_2.length c1_2]) (t := 24) ?hr ?_; (case hd => rfl); (case hg => rfl); (case hr => (go_simp; done)); intro gb365 hg w6 hbox hb; have BK365 := A_.mk (hbox); have GW365 := A_.mk ((by rw [hg]; exact (below_size HB.out) : w.heap.size ≤ gb365)); have GE365 := A_.mk ((by rw [hg]; exact (below_size HB.out) : w.heap.size ≤ gb365)); replace HB := A_.mk (below_step HB.out hb); have NB364_365 := A_.mk ((by rw [hg]; exact Nat.ne_of_lt (blk_lt BK364.out) : gb364 ≠ gb365)); have NB365_364 := A_.mk ((by rw [hg]; exact Nat.ne_of_gt (blk_lt BK364.out) : gb365 ≠ gb364)); replace BK364 := A_.mk (blk_below BK364.out hb); clear hb hbox hg; have hnb7 := NB364_365.out; have hnc7 := NB365_364.out; have hcz8_0 : w6.cell? ⟨gb364, 0, none⟩ = some (.int .i64 a0_0) := (blk_cell BK364.out 0).trans rfl; have hcz8_1 : w6.cell? ⟨gb364, 1, none⟩ = some (.bool a0_1) := (blk_cell BK364.out 1).trans rfl; have hcz8_2 : w6.cell? ⟨gb364, 2, none⟩ = some (.slice A0_2 l0_2.length c0_2) := (blk_cell BK364.out 2).trans rfl; have hfz8_0 := blk_frozen BK364.out 0; have hfz8_1 := blk_frozen BK364.out 1; have hfz8_2 := blk_frozen BK364.out 2) | ((with_reducible refine gate_callee (f := 7) rfl ?_); refine goesL_ (some 14) rfl rfl Tryd.func7 (by kernel_rfl) rfl #[.agg #[.int .i64 a0_0, .bool a0_1, .slice A0_2 l0_2.length c0_2], .int .i64 1048576] rfl (by (try simp only [List.map_toArray, List.map_cons, List.map_nil]); (rfl)) ?_; (with_reducible refine (laws_szRow.calls a0_0 a0_1 _ _ l0_2 1048576 t366 _ ?side1 ?side2 A3.out).mono ?_); (case side1 => repeat (exact (Kd.C_below HR0_2.out HB.out))); (case side2 => exact HC0_2.out); rintro e w9 ⟨rfl, hb⟩; refine ⟨_, rfl, ?_⟩; replace BK364 := A_.mk (blk_below BK364.out hb); replace BK365 := A_.mk (blk_below BK365.out hb); replace HB := A_.mk (below_step HB.out hb); (try clear hb)))
  go_ret
  exact ⟨by rfl, by repeat ((with_reducible (exact HB.out)))⟩
 ·rw [if_neg c4] at H
  have c4b0 : decide (t366 < 0) = false := decide_eq_false c4
  clear c4
  replace H := Option.bind_eq_some_iff.mp H
  obtain ⟨t367, A100, H⟩ := H
  replace H : (if t367 < 0 then (some true) else ((laws_toRow.f k a0_0 a0_1 l0_2).bind fun bt368 => ((laws_toRow.f k a1_0 a1_1 l1_2).bind fun bt373 => ((spec_ChanceOfFinal.f k bt368.1 bt368.2.1 bt368.2.2 bt373.1 bt373.2.1 bt373.2.2).bind fun bt378 => ((laws_toRow.f k a0_0 a0_1 l0_2).bind fun bt382 => ((laws_toRow.f k a1_0 a1_1 l1_2).bind fun bt388 => ((impl_ChanceOfFinal.f k bt382.1 bt382.2.1 bt382.2.2 bt388.1 bt388.2.1 bt388.2.2).bind fun bt394 => ((laws_eqIntA2.f k bt394.1 bt394.2.1 bt378.1 bt378.2.1).bind fun t398 => (if t398 = true then (laws_FnExactChanceOfFinal.j0 k (bt394.2.2 != bt378.2.2) a0_0 a0_1 l0_2 a1_0 a1_1 l1_2 bt382.1 bt382.2.1 bt382.2.2 bt388.1 bt388.2.1 bt388.2.2) else (laws_FnExactChanceOfFinal.j0 k true a0_0 a0_1 l0_2 a1_0 a1_1 l1_2 bt382.1 bt382.2.1 bt382.2.2 bt388.1 bt388.2.1 bt388.2.2)))))))))) = some true := H
  have A10 := A_.mk A100
  clear A100
  by_cases c11 : t367 < 0
  ·rw [if_pos c11] at H
   have c11b0 : decide (t367 < 0) = true := decide_eq_true c11
   clear c11
   clear H
   go_enter Tryd.func3, Tryd.ntmps3
   go_wp2_with (first | ((with_reducible refine gate_dst (N := 2) rfl ?_); refine box_event ?hg (N := 2) ?hd (cs := #[.int .i64 a0_0, .bool a0_1, .slice A0_2 l0_2.length c0_2]) (t := 24) ?hr ?_; (case hd => rfl); (case hg => rfl); (case hr => (go_simp; done)); intro gb364 hg w12 hbox hb; have BK364 := A_.mk (hbox); have GW364 := A_.mk ((by rw [hg]; exact (below_size HB.out) : w.heap.size ≤ gb364)); have GE364 := A_.mk ((by rw [hg]; exact (below_size HB.out) : w.heap.size ≤ gb364)); replace HB := A_.mk (below_step HB.out hb); clear hb hbox hg) | ((with_reducible refine gate_dst (N := 3) rfl ?_); refine box_event ?hg (N := 3) ?hd (cs := #[.int .i64 a1_0, .bool a1_1, .slice A1_2 l1_2.length c1_2]) (t := 24) ?hr ?_; (case hd => rfl); (case hg => rfl); (case hr => (go_simp; done)); intro gb365 hg w13 hbox hb; have BK365 := A_.mk (hbox); have GW365 := A_.mk ((by rw [hg]; exact (below_size HB.out) : w.heap.size ≤ gb365)); have GE365 := A_.mk ((by rw [hg]; exact (below_size HB.out) : w.heap.size ≤ gb365)); replace HB := A_.mk (below_step HB.out hb); have NB364_365 := A_.mk ((by rw [hg]; exact Nat.ne_of_lt (blk_lt BK364.out) : gb364 ≠ gb365)); have NB365_364 := A_.mk ((by rw [hg]; exact Nat.ne_of_gt (blk_lt BK364.out) : gb365 ≠ gb364)); replace BK364 := A_.mk (blk_below BK364.out hb); clear hb hbox hg; have hnb14 := NB364_365.out; have hnc14 := NB365_364.out; have hcz15_0 : w13.cell? ⟨gb364, 0, none⟩ = some (.int .i64 a0_0) := (blk_cell BK364.out 0).trans rfl; have hcz15_1 : w13.cell? ⟨gb364, 1, none⟩ = some (.bool a0_1) := (blk_cell BK364.out 1).trans rfl; have hcz15_2 : w13.cell? ⟨gb364, 2, none⟩ = some (.slice A0_2 l0_2.length c0_2) := (blk_cell BK364.out 2).trans rfl; have hfz15_0 := blk_frozen BK364.out 0; have hfz15_1 := blk_frozen BK364.out 1; have hfz15_2 := blk_frozen BK364.out 2) | ((with_reducible refine gate_callee (f := 7) rfl ?_); refine goesL_ (some 14) rfl rfl Tryd.func7 (by kernel_rfl) rfl #[.agg #[.int .i64 a0_0, .bool a0_1, .slice A0_2 l0_2.length c0_2], .int .i64 1048576] rfl (by (try simp only [List.map_toArray, List.map_cons, List.map_nil]); (rfl)) ?_; (with_reducible refine (laws_szRow.calls a0_0 a0_1 _ _ l0_2 1048576 t366 _ ?side1 ?side2 A3.out).mono ?_); (case side1 => repeat (exact (Kd.C_below HR0_2.out HB.out))); (case side2 => exact HC0_2.out); rintro e w16 ⟨rfl, hb⟩; refine ⟨_, rfl, ?_⟩; replace BK364 := A_.mk (blk_below BK364.out hb); replace BK365 := A_.mk (blk_below BK365.out hb); replace HB := A_.mk (below_step HB.out hb); (try clear hb); have hcz17_0 : w16.cell? ⟨gb365, 0, none⟩ = some (.int .i64 a1_0) := (blk_cell BK365.out 0).trans rfl; have hcz17_1 : w16.cell? ⟨gb365, 1, none⟩ = some (.bool a1_1) := (blk_cell BK365.out 1).trans rfl; have hcz17_2 : w16.cell? ⟨gb365, 2, none⟩ = some (.slice A1_2 l1_2.length c1_2) := (blk_cell BK365.out 2).trans rfl; have hfz17_0 := blk_frozen BK365.out 0; have hfz17_1 := blk_frozen BK365.out 1; have hfz17_2 := blk_frozen BK365.out 2) | ((with_reducible refine gate_callee (f := 7) rfl ?_); refine goesL_ (some 19) rfl rfl Tryd.func7 (by kernel_rfl) rfl #[.agg #[.int .i64 a1_0, .bool a1_1, .slice A1_2 l1_2.length c1_2], .int .i64 t366] rfl (by (try simp only [List.map_toArray, List.map_cons, List.map_nil]); (rfl)) ?_; (with_reducible refine (laws_szRow.calls a1_0 a1_1 _ _ l1_2 t366 t367 _ ?side1 ?side2 A10.out).mono ?_); (case side1 => repeat (exact (Kd.C_below HR1_2.out HB.out))); (case side2 => exact HC1_2.out); rintro e w18 ⟨rfl, hb⟩; refine ⟨_, rfl, ?_⟩; replace BK364 := A_.mk (blk_below BK364.out hb); replace BK365 := A_.mk (blk_below BK365.out hb); replace HB := A_.mk (below_step HB.out hb); (try clear hb)))
   go_ret
   exact ⟨by rfl, by repeat ((with_reducible (exact HB.out)))⟩
  ·rw [if_neg c11] at H
   have c11b0 : decide (t367 < 0) = false := decide_eq_false c11
   clear c11
   replace H := Option.bind_eq_some_iff.mp H
   obtain ⟨⟨t368, t369, t370⟩, A190, H⟩ := H
   replace H : ((laws_toRow.f k a1_0 a1_1 l1_2).bind fun bt373 => ((spec_ChanceOfFinal.f k t368 t369 t370 bt373.1 bt373.2.1 bt373.2.2).bind fun bt378 => ((laws_toRow.f k a0_0 a0_1 l0_2).bind fun bt382 => ((laws_toRow.f k a1_0 a1_1 l1_2).bind fun bt388 => ((impl_ChanceOfFinal.f k bt382.1 bt382.2.1 bt382.2.2 bt388.1 bt388.2.1 bt388.2.2).bind fun bt394 => ((laws_eqIntA2.f k bt394.1 bt394.2.1 bt378.1 bt378.2.1).bind fun t398 => (if t398 = true then (laws_FnExactChanceOfFinal.j0 k (bt394.2.2 != bt378.2.2) a0_0 a0_1 l0_2 a1_0 a1_1 l1_2 bt382.1 bt382.2.1 bt382.2.2 bt388.1 bt388.2.1 bt388.2.2) else (laws_FnExactChanceOfFinal.j0 k true a0_0 a0_1 l0_2 a1_0 a1_1 l1_2 bt382.1 bt382.2.1 bt382.2.2 bt388.1 bt388.2.1 bt388.2.2)))))))) = some true := H
   have A19 := A_.mk A190
   clear A190
   replace H := Option.bind_eq_some_iff.mp H
   obtain ⟨⟨t373, t374, t375⟩, A200, H⟩ := H
   replace H : ((spec_ChanceOfFinal.f k t368 t369 t370 t373 t374 t375).bind fun bt378 => ((laws_toRow.f k a0_0 a0_1 l0_2).bind fun bt382 => ((laws_toRow.f k a1_0 a1_1 l1_2).bind fun bt388 => ((impl_ChanceOfFinal.f k bt382.1 bt382.2.1 bt382.2.2 bt388.1 bt388.2.1 bt388.2.2).bind fun bt394 => ((laws_eqIntA2.f k bt394.1 bt394.2.1 bt378.1 bt378.2.1).bind fun t398 => (if t398 = true then (laws_FnExactChanceOfFinal.j0 k (bt394.2.2 != bt378.2.2) a0_0 a0_1 l0_2 a1_0 a1_1 l1_2 bt382.1 bt382.2.1 bt382.2.2 bt388.1 bt388.2.1 bt388.2.2) else (laws_FnExactChanceOfFinal.j0 k true a0_0 a0_1 l0_2 a1_0 a1_1 l1_2 bt382.1 bt382.2.1 bt382.2.2 bt388.1 bt388.2.1 bt388.2.2))))))) = some true := H
   have A20 := A_.mk A200
   clear A200
   replace H := Option.bind_eq_some_iff.mp H
   obtain ⟨⟨t378, t379, t380⟩, A210, H⟩ := H
   replace H : ((laws_toRow.f k a0_0 a0_1 l0_2).bind fun bt382 => ((laws_toRow.f k a1_0 a1_1 l1_2).bind fun bt388 => ((impl_ChanceOfFinal.f k bt382.1 bt382.2.1 bt382.2.2 bt388.1 bt388.2.1 bt388.2.2).bind fun bt394 => ((laws_eqIntA2.f k bt394.1 bt394.2.1 t378 t379).bind fun t398 => (if t398 = true then (laws_FnExactChanceOfFinal.j0 k (bt394.2.2 != t380) a0_0 a0_1 l0_2 a1_0 a1_1 l1_2 bt382.1 bt382.2.1 bt382.2.2 bt388.1 bt388.2.1 bt388.2.2) else (laws_FnExactChanceOfFinal.j0 k true a0_0 a0_1 l0_2 a1_0 a1_1 l1_2 bt382.1 bt382.2.1 bt382.2.2 bt388.1 bt388.2.1 bt388.2.2)))))) = some true := H
   have A21 := A_.mk A210
   clear A210
   replace H := Option.bind_eq_some_iff.mp H
   obtain ⟨⟨t382, t383, t384⟩, A220, H⟩ := H
   replace H : ((laws_toRow.f k a1_0 a1_1 l1_2).bind fun bt388 => ((impl_ChanceOfFinal.f k t382 t383 t384 bt388.1 bt388.2.1 bt388.2.2).bind fun bt394 => ((laws_eqIntA2.f k bt394.1 bt394.2.1 t378 t379).bind fun t398 => (if t398 = true then (laws_FnExactChanceOfFinal.j0 k (bt394.2.2 != t380) a0_0 a0_1 l0_2 a1_0 a1_1 l1_2 t382 t383 t384 bt388.1 bt388.2.1 bt388.2.2) else (laws_FnExactChanceOfFinal.j0 k true a0_0 a0_1 l0_2 a1_0 a1_1 l1_2 t382 t383 t384 bt388.1 bt388.2.1 bt388.2.2))))) = some true := H
   have A22 := A_.mk A220
   clear A220
   replace H := Option.bind_eq_some_iff.mp H
   obtain ⟨⟨t388, t389, t390⟩, A230, H⟩ := H
   replace H : ((impl_ChanceOfFinal.f k t382 t383 t384 t388 t389 t390).bind fun bt394 => ((laws_eqIntA2.f k bt394.1 bt394.2.1 t378 t379).bind fun t398 => (if t398 = true then (laws_FnExactChanceOfFinal.j0 k (bt394.2.2 != t380) a0_0 a0_1 l0_2 a1_0 a1_1 l1_2 t382 t383 t384 t388 t389 t390) else (laws_FnExactChanceOfFinal.j0 k true a0_0 a0_1 l0_2 a1_0 a1_1 l1_2 t382 t383 t384 t388 t389 t390)))) = some true := H
   have A23 := A_.mk A230
   clear A230
   replace H := Option.bind_eq_some_iff.mp H
   obtain ⟨⟨t394, t395, t396⟩, A240, H⟩ := H
   replace H : ((laws_eqIntA2.f k t394 t395 t378 t379).bind fun t398 => (if t398 = true then (laws_FnExactChanceOfFinal.j0 k (t396 != t380) a0_0 a0_1 l0_2 a1_0 a1_1 l1_2 t382 t383 t384 t388 t389 t390) else (laws_FnExactChanceOfFinal.j0 k true a0_0 a0_1 l0_2 a1_0 a1_1 l1_2 t382 t383 t384 t388 t389 t390))) = some true := H
   have A24 := A_.mk A240
   clear A240
   have HC25 := A_.mk H
   clear H
   go_enter Tryd.func3, Tryd.ntmps3
   try go_wp2_with (first | ((with_reducible refine gate_dst (N := 2) rfl ?_); refine box_event ?hg (N := 2) ?hd (cs := #[.int .i64 a0_0, .bool a0_1, .slice A0_2 l0_2.length c0_2]) (t := 24) ?hr ?_; (case hd => rfl); (case hg => rfl); (case hr => (go_simp; done)); intro gb364 hg w26 hbox hb; have BK364 := A_.mk (hbox); have GW364 := A_.mk ((by rw [hg]; exact (below_size HB.out) : w.heap.size ≤ gb364)); have GE364 := A_.mk ((by rw [hg]; exact (below_size HB.out) : w.heap.size ≤ gb364)); replace HB := A_.mk (below_step HB.out hb); clear hb hbox hg) | ((with_reducible refine gate_dst (N := 3) rfl ?_); refine box_event ?hg (N := 3) ?hd (cs := #[.int .i64 a1_0, .bool a1_1, .slice A1_2 l1_2.length c1_2]) (t := 24) ?hr ?_; (case hd => rfl); (case hg => rfl); (case hr => (go_simp; done)); intro gb365 hg w27 hbox hb; have BK365 := A_.mk (hbox); have GW365 := A_.mk ((by rw [hg]; exact (below_size HB.out) : w.heap.size ≤ gb365)); have GE365 := A_.mk ((by rw [hg]; exact (below_size HB.out) : w.heap.size ≤ gb365)); replace HB := A_.mk (below_step HB.out hb); have NB364_365 := A_.mk ((by rw [hg]; exact Nat.ne_of_lt (blk_lt BK364.out) : gb364 ≠ gb365)); have NB365_364 := A_.mk ((by rw [hg]; exact Nat.ne_of_gt (blk_lt BK364.out) : gb365 ≠ gb364)); replace BK364 := A_.mk (blk_below BK364.out hb); clear hb hbox hg; have hnb28 := NB364_365.out; have hnc28 := NB365_364.out; have hcz29_0 : w27.cell? ⟨gb364, 0, none⟩ = some (.int .i64 a0_0) := (blk_cell BK364.out 0).trans rfl; have hcz29_1 : w27.cell? ⟨gb364, 1, none⟩ = some (.bool a0_1) := (blk_cell BK364.out 1).trans rfl; have hcz29_2 : w27.cell? ⟨gb364, 2, none⟩ = some (.slice A0_2 l0_2.length c0_2) := (blk_cell BK364.out 2).trans rfl; have hfz29_0 := blk_frozen BK364.out 0; have hfz29_1 := blk_frozen BK364.out 1; have hfz29_2 := blk_frozen BK364.out 2) | ((with_reducible refine gate_callee (f := 7) rfl ?_); refine goesL_ (some 14) rfl rfl Tryd.func7 (by kernel_rfl) rfl #[.agg #[.int .i64 a0_0, .bool a0_1, .slice A0_2 l0_2.length c0_2], .int .i64 1048576] rfl (by (try simp only [List.map_toArray, List.map_cons, List.map_nil]); (rfl)) ?_; (with_reducible refine (laws_szRow.calls a0_0 a0_1 _ _ l0_2 1048576 t366 _ ?side1 ?side2 A3.out).mono ?_); (case side1 => repeat (exact (Kd.C_below HR0_2.out HB.out))); (case side2 => exact HC0_2.out); rintro e w30 ⟨rfl, hb⟩; refine ⟨_, rfl, ?_⟩; replace BK364 := A_.mk (blk_below BK364.out hb); replace BK365 := A_.mk (blk_below BK365.out hb); replace HB := A_.mk (below_step HB.out hb); (try clear hb); have hcz31_0 : w30.cell? ⟨gb365, 0, none⟩ = some (.int .i64 a1_0) := (blk_cell BK365.out 0).trans rfl; have hcz31_1 : w30.cell? ⟨gb365, 1, none⟩ = some (.bool a1_1) := (blk_cell BK365.out 1).trans rfl; have hcz31_2 : w30.cell? ⟨gb365, 2, none⟩ = some (.slice A1_2 l1_2.length c1_2) := (blk_cell BK365.out 2).trans rfl; have hfz31_0 := blk_frozen BK365.out 0; have hfz31_1 := blk_frozen BK365.out 1; have hfz31_2 := blk_frozen BK365.out 2) | ((with_reducible refine gate_callee (f := 7) rfl ?_); refine goesL_ (some 19) rfl rfl Tryd.func7 (by kernel_rfl) rfl #[.agg #[.int .i64 a1_0, .bool a1_1, .slice A1_2 l1_2.length c1_2], .int .i64 t366] rfl (by (try simp only [List.map_toArray, List.map_cons, List.map_nil]); (rfl)) ?_; (with_reducible refine (laws_szRow.calls a1_0 a1_1 _ _ l1_2 t366 t367 _ ?side1 ?side2 A10.out).mono ?_); (case side1 => repeat (exact (Kd.C_below HR1_2.out HB.out))); (case side2 => exact HC1_2.out); rintro e w32 ⟨rfl, hb⟩; refine ⟨_, rfl, ?_⟩; replace BK364 := A_.mk (blk_below BK364.out hb); replace BK365 := A_.mk (blk_below BK365.out hb); replace HB := A_.mk (below_step HB.out hb); (try clear hb)))
   replace BK364 := A_.mk (blk_drew BK364.out)
   replace BK365 := A_.mk (blk_drew BK365.out)
   replace HB := A_.mk (below_drew1 HB.out)
   refine start_ (n := 11) (S := fun w' => w'.cell? ⟨gb364, 0, none⟩ = some (.int .i64 a0_0) ∧ w'.cell? ⟨gb364, 1, none⟩ = some (.bool a0_1) ∧ w'.cell? ⟨gb364, 2, none⟩ = some (.slice A0_2 l0_2.length c0_2) ∧ w'.cell? ⟨gb365, 0, none⟩ = some (.int .i64 a1_0) ∧ w'.cell? ⟨gb365, 1, none⟩ = some (.bool a1_1) ∧ w'.cell? ⟨gb365, 2, none⟩ = some (.slice A1_2 l1_2.length c1_2)) (ds := []) (m_ 11 0) (by kernel_rfl) rfl rfl ⟨(blk_cell BK364.out 0).trans rfl, (blk_cell BK364.out 1).trans rfl, (blk_cell BK364.out 2).trans rfl, (blk_cell BK365.out 0).trans rfl, (blk_cell BK365.out 1).trans rfl, (blk_cell BK365.out 2).trans rfl⟩ (fun hHeld => ?_); refine with_tabW laws_FnExactChanceOfFinal.tab8 laws_FnExactChanceOfFinal.bits8 (fun HT_ HW_ => ?_)
   generalize w32.drew = w33 at BK364 BK365 HB hHeld ⊢
   refine take_ (i := 0) (N := some 23) (v := ?_) (a' := ?_) (m_ 11 1) rfl rfl (take_ofW HT_.out HW_.out (by kernel_rfl)) (fun _ _ _ h => h) (Or.inl ⟨by rfl, ?_⟩) hHeld ?_ ?_
   rotate_left
   ·rintro w' ⟨s0, s1, s2, s3, s4, s5⟩
    go_simp
    with_reducible rfl
   rotate_left
   ·simp only [Act.put, sI_, s0_, s1_, i64_w, i32_w]
    rfl
   refine take_ (i := 2) (N := some 25) (v := ?_) (a' := ?_) (m_ 11 5) rfl rfl (take_ofW HT_.out HW_.out (by kernel_rfl)) (fun _ _ _ h => h) (Or.inl ⟨by rfl, ?_⟩) hHeld ?_ ?_
   rotate_left
   ·rintro w' ⟨s0, s1, s2, s3, s4, s5⟩
    go_simp
    with_reducible rfl
   rotate_left
   ·simp only [Act.put, sI_, s0_, s1_, i64_w, i32_w]
    rfl
   refine join_ (σ := Value × Value × Nat) 2 (m_ 11 511) (fun s_ => [(24, .agg #[.int .i64 t368, .bool t369, s_.1]), (26, .agg #[.int .i64 t373, .bool t374, s_.2.1]), (27, .tuple #[.agg #[.int .i64 t378, .int .i64 t379], .bool t380]), (6, .pointer (some ⟨s_.2.2, 0, none⟩)), (22, .tuple #[.agg #[.int .i64 t378, .int .i64 t379], .bool t380]), (28, .agg #[.int .i64 t378, .int .i64 t379]), (29, .bool t380)]) (fun s_ w' => (w'.cell? ⟨gb364, 0, none⟩ = some (.int .i64 a0_0) ∧ w'.cell? ⟨gb364, 1, none⟩ = some (.bool a0_1) ∧ w'.cell? ⟨gb364, 2, none⟩ = some (.slice A0_2 l0_2.length c0_2) ∧ w'.cell? ⟨gb365, 0, none⟩ = some (.int .i64 a1_0) ∧ w'.cell? ⟨gb365, 1, none⟩ = some (.bool a1_1) ∧ w'.cell? ⟨gb365, 2, none⟩ = some (.slice A1_2 l1_2.length c1_2)) ∧ (Kd.R (Kd.int .i64) 3 w' w.heap.size (fun k_ => some k_ ≠ (s_.2.1 : Value).ownBlock) s_.1 t370) ∧ (Kd.R (Kd.int .i64) 3 w' w.heap.size (fun k_ => some k_ ≠ (s_.1 : Value).ownBlock) s_.2.1 t375) ∧ (w'.heap[gb364]? = some (.cells #[.int .i64 a0_0, .bool a0_1, .slice A0_2 l0_2.length c0_2] 24 (0, 0))) ∧ (w'.heap[gb365]? = some (.cells #[.int .i64 a1_0, .bool a1_1, .slice A1_2 l1_2.length c1_2] 24 (0, 0))) ∧ (w'.heap[s_.2.2]? = some (.cells #[.int .i64 0, .int .i64 0] 26 (0, 0))) ∧ (w.heap.size ≤ s_.2.2) ∧ (w.heap.size ≤ s_.2.2) ∧ (gb364 ≠ s_.2.2) ∧ (s_.2.2 ≠ gb364) ∧ (gb365 ≠ s_.2.2) ∧ (s_.2.2 ≠ gb365) ∧ (Below w.heap.size w w')) ?_ ?_
   rotate_left
   ·intro hCont
    refine two_ (i := 1) (j := 8) (Ni := some 24) (Nj := some 6) (m_ 11 7) (m_ 11 261) rfl rfl rfl rfl (two_of HT_.out (by kernel_rfl)) (by decide) (by decide) (fun K hK => ?_) (fun K hK => ?_)
    ·refine goes_ Tryd.func9 (by kernel_rfl) rfl #[.agg #[.int .i64 a0_0, .bool a0_1, .slice A0_2 l0_2.length c0_2]] (by rfl) rfl rfl (by (try simp only [List.map_toArray, List.map_cons, List.map_nil]); (rfl)) ?_
     with_reducible refine (laws_toRow.calls k a0_0 a0_1 _ _ l0_2 t368 t369 t370 _ ?side1 ?side2 A19.out).mono ?_
     (case side1 => repeat (exact (Kd.C_below HR0_2.out HB.out)))
     (case side2 => exact HC0_2.out)
     rintro e w34 ⟨v371, rfl, ho0, hb⟩
     refine ⟨_, rfl, ?_⟩
     have HO372 := A_.mk (Kd.R_lower ho0 (below_size HB.out))
     replace BK364 := A_.mk (blk_below BK364.out hb)
     replace BK365 := A_.mk (blk_below BK365.out hb)
     replace HB := A_.mk (below_step HB.out hb)
     (try clear hb)
     skip
     skip
     skip
     (try clear ho0)
     refine hK.out _ _ ⟨(blk_cell BK364.out 0).trans rfl, (blk_cell BK364.out 1).trans rfl, (blk_cell BK364.out 2).trans rfl, (blk_cell BK365.out 0).trans rfl, (blk_cell BK365.out 1).trans rfl, (blk_cell BK365.out 2).trans rfl⟩ (fun hHeld => ?_)
     clear hK K
     refine norm_ (a' := ?_) ?_ ?_
     rotate_left
     ·show Act.put _ (some 24) _ = _
      simp only [Act.put, sI_, s0_, s1_, i64_w, i32_w]
      rfl
     refine two_ (i := 3) (j := 8) (Ni := some 26) (Nj := some 6) (m_ 11 15) (m_ 11 263) rfl rfl rfl rfl (two_of HT_.out (by kernel_rfl)) (by decide) (by decide) (fun K hK => ?_) (fun K hK => ?_)
     ·refine goes_ Tryd.func9 (by kernel_rfl) rfl #[.agg #[.int .i64 a1_0, .bool a1_1, .slice A1_2 l1_2.length c1_2]] (by rfl) rfl rfl (by (try simp only [List.map_toArray, List.map_cons, List.map_nil]); (rfl)) ?_
      with_reducible refine (laws_toRow.calls k a1_0 a1_1 _ _ l1_2 t373 t374 t375 _ ?side1 ?side2 A20.out).mono ?_
      (case side1 => repeat (exact (Kd.C_below HR1_2.out HB.out)))
      (case side2 => exact HC1_2.out)
      rintro e w35 ⟨v376, rfl, ho0, hb⟩
      refine ⟨_, rfl, ?_⟩
      have HO377 := A_.mk (Kd.R_lower (Kd.R_new' ho0 (Kd.R_lt HO372.out)) (below_size HB.out))
      replace HO372 := A_.mk (Kd.R_elder' HO372.out (Kd.R_base ho0) hb)
      replace BK364 := A_.mk (blk_below BK364.out hb)
      replace BK365 := A_.mk (blk_below BK365.out hb)
      replace HB := A_.mk (below_step HB.out hb)
      (try clear hb)
      skip
      skip
      skip
      (try clear ho0)
      obtain ⟨Ao36, co36, eo36⟩ := Kd.R_slice HO372.out
      (subst eo36)
      obtain ⟨Ao37, co37, eo37⟩ := Kd.R_slice HO377.out
      (subst eo37)
      refine hK.out _ _ ⟨(blk_cell BK364.out 0).trans rfl, (blk_cell BK364.out 1).trans rfl, (blk_cell BK364.out 2).trans rfl, (blk_cell BK365.out 0).trans rfl, (blk_cell BK365.out 1).trans rfl, (blk_cell BK365.out 2).trans rfl⟩ (fun hHeld => ?_)
      clear hK K
      refine norm_ (a' := ?_) ?_ ?_
      rotate_left
      ·show Act.put _ (some 26) _ = _
       simp only [Act.put, sI_, s0_, s1_, i64_w, i32_w]
       rfl
      refine two_ (i := 4) (j := 8) (Ni := some 27) (Nj := some 6) (m_ 11 31) (m_ 11 271) rfl rfl rfl rfl (two_of HT_.out (by kernel_rfl)) (by decide) (by decide) (fun K hK => ?_) (fun K hK => ?_)
      ·refine goes_ Tryd.func8 (by kernel_rfl) rfl #[.agg #[.int .i64 t368, .bool t369, .slice Ao36 t370.length co36], .agg #[.int .i64 t373, .bool t374, .slice Ao37 t375.length co37]] (by rfl) rfl rfl (by (try simp only [List.map_toArray, List.map_cons, List.map_nil]); (rfl)) ?_
       with_reducible refine (spec_ChanceOfFinal.calls k t368 t369 _ _ t370 t373 t374 _ _ t375 t378 t379 t380 _ ?side1 ?side2 ?side3 ?side4 A21.out).mono ?_
       (case side1 => repeat (exact (Kd.R_reads' HO372.out).2.2))
       (case side2 => exact (Kd.R_reads' HO372.out).2.1)
       (case side3 => repeat (exact (Kd.R_reads' HO377.out).2.2))
       (case side4 => exact (Kd.R_reads' HO377.out).2.1)
       rintro e w38 ⟨rfl, hb⟩
       refine ⟨_, rfl, ?_⟩
       replace HO372 := A_.mk (Kd.R_below HO372.out hb)
       replace HO377 := A_.mk (Kd.R_below HO377.out hb)
       replace BK364 := A_.mk (blk_below BK364.out hb)
       replace BK365 := A_.mk (blk_below BK365.out hb)
       replace HB := A_.mk (below_step HB.out hb)
       (try clear hb)
       skip
       skip
       skip
       refine hK.out _ _ ⟨(blk_cell BK364.out 0).trans rfl, (blk_cell BK364.out 1).trans rfl, (blk_cell BK364.out 2).trans rfl, (blk_cell BK365.out 0).trans rfl, (blk_cell BK365.out 1).trans rfl, (blk_cell BK365.out 2).trans rfl⟩ (fun hHeld => ?_)
       clear hK K
       refine norm_ (a' := ?_) ?_ ?_
       rotate_left
       ·show Act.put _ (some 27) _ = _
        simp only [Act.put, sI_, s0_, s1_, i64_w, i32_w]
        rfl
       refine pure_ (i := 5) (N := some 22) (v := ?_) (a' := ?_) (m_ 11 63) rfl rfl (any_of HT_.out (by kernel_rfl)) (fun _ _ _ h => h) (Or.inl ⟨by rfl, ?_⟩) ?_ ?_
       rotate_left
       ·intro w'
        go_simp
        with_reducible rfl
       rotate_left
       ·simp only [Act.put, sI_, s0_, s1_, i64_w, i32_w]
        rfl
       refine pure_ (i := 6) (N := some 28) (v := ?_) (a' := ?_) (m_ 11 127) rfl rfl (any_of HT_.out (by kernel_rfl)) (fun _ _ _ h => h) (Or.inl ⟨by rfl, ?_⟩) ?_ ?_
       rotate_left
       ·intro w'
        go_simp
        with_reducible rfl
       rotate_left
       ·simp only [Act.put, sI_, s0_, s1_, i64_w, i32_w]
        rfl
       refine pure_ (i := 7) (N := some 29) (v := ?_) (a' := ?_) (m_ 11 255) rfl rfl (any_of HT_.out (by kernel_rfl)) (fun _ _ _ h => h) (Or.inl ⟨by rfl, ?_⟩) ?_ ?_
       rotate_left
       ·intro w'
        go_simp
        with_reducible rfl
       rotate_left
       ·simp only [Act.put, sI_, s0_, s1_, i64_w, i32_w]
        rfl
       refine one_ (i := 8) (N := some 6) (m_ 11 511) rfl rfl (one_of HT_.out (by kernel_rfl)) (by decide) (fun K hK => ?_)
       refine box_step ?hg (N := 6) ?hd (cs := #[.int .i64 0, .int .i64 0]) (t := 26) ?hr ?_; (case hd => rfl); (case hg => rfl); (case hr => (go_simp; done))
       intro gb381 hg w39 hbox hb
       replace HO372 := A_.mk (Kd.R_below HO372.out hb)
       replace HO377 := A_.mk (Kd.R_below HO377.out hb)
       have BK381 := A_.mk (hbox)
       have GW381 := A_.mk ((by rw [hg]; exact (below_size HB.out) : w.heap.size ≤ gb381))
       have GE381 := A_.mk ((by rw [hg]; exact (below_size HB.out) : w.heap.size ≤ gb381))
       replace HB := A_.mk (below_step HB.out hb)
       have NB364_381 := A_.mk ((by rw [hg]; exact Nat.ne_of_lt (blk_lt BK364.out) : gb364 ≠ gb381))
       have NB381_364 := A_.mk ((by rw [hg]; exact Nat.ne_of_gt (blk_lt BK364.out) : gb381 ≠ gb364))
       replace BK364 := A_.mk (blk_below BK364.out hb)
       have NB365_381 := A_.mk ((by rw [hg]; exact Nat.ne_of_lt (blk_lt BK365.out) : gb365 ≠ gb381))
       have NB381_365 := A_.mk ((by rw [hg]; exact Nat.ne_of_gt (blk_lt BK365.out) : gb381 ≠ gb365))
       replace BK365 := A_.mk (blk_below BK365.out hb)
       clear hb hbox hg
       refine hK.out _ _ ⟨(blk_cell BK364.out 0).trans rfl, (blk_cell BK364.out 1).trans rfl, (blk_cell BK364.out 2).trans rfl, (blk_cell BK365.out 0).trans rfl, (blk_cell BK365.out 1).trans rfl, (blk_cell BK365.out 2).trans rfl⟩ (fun hHeld => ?_)
       clear hK K
       refine norm_ (a' := ?_) ?_ ?_
       rotate_left
       ·show Act.put _ (some 6) _ = _
        simp only [Act.put, sI_, s0_, s1_, i64_w, i32_w]
        rfl
       exact norm_ (by simp only [putAll, Act.put, sI_, s0_, s1_]) (hCont (.slice Ao36 t370.length co36, .slice Ao37 t375.length co37, gb381) _ ⟨hHeld, (by (with_reducible repeat (apply Kd.R_alloc)); exact Kd.R_mono HO372.out (fun _ hk => hk.2)), (by (with_reducible repeat (apply Kd.R_alloc)); exact Kd.R_mono HO377.out (fun _ hk => hk.2)), BK364.out, BK365.out, BK381.out, GW381.out, GE381.out, NB364_381.out, NB381_364.out, NB365_381.out, NB381_365.out, HB.out⟩)
      ·refine box_step ?hg (N := 6) ?hd (cs := #[.int .i64 0, .int .i64 0]) (t := 26) ?hr ?_; (case hd => rfl); (case hg => rfl); (case hr => (go_simp; done))
       intro gb381 hg w36 hbox hb
       replace HO372 := A_.mk (Kd.R_below HO372.out hb)
       replace HO377 := A_.mk (Kd.R_below HO377.out hb)
       have BK381 := A_.mk (hbox)
       have GW381 := A_.mk ((by rw [hg]; exact (below_size HB.out) : w.heap.size ≤ gb381))
       have GE381 := A_.mk ((by rw [hg]; exact (below_size HB.out) : w.heap.size ≤ gb381))
       replace HB := A_.mk (below_step HB.out hb)
       have NB364_381 := A_.mk ((by rw [hg]; exact Nat.ne_of_lt (blk_lt BK364.out) : gb364 ≠ gb381))
       have NB381_364 := A_.mk ((by rw [hg]; exact Nat.ne_of_gt (blk_lt BK364.out) : gb381 ≠ gb364))
       replace BK364 := A_.mk (blk_below BK364.out hb)
       have NB365_381 := A_.mk ((by rw [hg]; exact Nat.ne_of_lt (blk_lt BK365.out) : gb365 ≠ gb381))
       have NB381_365 := A_.mk ((by rw [hg]; exact Nat.ne_of_gt (blk_lt BK365.out) : gb381 ≠ gb365))
       replace BK365 := A_.mk (blk_below BK365.out hb)
       clear hb hbox hg
       obtain ⟨Ao37, co37, eo37⟩ := Kd.R_slice HO372.out
       ((injection eo37 with f1_ f2_ f3_; have f4_ := f1_.symm; have f5_ := f3_.symm; clear f1_ f2_ f3_; subst f4_; subst f5_))
       obtain ⟨Ao38, co38, eo38⟩ := Kd.R_slice HO377.out
       ((injection eo38 with f1_ f2_ f3_; have f4_ := f1_.symm; have f5_ := f3_.symm; clear f1_ f2_ f3_; subst f4_; subst f5_))
       refine hK.out _ _ ⟨(blk_cell BK364.out 0).trans rfl, (blk_cell BK364.out 1).trans rfl, (blk_cell BK364.out 2).trans rfl, (blk_cell BK365.out 0).trans rfl, (blk_cell BK365.out 1).trans rfl, (blk_cell BK365.out 2).trans rfl⟩ (fun hHeld => ?_)
       clear hK K
       refine norm_ (a' := ?_) ?_ ?_
       rotate_left
       ·show Act.put _ (some 6) _ = _
        simp only [Act.put, sI_, s0_, s1_, i64_w, i32_w]
        rfl
       refine one_ (i := 4) (N := some 27) (m_ 11 287) rfl rfl (one_of HT_.out (by kernel_rfl)) (by decide) (fun K hK => ?_)
       refine goes_ Tryd.func8 (by kernel_rfl) rfl #[.agg #[.int .i64 t368, .bool t369, .slice Ao37 t370.length co37], .agg #[.int .i64 t373, .bool t374, .slice Ao38 t375.length co38]] (by rfl) rfl rfl (by (try simp only [List.map_toArray, List.map_cons, List.map_nil]); (rfl)) ?_
       with_reducible refine (spec_ChanceOfFinal.calls k t368 t369 _ _ t370 t373 t374 _ _ t375 t378 t379 t380 _ ?side1 ?side2 ?side3 ?side4 A21.out).mono ?_
       (case side1 => repeat (exact (Kd.R_reads' HO372.out).2.2))
       (case side2 => exact (Kd.R_reads' HO372.out).2.1)
       (case side3 => repeat (exact (Kd.R_reads' HO377.out).2.2))
       (case side4 => exact (Kd.R_reads' HO377.out).2.1)
       rintro e w39 ⟨rfl, hb⟩
       refine ⟨_, rfl, ?_⟩
       replace HO372 := A_.mk (Kd.R_below HO372.out hb)
       replace HO377 := A_.mk (Kd.R_below HO377.out hb)
       replace BK364 := A_.mk (blk_below BK364.out hb)
       replace BK365 := A_.mk (blk_below BK365.out hb)
       replace BK381 := A_.mk (blk_below BK381.out hb)
       replace HB := A_.mk (below_step HB.out hb)
       (try clear hb)
       skip
       skip
       skip
       refine hK.out _ _ ⟨(blk_cell BK364.out 0).trans rfl, (blk_cell BK364.out 1).trans rfl, (blk_cell BK364.out 2).trans rfl, (blk_cell BK365.out 0).trans rfl, (blk_cell BK365.out 1).trans rfl, (blk_cell BK365.out 2).trans rfl⟩ (fun hHeld => ?_)
       clear hK K
       refine norm_ (a' := ?_) ?_ ?_
       rotate_left
       ·show Act.put _ (some 27) _ = _
        simp only [Act.put, sI_, s0_, s1_, i64_w, i32_w]
        rfl
       refine pure_ (i := 5) (N := some 22) (v := ?_) (a' := ?_) (m_ 11 319) rfl rfl (any_of HT_.out (by kernel_rfl)) (fun _ _ _ h => h) (Or.inl ⟨by rfl, ?_⟩) ?_ ?_
       rotate_left
       ·intro w'
        go_simp
        with_reducible rfl
       rotate_left
       ·simp only [Act.put, sI_, s0_, s1_, i64_w, i32_w]
        rfl
       refine pure_ (i := 6) (N := some 28) (v := ?_) (a' := ?_) (m_ 11 383) rfl rfl (any_of HT_.out (by kernel_rfl)) (fun _ _ _ h => h) (Or.inl ⟨by rfl, ?_⟩) ?_ ?_
       rotate_left
       ·intro w'
        go_simp
        with_reducible rfl
       rotate_left
       ·simp only [Act.put, sI_, s0_, s1_, i64_w, i32_w]
        rfl
       refine pure_ (i := 7) (N := some 29) (v := ?_) (a' := ?_) (m_ 11 511) rfl rfl (any_of HT_.out (by kernel_rfl)) (fun _ _ _ h => h) (Or.inl ⟨by rfl, ?_⟩) ?_ ?_
       rotate_left
       ·intro w'
        go_simp
        with_reducible rfl
       rotate_left
       ·simp only [Act.put, sI_, s0_, s1_, i64_w, i32_w]
        rfl
       exact norm_ (by simp only [putAll, Act.put, sI_, s0_, s1_]) (hCont (.slice Ao37 t370.length co37, .slice Ao38 t375.length co38, gb381) _ ⟨hHeld, (by (with_reducible repeat (apply Kd.R_alloc)); exact Kd.R_mono HO372.out (fun _ hk => hk.2)), (by (with_reducible repeat (apply Kd.R_alloc)); exact Kd.R_mono HO377.out (fun _ hk => hk.2)), BK364.out, BK365.out, BK381.out, GW381.out, GE381.out, NB364_381.out, NB381_364.out, NB365_381.out, NB381_365.out, HB.out⟩)
     ·refine box_step ?hg (N := 6) ?hd (cs := #[.int .i64 0, .int .i64 0]) (t := 26) ?hr ?_; (case hd => rfl); (case hg => rfl); (case hr => (go_simp; done))
      intro gb381 hg w35 hbox hb
      replace HO372 := A_.mk (Kd.R_below HO372.out hb)
      have BK381 := A_.mk (hbox)
      have GW381 := A_.mk ((by rw [hg]; exact (below_size HB.out) : w.heap.size ≤ gb381))
      have GE381 := A_.mk ((by rw [hg]; exact (below_size HB.out) : w.heap.size ≤ gb381))
      replace HB := A_.mk (below_step HB.out hb)
      have NB364_381 := A_.mk ((by rw [hg]; exact Nat.ne_of_lt (blk_lt BK364.out) : gb364 ≠ gb381))
      have NB381_364 := A_.mk ((by rw [hg]; exact Nat.ne_of_gt (blk_lt BK364.out) : gb381 ≠ gb364))
      replace BK364 := A_.mk (blk_below BK364.out hb)
      have NB365_381 := A_.mk ((by rw [hg]; exact Nat.ne_of_lt (blk_lt BK365.out) : gb365 ≠ gb381))
      have NB381_365 := A_.mk ((by rw [hg]; exact Nat.ne_of_gt (blk_lt BK365.out) : gb381 ≠ gb365))
      replace BK365 := A_.mk (blk_below BK365.out hb)
      clear hb hbox hg
      refine hK.out _ _ ⟨(blk_cell BK364.out 0).trans rfl, (blk_cell BK364.out 1).trans rfl, (blk_cell BK364.out 2).trans rfl, (blk_cell BK365.out 0).trans rfl, (blk_cell BK365.out 1).trans rfl, (blk_cell BK365.out 2).trans rfl⟩ (fun hHeld => ?_)
      clear hK K
      refine norm_ (a' := ?_) ?_ ?_
      rotate_left
      ·show Act.put _ (some 6) _ = _
       simp only [Act.put, sI_, s0_, s1_, i64_w, i32_w]
       rfl
      refine one_ (i := 3) (N := some 26) (m_ 11 271) rfl rfl (one_of HT_.out (by kernel_rfl)) (by decide) (fun K hK => ?_)
      refine goes_ Tryd.func9 (by kernel_rfl) rfl #[.agg #[.int .i64 a1_0, .bool a1_1, .slice A1_2 l1_2.length c1_2]] (by rfl) rfl rfl (by (try simp only [List.map_toArray, List.map_cons, List.map_nil]); (rfl)) ?_
      with_reducible refine (laws_toRow.calls k a1_0 a1_1 _ _ l1_2 t373 t374 t375 _ ?side1 ?side2 A20.out).mono ?_
      (case side1 => repeat (exact (Kd.C_below HR1_2.out HB.out)))
      (case side2 => exact HC1_2.out)
      rintro e w36 ⟨v376, rfl, ho0, hb⟩
      refine ⟨_, rfl, ?_⟩
      have HO377 := A_.mk (Kd.R_lower (Kd.R_new' ho0 (Kd.R_lt HO372.out)) (below_size HB.out))
      replace HO372 := A_.mk (Kd.R_elder' HO372.out (Kd.R_base ho0) hb)
      replace BK364 := A_.mk (blk_below BK364.out hb)
      replace BK365 := A_.mk (blk_below BK365.out hb)
      replace BK381 := A_.mk (blk_below BK381.out hb)
      replace HB := A_.mk (below_step HB.out hb)
      (try clear hb)
      skip
      skip
      skip
      (try clear ho0)
      obtain ⟨Ao37, co37, eo37⟩ := Kd.R_slice HO372.out
      (subst eo37)
      obtain ⟨Ao38, co38, eo38⟩ := Kd.R_slice HO377.out
      (subst eo38)
      refine hK.out _ _ ⟨(blk_cell BK364.out 0).trans rfl, (blk_cell BK364.out 1).trans rfl, (blk_cell BK364.out 2).trans rfl, (blk_cell BK365.out 0).trans rfl, (blk_cell BK365.out 1).trans rfl, (blk_cell BK365.out 2).trans rfl⟩ (fun hHeld => ?_)
      clear hK K
      refine norm_ (a' := ?_) ?_ ?_
      rotate_left
      ·show Act.put _ (some 26) _ = _
       simp only [Act.put, sI_, s0_, s1_, i64_w, i32_w]
       rfl
      refine one_ (i := 4) (N := some 27) (m_ 11 287) rfl rfl (one_of HT_.out (by kernel_rfl)) (by decide) (fun K hK => ?_)
      refine goes_ Tryd.func8 (by kernel_rfl) rfl #[.agg #[.int .i64 t368, .bool t369, .slice Ao37 t370.length co37], .agg #[.int .i64 t373, .bool t374, .slice Ao38 t375.length co38]] (by rfl) rfl rfl (by (try simp only [List.map_toArray, List.map_cons, List.map_nil]); (rfl)) ?_
      with_reducible refine (spec_ChanceOfFinal.calls k t368 t369 _ _ t370 t373 t374 _ _ t375 t378 t379 t380 _ ?side1 ?side2 ?side3 ?side4 A21.out).mono ?_
      (case side1 => repeat (exact (Kd.R_reads' HO372.out).2.2))
      (case side2 => exact (Kd.R_reads' HO372.out).2.1)
      (case side3 => repeat (exact (Kd.R_reads' HO377.out).2.2))
      (case side4 => exact (Kd.R_reads' HO377.out).2.1)
      rintro e w39 ⟨rfl, hb⟩
      refine ⟨_, rfl, ?_⟩
      replace HO372 := A_.mk (Kd.R_below HO372.out hb)
      replace HO377 := A_.mk (Kd.R_below HO377.out hb)
      replace BK364 := A_.mk (blk_below BK364.out hb)
      replace BK365 := A_.mk (blk_below BK365.out hb)
      replace BK381 := A_.mk (blk_below BK381.out hb)
      replace HB := A_.mk (below_step HB.out hb)
      (try clear hb)
      skip
      skip
      skip
      refine hK.out _ _ ⟨(blk_cell BK364.out 0).trans rfl, (blk_cell BK364.out 1).trans rfl, (blk_cell BK364.out 2).trans rfl, (blk_cell BK365.out 0).trans rfl, (blk_cell BK365.out 1).trans rfl, (blk_cell BK365.out 2).trans rfl⟩ (fun hHeld => ?_)
      clear hK K
      refine norm_ (a' := ?_) ?_ ?_
      rotate_left
      ·show Act.put _ (some 27) _ = _
       simp only [Act.put, sI_, s0_, s1_, i64_w, i32_w]
       rfl
      refine pure_ (i := 5) (N := some 22) (v := ?_) (a' := ?_) (m_ 11 319) rfl rfl (any_of HT_.out (by kernel_rfl)) (fun _ _ _ h => h) (Or.inl ⟨by rfl, ?_⟩) ?_ ?_
      rotate_left
      ·intro w'
       go_simp
       with_reducible rfl
      rotate_left
      ·simp only [Act.put, sI_, s0_, s1_, i64_w, i32_w]
       rfl
      refine pure_ (i := 6) (N := some 28) (v := ?_) (a' := ?_) (m_ 11 383) rfl rfl (any_of HT_.out (by kernel_rfl)) (fun _ _ _ h => h) (Or.inl ⟨by rfl, ?_⟩) ?_ ?_
      rotate_left
      ·intro w'
       go_simp
       with_reducible rfl
      rotate_left
      ·simp only [Act.put, sI_, s0_, s1_, i64_w, i32_w]
       rfl
      refine pure_ (i := 7) (N := some 29) (v := ?_) (a' := ?_) (m_ 11 511) rfl rfl (any_of HT_.out (by kernel_rfl)) (fun _ _ _ h => h) (Or.inl ⟨by rfl, ?_⟩) ?_ ?_
      rotate_left
      ·intro w'
       go_simp
       with_reducible rfl
      rotate_left
      ·simp only [Act.put, sI_, s0_, s1_, i64_w, i32_w]
       rfl
      exact norm_ (by simp only [putAll, Act.put, sI_, s0_, s1_]) (hCont (.slice Ao37 t370.length co37, .slice Ao38 t375.length co38, gb381) _ ⟨hHeld, (by (with_reducible repeat (apply Kd.R_alloc)); exact Kd.R_mono HO372.out (fun _ hk => hk.2)), (by (with_reducible repeat (apply Kd.R_alloc)); exact Kd.R_mono HO377.out (fun _ hk => hk.2)), BK364.out, BK365.out, BK381.out, GW381.out, GE381.out, NB364_381.out, NB381_364.out, NB365_381.out, NB381_365.out, HB.out⟩)
    ·refine box_step ?hg (N := 6) ?hd (cs := #[.int .i64 0, .int .i64 0]) (t := 26) ?hr ?_; (case hd => rfl); (case hg => rfl); (case hr => (go_simp; done))
     intro gb381 hg w34 hbox hb
     have BK381 := A_.mk (hbox)
     have GW381 := A_.mk ((by rw [hg]; exact (below_size HB.out) : w.heap.size ≤ gb381))
     have GE381 := A_.mk ((by rw [hg]; exact (below_size HB.out) : w.heap.size ≤ gb381))
     replace HB := A_.mk (below_step HB.out hb)
     have NB364_381 := A_.mk ((by rw [hg]; exact Nat.ne_of_lt (blk_lt BK364.out) : gb364 ≠ gb381))
     have NB381_364 := A_.mk ((by rw [hg]; exact Nat.ne_of_gt (blk_lt BK364.out) : gb381 ≠ gb364))
     replace BK364 := A_.mk (blk_below BK364.out hb)
     have NB365_381 := A_.mk ((by rw [hg]; exact Nat.ne_of_lt (blk_lt BK365.out) : gb365 ≠ gb381))
     have NB381_365 := A_.mk ((by rw [hg]; exact Nat.ne_of_gt (blk_lt BK365.out) : gb381 ≠ gb365))
     replace BK365 := A_.mk (blk_below BK365.out hb)
     clear hb hbox hg
     refine hK.out _ _ ⟨(blk_cell BK364.out 0).trans rfl, (blk_cell BK364.out 1).trans rfl, (blk_cell BK364.out 2).trans rfl, (blk_cell BK365.out 0).trans rfl, (blk_cell BK365.out 1).trans rfl, (blk_cell BK365.out 2).trans rfl⟩ (fun hHeld => ?_)
     clear hK K
     refine norm_ (a' := ?_) ?_ ?_
     rotate_left
     ·show Act.put _ (some 6) _ = _
      simp only [Act.put, sI_, s0_, s1_, i64_w, i32_w]
      rfl
     refine one_ (i := 1) (N := some 24) (m_ 11 263) rfl rfl (one_of HT_.out (by kernel_rfl)) (by decide) (fun K hK => ?_)
     refine goes_ Tryd.func9 (by kernel_rfl) rfl #[.agg #[.int .i64 a0_0, .bool a0_1, .slice A0_2 l0_2.length c0_2]] (by rfl) rfl rfl (by (try simp only [List.map_toArray, List.map_cons, List.map_nil]); (rfl)) ?_
     with_reducible refine (laws_toRow.calls k a0_0 a0_1 _ _ l0_2 t368 t369 t370 _ ?side1 ?side2 A19.out).mono ?_
     (case side1 => repeat (exact (Kd.C_below HR0_2.out HB.out)))
     (case side2 => exact HC0_2.out)
     rintro e w35 ⟨v371, rfl, ho0, hb⟩
     refine ⟨_, rfl, ?_⟩
     have HO372 := A_.mk (Kd.R_lower ho0 (below_size HB.out))
     replace BK364 := A_.mk (blk_below BK364.out hb)
     replace BK365 := A_.mk (blk_below BK365.out hb)
     replace BK381 := A_.mk (blk_below BK381.out hb)
     replace HB := A_.mk (below_step HB.out hb)
     (try clear hb)
     skip
     skip
     skip
     (try clear ho0)
     refine hK.out _ _ ⟨(blk_cell BK364.out 0).trans rfl, (blk_cell BK364.out 1).trans rfl, (blk_cell BK364.out 2).trans rfl, (blk_cell BK365.out 0).trans rfl, (blk_cell BK365.out 1).trans rfl, (blk_cell BK365.out 2).trans rfl⟩ (fun hHeld => ?_)
     clear hK K
     refine norm_ (a' := ?_) ?_ ?_
     rotate_left
     ·show Act.put _ (some 24) _ = _
      simp only [Act.put, sI_, s0_, s1_, i64_w, i32_w]
      rfl
     refine one_ (i := 3) (N := some 26) (m_ 11 271) rfl rfl (one_of HT_.out (by kernel_rfl)) (by decide) (fun K hK => ?_)
     refine goes_ Tryd.func9 (by kernel_rfl) rfl #[.agg #[.int .i64 a1_0, .bool a1_1, .slice A1_2 l1_2.length c1_2]] (by rfl) rfl rfl (by (try simp only [List.map_toArray, List.map_cons, List.map_nil]); (rfl)) ?_
     with_reducible refine (laws_toRow.calls k a1_0 a1_1 _ _ l1_2 t373 t374 t375 _ ?side1 ?side2 A20.out).mono ?_
     (case side1 => repeat (exact (Kd.C_below HR1_2.out HB.out)))
     (case side2 => exact HC1_2.out)
     rintro e w36 ⟨v376, rfl, ho0, hb⟩
     refine ⟨_, rfl, ?_⟩
     have HO377 := A_.mk (Kd.R_lower (Kd.R_new' ho0 (Kd.R_lt HO372.out)) (below_size HB.out))
     replace HO372 := A_.mk (Kd.R_elder' HO372.out (Kd.R_base ho0) hb)
     replace BK364 := A_.mk (blk_below BK364.out hb)
     replace BK365 := A_.mk (blk_below BK365.out hb)
     replace BK381 := A_.mk (blk_below BK381.out hb)
     replace HB := A_.mk (below_step HB.out hb)
     (try clear hb)
     skip
     skip
     skip
     (try clear ho0)
     obtain ⟨Ao37, co37, eo37⟩ := Kd.R_slice HO372.out
     (subst eo37)
     obtain ⟨Ao38, co38, eo38⟩ := Kd.R_slice HO377.out
     (subst eo38)
     refine hK.out _ _ ⟨(blk_cell BK364.out 0).trans rfl, (blk_cell BK364.out 1).trans rfl, (blk_cell BK364.out 2).trans rfl, (blk_cell BK365.out 0).trans rfl, (blk_cell BK365.out 1).trans rfl, (blk_cell BK365.out 2).trans rfl⟩ (fun hHeld => ?_)
     clear hK K
     refine norm_ (a' := ?_) ?_ ?_
     rotate_left
     ·show Act.put _ (some 26) _ = _
      simp only [Act.put, sI_, s0_, s1_, i64_w, i32_w]
      rfl
     refine one_ (i := 4) (N := some 27) (m_ 11 287) rfl rfl (one_of HT_.out (by kernel_rfl)) (by decide) (fun K hK => ?_)
     refine goes_ Tryd.func8 (by kernel_rfl) rfl #[.agg #[.int .i64 t368, .bool t369, .slice Ao37 t370.length co37], .agg #[.int .i64 t373, .bool t374, .slice Ao38 t375.length co38]] (by rfl) rfl rfl (by (try simp only [List.map_toArray, List.map_cons, List.map_nil]); (rfl)) ?_
     with_reducible refine (spec_ChanceOfFinal.calls k t368 t369 _ _ t370 t373 t374 _ _ t375 t378 t379 t380 _ ?side1 ?side2 ?side3 ?side4 A21.out).mono ?_
     (case side1 => repeat (exact (Kd.R_reads' HO372.out).2.2))
     (case side2 => exact (Kd.R_reads' HO372.out).2.1)
     (case side3 => repeat (exact (Kd.R_reads' HO377.out).2.2))
     (case side4 => exact (Kd.R_reads' HO377.out).2.1)
     rintro e w39 ⟨rfl, hb⟩
     refine ⟨_, rfl, ?_⟩
     replace HO372 := A_.mk (Kd.R_below HO372.out hb)
     replace HO377 := A_.mk (Kd.R_below HO377.out hb)
     replace BK364 := A_.mk (blk_below BK364.out hb)
     replace BK365 := A_.mk (blk_below BK365.out hb)
     replace BK381 := A_.mk (blk_below BK381.out hb)
     replace HB := A_.mk (below_step HB.out hb)
     (try clear hb)
     skip
     skip
     skip
     refine hK.out _ _ ⟨(blk_cell BK364.out 0).trans rfl, (blk_cell BK364.out 1).trans rfl, (blk_cell BK364.out 2).trans rfl, (blk_cell BK365.out 0).trans rfl, (blk_cell BK365.out 1).trans rfl, (blk_cell BK365.out 2).trans rfl⟩ (fun hHeld => ?_)
     clear hK K
     refine norm_ (a' := ?_) ?_ ?_
     rotate_left
     ·show Act.put _ (some 27) _ = _
      simp only [Act.put, sI_, s0_, s1_, i64_w, i32_w]
      rfl
     refine pure_ (i := 5) (N := some 22) (v := ?_) (a' := ?_) (m_ 11 319) rfl rfl (any_of HT_.out (by kernel_rfl)) (fun _ _ _ h => h) (Or.inl ⟨by rfl, ?_⟩) ?_ ?_
     rotate_left
     ·intro w'
      go_simp
      with_reducible rfl
     rotate_left
     ·simp only [Act.put, sI_, s0_, s1_, i64_w, i32_w]
      rfl
     refine pure_ (i := 6) (N := some 28) (v := ?_) (a' := ?_) (m_ 11 383) rfl rfl (any_of HT_.out (by kernel_rfl)) (fun _ _ _ h => h) (Or.inl ⟨by rfl, ?_⟩) ?_ ?_
     rotate_left
     ·intro w'
      go_simp
      with_reducible rfl
     rotate_left
     ·simp only [Act.put, sI_, s0_, s1_, i64_w, i32_w]
      rfl
     refine pure_ (i := 7) (N := some 29) (v := ?_) (a' := ?_) (m_ 11 511) rfl rfl (any_of HT_.out (by kernel_rfl)) (fun _ _ _ h => h) (Or.inl ⟨by rfl, ?_⟩) ?_ ?_
     rotate_left
     ·intro w'
      go_simp
      with_reducible rfl
     rotate_left
     ·simp only [Act.put, sI_, s0_, s1_, i64_w, i32_w]
      rfl
     exact norm_ (by simp only [putAll, Act.put, sI_, s0_, s1_]) (hCont (.slice Ao37 t370.length co37, .slice Ao38 t375.length co38, gb381) _ ⟨hHeld, (by (with_reducible repeat (apply Kd.R_alloc)); exact Kd.R_mono HO372.out (fun _ hk => hk.2)), (by (with_reducible repeat (apply Kd.R_alloc)); exact Kd.R_mono HO377.out (fun _ hk => hk.2)), BK364.out, BK365.out, BK381.out, GW381.out, GE381.out, NB364_381.out, NB381_364.out, NB365_381.out, NB381_365.out, HB.out⟩)
   rintro ⟨v371, v376, gb381⟩ w40 ⟨hS_, h0_, h1_, h2_, h3_, h4_, h5_, h6_, h7_, h8_, h9_, h10_, h11_⟩
   have n0_ : A_ (Kd.R (Kd.int .i64) 3 w40 w.heap.size (fun k_ => some k_ ≠ (v376 : Value).ownBlock) v371 t370) := ⟨h0_⟩
   have n1_ : A_ (Kd.R (Kd.int .i64) 3 w40 w.heap.size (fun k_ => some k_ ≠ (v371 : Value).ownBlock) v376 t375) := ⟨h1_⟩
   have n2_ : A_ (w40.heap[gb364]? = some (.cells #[.int .i64 a0_0, .bool a0_1, .slice A0_2 l0_2.length c0_2] 24 (0, 0))) := ⟨h2_⟩
   have n3_ : A_ (w40.heap[gb365]? = some (.cells #[.int .i64 a1_0, .bool a1_1, .slice A1_2 l1_2.length c1_2] 24 (0, 0))) := ⟨h3_⟩
   have n4_ : A_ (w40.heap[gb381]? = some (.cells #[.int .i64 0, .int .i64 0] 26 (0, 0))) := ⟨h4_⟩
   have n5_ : A_ (w.heap.size ≤ gb381) := ⟨h5_⟩
   have n6_ : A_ (w.heap.size ≤ gb381) := ⟨h6_⟩
   have n7_ : A_ (gb364 ≠ gb381) := ⟨h7_⟩
   have n8_ : A_ (gb381 ≠ gb364) := ⟨h8_⟩
   have n9_ : A_ (gb365 ≠ gb381) := ⟨h9_⟩
   have n10_ : A_ (gb381 ≠ gb365) := ⟨h10_⟩
   have n11_ : A_ (Below w.heap.size w w40) := ⟨h11_⟩
   clear BK364
   clear BK365
   clear HB
   clear h0_ h1_ h2_ h3_ h4_ h5_ h6_ h7_ h8_ h9_ h10_ h11_
   have HO372 := n0_
   have HO377 := n1_
   have BK364 := n2_
   have BK365 := n3_
   have BK381 := n4_
   have GW381 := n5_
   have GE381 := n6_
   have NB364_381 := n7_
   have NB381_364 := n8_
   have NB365_381 := n9_
   have NB381_365 := n10_
   have HB := n11_
   clear n0_ n1_ n2_ n3_ n4_ n5_ n6_ n7_ n8_ n9_ n10_ n11_
   have hHeld : w40.cell? ⟨gb364, 0, none⟩ = some (.int .i64 a0_0) ∧ w40.cell? ⟨gb364, 1, none⟩ = some (.bool a0_1) ∧ w40.cell? ⟨gb364, 2, none⟩ = some (.slice A0_2 l0_2.length c0_2) ∧ w40.cell? ⟨gb365, 0, none⟩ = some (.int .i64 a1_0) ∧ w40.cell? ⟨gb365, 1, none⟩ = some (.bool a1_1) ∧ w40.cell? ⟨gb365, 2, none⟩ = some (.slice A1_2 l1_2.length c1_2) := hS_
   refine norm_ (a' := ?_) ?_ ?_
   rotate_left
   ·simp only [putAll, Act.put, sI_, s0_, s1_]
    rfl
   refine one_ (i := 9) (N := none) (m_ 11 1023) rfl rfl (one_of HT_.out (by kernel_rfl)) (by decide) (fun K hK => ?_)
   have hs41 : w40.cell? ⟨gb381, 0, none⟩ = some (.int .i64 0) := (blk_cell BK381.out 0).trans rfl
   have hfs41 := blk_frozen BK381.out 0
   have hns41_0 := NB364_381.out
   have hns41_1 := NB365_381.out
   have hms41_0 := NB381_364.out
   have hms41_1 := NB381_365.out
   have hs42 : w40.cell? ⟨gb381, 1, none⟩ = some (.int .i64 0) := (blk_cell BK381.out 1).trans rfl
   have hfs42 := blk_frozen BK381.out 1
   have hns42_0 := NB364_381.out
   have hns42_1 := NB365_381.out
   have hms42_0 := NB381_364.out
   have hms42_1 := NB381_365.out
   refine skip_ (w1 := ?_) (by rfl) rfl ?_ ?_
   rotate_left
   ·go_simp
    rfl
   refine hK.out _ _ ⟨((cell_far (p := ⟨gb381, _, none⟩) NB364_381.out _).trans (((cell_far (p := ⟨gb381, _, none⟩) NB364_381.out _).trans (hHeld.1)))), ((cell_far (p := ⟨gb381, _, none⟩) NB364_381.out _).trans (((cell_far (p := ⟨gb381, _, none⟩) NB364_381.out _).trans (hHeld.2.1)))), ((cell_far (p := ⟨gb381, _, none⟩) NB364_381.out _).trans (((cell_far (p := ⟨gb381, _, none⟩) NB364_381.out _).trans (hHeld.2.2.1)))), ((cell_far (p := ⟨gb381, _, none⟩) NB365_381.out _).trans (((cell_far (p := ⟨gb381, _, none⟩) NB365_381.out _).trans (hHeld.2.2.2.1)))), ((cell_far (p := ⟨gb381, _, none⟩) NB365_381.out _).trans (((cell_far (p := ⟨gb381, _, none⟩) NB365_381.out _).trans (hHeld.2.2.2.2.1)))), ((cell_far (p := ⟨gb381, _, none⟩) NB365_381.out _).trans (((cell_far (p := ⟨gb381, _, none⟩) NB365_381.out _).trans (hHeld.2.2.2.2.2))))⟩ (fun hHeld => ?_)
   clear hK K
   refine pure_ (i := 10) (N := some 7) (v := ?_) (a' := ?_) (m_ 11 2047) rfl rfl (any_of HT_.out (by kernel_rfl)) (fun _ _ _ h => h) (Or.inl ⟨by rfl, ?_⟩) ?_ ?_
   rotate_left
   ·intro w'
    go_simp
    with_reducible rfl
   rotate_left
   ·simp only [Act.put, sI_, s0_, s1_, i64_w, i32_w]
    rfl
   refine done_ (done_of HT_.out (by kernel_rfl)) ?_
   have hnb43 := NB364_381.out
   have hnc43 := NB381_364.out
   have hcz44_0 : w40.cell? ⟨gb364, 0, none⟩ = some (.int .i64 a0_0) := (blk_cell BK364.out 0).trans rfl
   have hcz44_1 : w40.cell? ⟨gb364, 1, none⟩ = some (.bool a0_1) := (blk_cell BK364.out 1).trans rfl
   have hcz44_2 : w40.cell? ⟨gb364, 2, none⟩ = some (.slice A0_2 l0_2.length c0_2) := (blk_cell BK364.out 2).trans rfl
   have hfz44_0 := blk_frozen BK364.out 0
   have hfz44_1 := blk_frozen BK364.out 1
   have hfz44_2 := blk_frozen BK364.out 2
   go_upto_region 12 with (first | ((with_reducible refine gate_callee (f := 9) rfl ?_); refine goesL_ (some 31) rfl rfl Tryd.func9 (by kernel_rfl) rfl #[.agg #[.int .i64 a0_0, .bool a0_1, .slice A0_2 l0_2.length c0_2]] rfl (by (try simp only [List.map_toArray, List.map_cons, List.map_nil]); (rfl)) ?_; (with_reducible refine (laws_toRow.calls k a0_0 a0_1 _ _ l0_2 t382 t383 t384 _ ?side1 ?side2 A22.out).mono ?_); (case side1 => exact Kd.C_below HR0_2.out (by repeat ((with_reducible first | exact HB.out | refine below_set ?_ GE381.out)))); (case side2 => exact HC0_2.out); rintro e w45 ⟨v385, rfl, ho0, hb⟩; refine ⟨_, rfl, ?_⟩; have HO386 := A_.mk (Kd.R_lower (Kd.R_new' (Kd.R_new' ho0 (Kd.R_lt (by (with_reducible repeat (apply Kd.R_alloc)); exact (Kd.R_mono (Kd.R_far (p := ⟨gb381, 1, none⟩) (Kd.R_far (p := ⟨gb381, 0, none⟩) (Kd.R_types HO372.out BK381.out (by decide)) (fun _ hk => hk.2) (.int .i64 t378)) (fun _ hk => hk.2) (.int .i64 t379)) (fun _ h_ => h_.1))))) (Kd.R_lt (by (with_reducible repeat (apply Kd.R_alloc)); exact (Kd.R_mono (Kd.R_far (p := ⟨gb381, 1, none⟩) (Kd.R_far (p := ⟨gb381, 0, none⟩) (Kd.R_types HO377.out BK381.out (by decide)) (fun _ hk => hk.2) (.int .i64 t378)) (fun _ hk => hk.2) (.int .i64 t379)) (fun _ h_ => h_.1))))) (below_size (by repeat ((with_reducible first | exact HB.out | refine below_set ?_ GE381.out))))); replace HO372 := A_.mk (Kd.R_elder' (by (with_reducible repeat (apply Kd.R_alloc)); exact (Kd.R_mono (Kd.R_far (p := ⟨gb381, 1, none⟩) (Kd.R_far (p := ⟨gb381, 0, none⟩) (Kd.R_types HO372.out BK381.out (by decide)) (fun _ hk => hk.2) (.int .i64 t378)) (fun _ hk => hk.2) (.int .i64 t379)) (fun _ h_ => h_.1))) (Kd.R_base ho0) hb); replace HO377 := A_.mk (Kd.R_elder' (by (with_reducible repeat (apply Kd.R_alloc)); exact (Kd.R_mono (Kd.R_far (p := ⟨gb381, 1, none⟩) (Kd.R_far (p := ⟨gb381, 0, none⟩) (Kd.R_types HO377.out BK381.out (by decide)) (fun _ hk => hk.2) (.int .i64 t378)) (fun _ hk => hk.2) (.int .i64 t379)) (fun _ h_ => h_.1))) (Kd.R_base ho0) hb); replace BK364 := A_.mk (blk_below (g := gb364) (o := .cells #[.int .i64 a0_0, .bool a0_1, .slice A0_2 l0_2.length c0_2] 24 (0, 0)) (by (with_reducible repeat (refine blk_drewN ?_ _)); refine blk_far ?_ NB364_381.out _; (with_reducible repeat (refine blk_drewN ?_ _)); refine blk_far ?_ NB364_381.out _; (with_reducible repeat (refine blk_drewN ?_ _)); exact BK364.out) hb); replace BK365 := A_.mk (blk_below (g := gb365) (o := .cells #[.int .i64 a1_0, .bool a1_1, .slice A1_2 l1_2.length c1_2] 24 (0, 0)) (by (with_reducible repeat (refine blk_drewN ?_ _)); refine blk_far ?_ NB365_381.out _; (with_reducible repeat (refine blk_drewN ?_ _)); refine blk_far ?_ NB365_381.out _; (with_reducible repeat (refine blk_drewN ?_ _)); exact BK365.out) hb); replace BK381 := A_.mk (blk_below (g := gb381) (o := .cells #[.int .i64 t378, .int .i64 t379] 26 (0, 0)) (by (with_reducible repeat (refine blk_drewN ?_ _)); refine blk_put (cs := #[.int .i64 t378, .int .i64 0]) ?_ 1 _ rfl; (with_reducible repeat (refine blk_drewN ?_ _)); refine blk_put (cs := #[.int .i64 0, .int .i64 0]) ?_ 0 _ rfl; (with_reducible repeat (refine blk_drewN ?_ _)); exact BK381.out) hb); replace HB := A_.mk (below_step (by repeat ((with_reducible first | exact HB.out | refine below_set ?_ GE381.out))) hb); (try clear hb); (try clear ho0)) | ((with_reducible refine gate_dst (N := 8) rfl ?_); refine box_event ?hg (N := 8) ?hd (cs := #[.int .i64 0, .bool false, .slice none 0 0]) (t := 29) ?hr ?_; (case hd => rfl); (case hg => rfl); (case hr => (go_simp; done)); intro gb387 hg w46 hbox hb; replace HO372 := A_.mk (Kd.R_below HO372.out hb); replace HO377 := A_.mk (Kd.R_below HO377.out hb); replace HO386 := A_.mk (Kd.R_below HO386.out hb); have BK387 := A_.mk (hbox); have GE387 := A_.mk ((by rw [hg]; exact (below_size HB.out) : w.heap.size ≤ gb387)); replace HB := A_.mk (below_step HB.out hb); have NB364_387 := A_.mk ((by rw [hg]; exact Nat.ne_of_lt (blk_lt BK364.out) : gb364 ≠ gb387)); have NB387_364 := A_.mk ((by rw [hg]; exact Nat.ne_of_gt (blk_lt BK364.out) : gb387 ≠ gb364)); replace BK364 := A_.mk (blk_below BK364.out hb); have NB365_387 := A_.mk ((by rw [hg]; exact Nat.ne_of_lt (blk_lt BK365.out) : gb365 ≠ gb387)); have NB387_365 := A_.mk ((by rw [hg]; exact Nat.ne_of_gt (blk_lt BK365.out) : gb387 ≠ gb365)); replace BK365 := A_.mk (blk_below BK365.out hb); have NB381_387 := A_.mk ((by rw [hg]; exact Nat.ne_of_lt (blk_lt BK381.out) : gb381 ≠ gb387)); have NB387_381 := A_.mk ((by rw [hg]; exact Nat.ne_of_gt (blk_lt BK381.out) : gb387 ≠ gb381)); replace BK381 := A_.mk (blk_below BK381.out hb); clear hb hbox hg; have hnb47 := NB387_364.out; have hnc47 := NB364_387.out; have hnb48 := NB387_365.out; have hnc48 := NB365_387.out; have hnb49 := NB387_381.out; have hnc49 := NB381_387.out; have hcz50_0 : w46.cell? ⟨gb387, 0, none⟩ = some (.int .i64 0) := (blk_cell BK387.out 0).trans rfl; have hcz50_1 : w46.cell? ⟨gb387, 1, none⟩ = some (.bool false) := (blk_cell BK387.out 1).trans rfl; have hcz50_2 : w46.cell? ⟨gb387, 2, none⟩ = some (.slice none 0 0) := (blk_cell BK387.out 2).trans rfl; have hfz50_0 := blk_frozen BK387.out 0; have hfz50_1 := blk_frozen BK387.out 1; have hfz50_2 := blk_frozen BK387.out 2; obtain ⟨Ao51, co51, eo51⟩ := Kd.R_slice HO386.out; subst eo51; have hnb52 := NB365_381.out; have hnc52 := NB381_365.out; have hcz53_0 : w46.cell? ⟨gb365, 0, none⟩ = some (.int .i64 a1_0) := (blk_cell BK365.out 0).trans rfl; have hcz53_1 : w46.cell? ⟨gb365, 1, none⟩ = some (.bool a1_1) := (blk_cell BK365.out 1).trans rfl; have hcz53_2 : w46.cell? ⟨gb365, 2, none⟩ = some (.slice A1_2 l1_2.length c1_2) := (blk_cell BK365.out 2).trans rfl; have hfz53_0 := blk_frozen BK365.out 0; have hfz53_1 := blk_frozen BK365.out 1; have hfz53_2 := blk_frozen BK365.out 2) | ((with_reducible refine gate_callee (f := 9) rfl ?_); refine goesL_ (some 33) rfl rfl Tryd.func9 (by kernel_rfl) rfl #[.agg #[.int .i64 a1_0, .bool a1_1, .slice A1_2 l1_2.length c1_2]] rfl (by (try simp only [List.map_toArray, List.map_cons, List.map_nil]); (rfl)) ?_; (with_reducible refine (laws_toRow.calls k a1_0 a1_1 _ _ l1_2 t388 t389 t390 _ ?side1 ?side2 A23.out).mono ?_); (case side1 => exact Kd.C_below HR1_2.out (by repeat ((with_reducible first | exact HB.out | refine below_set ?_ GE387.out)))); (case side2 => exact HC1_2.out); rintro e w54 ⟨v391, rfl, ho0, hb⟩; refine ⟨_, rfl, ?_⟩; have HO392 := A_.mk (Kd.R_lower (Kd.R_new' (Kd.R_new' (Kd.R_new' ho0 (Kd.R_lt (by (with_reducible repeat (apply Kd.R_alloc)); exact (Kd.R_mono (Kd.R_far (p := ⟨gb387, 2, none⟩) (Kd.R_far (p := ⟨gb387, 1, none⟩) (Kd.R_far (p := ⟨gb387, 0, none⟩) (Kd.R_types HO372.out BK387.out (by decide)) (fun _ hk => hk.2) (.int .i64 t382)) (fun _ hk => hk.2) (.bool t383)) (fun _ hk => hk.2) (.slice Ao51 t384.length co51)) (fun _ h_ => h_.1))))) (Kd.R_lt (by (with_reducible repeat (apply Kd.R_alloc)); exact (Kd.R_mono (Kd.R_far (p := ⟨gb387, 2, none⟩) (Kd.R_far (p := ⟨gb387, 1, none⟩) (Kd.R_far (p := ⟨gb387, 0, none⟩) (Kd.R_types HO377.out BK387.out (by decide)) (fun _ hk => hk.2) (.int .i64 t382)) (fun _ hk => hk.2) (.bool t383)) (fun _ hk => hk.2) (.slice Ao51 t384.length co51)) (fun _ h_ => h_.1))))) (Kd.R_lt (by (with_reducible repeat (apply Kd.R_alloc)); exact (Kd.R_mono (Kd.R_far (p := ⟨gb387, 2, none⟩) (Kd.R_far (p := ⟨gb387, 1, none⟩) (Kd.R_far (p := ⟨gb387, 0, none⟩) (Kd.R_types HO386.out BK387.out (by decide)) (fun _ hk => hk.2) (.int .i64 t382)) (fun _ hk => hk.2) (.bool t383)) (fun _ hk => hk.2) (.slice Ao51 t384.length co51)) (fun _ h_ => h_.1))))) (below_size (by repeat ((with_reducible first | exact HB.out | refine below_set ?_ GE387.out))))); replace HO372 := A_.mk (Kd.R_elder' (by (with_reducible repeat (apply Kd.R_alloc)); exact (Kd.R_mono (Kd.R_far (p := ⟨gb387, 2, none⟩) (Kd.R_far (p := ⟨gb387, 1, none⟩) (Kd.R_far (p := ⟨gb387, 0, none⟩) (Kd.R_types HO372.out BK387.out (by decide)) (fun _ hk => hk.2) (.int .i64 t382)) (fun _ hk => hk.2) (.bool t383)) (fun _ hk => hk.2) (.slice Ao51 t384.length co51)) (fun _ h_ => h_.1))) (Kd.R_base ho0) hb); replace HO377 := A_.mk (Kd.R_elder' (by (with_reducible repeat (apply Kd.R_alloc)); exact (Kd.R_mono (Kd.R_far (p := ⟨gb387, 2, none⟩) (Kd.R_far (p := ⟨gb387, 1, none⟩) (Kd.R_far (p := ⟨gb387, 0, none⟩) (Kd.R_types HO377.out BK387.out (by decide)) (fun _ hk => hk.2) (.int .i64 t382)) (fun _ hk => hk.2) (.bool t383)) (fun _ hk => hk.2) (.slice Ao51 t384.length co51)) (fun _ h_ => h_.1))) (Kd.R_base ho0) hb); replace HO386 := A_.mk (Kd.R_elder' (by (with_reducible repeat (apply Kd.R_alloc)); exact (Kd.R_mono (Kd.R_far (p := ⟨gb387, 2, none⟩) (Kd.R_far (p := ⟨gb387, 1, none⟩) (Kd.R_far (p := ⟨gb387, 0, none⟩) (Kd.R_types HO386.out BK387.out (by decide)) (fun _ hk => hk.2) (.int .i64 t382)) (fun _ hk => hk.2) (.bool t383)) (fun _ hk => hk.2) (.slice Ao51 t384.length co51)) (fun _ h_ => h_.1))) (Kd.R_base ho0) hb); replace BK364 := A_.mk (blk_below (g := gb364) (o := .cells #[.int .i64 a0_0, .bool a0_1, .slice A0_2 l0_2.length c0_2] 24 (0, 0)) (by (with_reducible repeat (refine blk_drewN ?_ _)); refine blk_far ?_ NB364_387.out _; (with_reducible repeat (refine blk_drewN ?_ _)); refine blk_far ?_ NB364_387.out _; (with_reducible repeat (refine blk_drewN ?_ _)); refine blk_far ?_ NB364_387.out _; (with_reducible repeat (refine blk_drewN ?_ _)); exact BK364.out) hb); replace BK365 := A_.mk (blk_below (g := gb365) (o := .cells #[.int .i64 a1_0, .bool a1_1, .slice A1_2 l1_2.length c1_2] 24 (0, 0)) (by (with_reducible repeat (refine blk_drewN ?_ _)); refine blk_far ?_ NB365_387.out _; (with_reducible repeat (refine blk_drewN ?_ _)); refine blk_far ?_ NB365_387.out _; (with_reducible repeat (refine blk_drewN ?_ _)); refine blk_far ?_ NB365_387.out _; (with_reducible repeat (refine blk_drewN ?_ _)); exact BK365.out) hb); replace BK381 := A_.mk (blk_below (g := gb381) (o := .cells #[.int .i64 t378, .int .i64 t379] 26 (0, 0)) (by (with_reducible repeat (refine blk_drewN ?_ _)); refine blk_far ?_ NB381_387.out _; (with_reducible repeat (refine blk_drewN ?_ _)); refine blk_far ?_ NB381_387.out _; (with_reducible repeat (refine blk_drewN ?_ _)); refine blk_far ?_ NB381_387.out _; (with_reducible repeat (refine blk_drewN ?_ _)); exact BK381.out) hb); replace BK387 := A_.mk (blk_below (g := gb387) (o := .cells #[.int .i64 t382, .bool t383, .slice Ao51 t384.length co51] 29 (0, 0)) (by (with_reducible repeat (refine blk_drewN ?_ _)); refine blk_put (cs := #[.int .i64 t382, .bool t383, .slice none 0 0]) ?_ 2 _ rfl; (with_reducible repeat (refine blk_drewN ?_ _)); refine blk_put (cs := #[.int .i64 t382, .bool false, .slice none 0 0]) ?_ 1 _ rfl; (with_reducible repeat (refine blk_drewN ?_ _)); refine blk_put (cs := #[.int .i64 0, .bool false, .slice none 0 0]) ?_ 0 _ rfl; (with_reducible repeat (refine blk_drewN ?_ _)); exact BK387.out) hb); replace HB := A_.mk (below_step (by repeat ((with_reducible first | exact HB.out | refine below_set ?_ GE387.out))) hb); (try clear hb); (try clear ho0)) | ((with_reducible refine gate_dst (N := 9) rfl ?_); refine box_event ?hg (N := 9) ?hd (cs := #[.int .i64 0, .bool false, .slice none 0 0]) (t := 29) ?hr ?_; (case hd => rfl); (case hg => rfl); (case hr => (go_simp; done)); intro gb393 hg w55 hbox hb; replace HO372 := A_.mk (Kd.R_below HO372.out hb); replace HO377 := A_.mk (Kd.R_below HO377.out hb); replace HO386 := A_.mk (Kd.R_below HO386.out hb); replace HO392 := A_.mk (Kd.R_below HO392.out hb); have BK393 := A_.mk (hbox); have GE393 := A_.mk ((by rw [hg]; exact (below_size HB.out) : w.heap.size ≤ gb393)); replace HB := A_.mk (below_step HB.out hb); have NB364_393 := A_.mk ((by rw [hg]; exact Nat.ne_of_lt (blk_lt BK364.out) : gb364 ≠ gb393)); have NB393_364 := A_.mk ((by rw [hg]; exact Nat.ne_of_gt (blk_lt BK364.out) : gb393 ≠ gb364)); replace BK364 := A_.mk (blk_below BK364.out hb); have NB365_393 := A_.mk ((by rw [hg]; exact Nat.ne_of_lt (blk_lt BK365.out) : gb365 ≠ gb393)); have NB393_365 := A_.mk ((by rw [hg]; exact Nat.ne_of_gt (blk_lt BK365.out) : gb393 ≠ gb365)); replace BK365 := A_.mk (blk_below BK365.out hb); have NB381_393 := A_.mk ((by rw [hg]; exact Nat.ne_of_lt (blk_lt BK381.out) : gb381 ≠ gb393)); have NB393_381 := A_.mk ((by rw [hg]; exact Nat.ne_of_gt (blk_lt BK381.out) : gb393 ≠ gb381)); replace BK381 := A_.mk (blk_below BK381.out hb); have NB387_393 := A_.mk ((by rw [hg]; exact Nat.ne_of_lt (blk_lt BK387.out) : gb387 ≠ gb393)); have NB393_387 := A_.mk ((by rw [hg]; exact Nat.ne_of_gt (blk_lt BK387.out) : gb393 ≠ gb387)); replace BK387 := A_.mk (blk_below BK387.out hb); clear hb hbox hg; have hnb56 := NB393_364.out; have hnc56 := NB364_393.out; have hnb57 := NB393_365.out; have hnc57 := NB365_393.out; have hnb58 := NB393_381.out; have hnc58 := NB381_393.out; have hnb59 := NB393_387.out; have hnc59 := NB387_393.out; have hcz60_0 : w55.cell? ⟨gb393, 0, none⟩ = some (.int .i64 0) := (blk_cell BK393.out 0).trans rfl; have hcz60_1 : w55.cell? ⟨gb393, 1, none⟩ = some (.bool false) := (blk_cell BK393.out 1).trans rfl; have hcz60_2 : w55.cell? ⟨gb393, 2, none⟩ = some (.slice none 0 0) := (blk_cell BK393.out 2).trans rfl; have hfz60_0 := blk_frozen BK393.out 0; have hfz60_1 := blk_frozen BK393.out 1; have hfz60_2 := blk_frozen BK393.out 2; obtain ⟨Ao61, co61, eo61⟩ := Kd.R_slice HO392.out; subst eo61; have hcz62_0 : w55.cell? ⟨gb387, 0, none⟩ = some (.int .i64 t382) := (blk_cell BK387.out 0).trans rfl; have hcz62_1 : w55.cell? ⟨gb387, 1, none⟩ = some (.bool t383) := (blk_cell BK387.out 1).trans rfl; have hcz62_2 : w55.cell? ⟨gb387, 2, none⟩ = some (.slice Ao51 t384.length co51) := (blk_cell BK387.out 2).trans rfl; have hfz62_0 := blk_frozen BK387.out 0; have hfz62_1 := blk_frozen BK387.out 1; have hfz62_2 := blk_frozen BK387.out 2) | ((with_reducible refine gate_callee (f := 10) rfl ?_); refine goesL_ (some 37) rfl rfl Tryd.func10 (by kernel_rfl) rfl #[.agg #[.int .i64 t382, .bool t383, .slice Ao51 t384.length co51], .agg #[.int .i64 t388, .bool t389, .slice Ao61 t390.length co61]] rfl (by (try simp only [List.map_toArray, List.map_cons, List.map_nil]); (rfl)) ?_; (with_reducible refine (impl_ChanceOfFinal.calls k t382 t383 _ _ t384 t388 t389 _ _ t390 t394 t395 t396 _ ?side1 ?side2 ?side3 ?side4 ?side5 A24.out).mono ?_); (case side1 => refine (Kd.R_reads' (e := 3) (base := w.heap.size) (ok := fun k_ => (((True ∧ some k_ ≠ (v371 : Value).ownBlock) ∧ some k_ ≠ (v376 : Value).ownBlock) ∧ some k_ ≠ (.slice Ao61 t390.length co61 : Value).ownBlock)) (n := t384.length) (c := co51) ?_).2.2; exact (by (with_reducible repeat (apply Kd.R_alloc)); exact (Kd.R_mono (Kd.R_far (p := ⟨gb393, 2, none⟩) (Kd.R_far (p := ⟨gb393, 1, none⟩) (Kd.R_far (p := ⟨gb393, 0, none⟩) (Kd.R_types HO386.out BK393.out (by decide)) (fun _ hk => hk.2) (.int .i64 t388)) (fun _ hk => hk.2) (.bool t389)) (fun _ hk => hk.2) (.slice Ao61 t390.length co61)) (fun _ h_ => h_.1)))); (case side2 => exact (Kd.R_reads' HO386.out).2.1); (case side3 => refine (Kd.R_reads' (e := 3) (base := w.heap.size) (ok := fun k_ => (((True ∧ some k_ ≠ (v371 : Value).ownBlock) ∧ some k_ ≠ (v376 : Value).ownBlock) ∧ some k_ ≠ (.slice Ao51 t384.length co51 : Value).ownBlock)) (n := t390.length) (c := co61) ?_).2.2; exact (by (with_reducible repeat (apply Kd.R_alloc)); exact (Kd.R_mono (Kd.R_far (p := ⟨gb393, 2, none⟩) (Kd.R_far (p := ⟨gb393, 1, none⟩) (Kd.R_far (p := ⟨gb393, 0, none⟩) (Kd.R_types HO392.out BK393.out (by decide)) (fun _ hk => hk.2) (.int .i64 t388)) (fun _ hk => hk.2) (.bool t389)) (fun _ hk => hk.2) (.slice Ao61 t390.length co61)) (fun _ h_ => h_.1)))); (case side4 => exact (Kd.R_reads' HO392.out).2.1); (case side5 => exact XTab.below HT.out (by repeat ((with_reducible first | exact HB.out | refine below_set ?_ GE393.out)))); rintro e w63 ⟨rfl, hb⟩; refine ⟨_, rfl, ?_⟩; replace HO372 := A_.mk (Kd.R_below (by (with_reducible repeat (apply Kd.R_alloc)); exact (Kd.R_mono (Kd.R_far (p := ⟨gb393, 2, none⟩) (Kd.R_far (p := ⟨gb393, 1, none⟩) (Kd.R_far (p := ⟨gb393, 0, none⟩) (Kd.R_types HO372.out BK393.out (by decide)) (fun _ hk => hk.2) (.int .i64 t388)) (fun _ hk => hk.2) (.bool t389)) (fun _ hk => hk.2) (.slice Ao61 t390.length co61)) (fun _ h_ => h_.1))) hb); replace HO377 := A_.mk (Kd.R_below (by (with_reducible repeat (apply Kd.R_alloc)); exact (Kd.R_mono (Kd.R_far (p := ⟨gb393, 2, none⟩) (Kd.R_far (p := ⟨gb393, 1, none⟩) (Kd.R_far (p := ⟨gb393, 0, none⟩) (Kd.R_types HO377.out BK393.out (by decide)) (fun _ hk => hk.2) (.int .i64 t388)) (fun _ hk => hk.2) (.bool t389)) (fun _ hk => hk.2) (.slice Ao61 t390.length co61)) (fun _ h_ => h_.1))) hb); replace HO386 := A_.mk (Kd.R_below (by (with_reducible repeat (apply Kd.R_alloc)); exact (Kd.R_mono (Kd.R_far (p := ⟨gb393, 2, none⟩) (Kd.R_far (p := ⟨gb393, 1, none⟩) (Kd.R_far (p := ⟨gb393, 0, none⟩) (Kd.R_types HO386.out BK393.out (by decide)) (fun _ hk => hk.2) (.int .i64 t388)) (fun _ hk => hk.2) (.bool t389)) (fun _ hk => hk.2) (.slice Ao61 t390.length co61)) (fun _ h_ => h_.1))) hb); replace HO392 := A_.mk (Kd.R_below (by (with_reducible repeat (apply Kd.R_alloc)); exact (Kd.R_mono (Kd.R_far (p := ⟨gb393, 2, none⟩) (Kd.R_far (p := ⟨gb393, 1, none⟩) (Kd.R_far (p := ⟨gb393, 0, none⟩) (Kd.R_types HO392.out BK393.out (by decide)) (fun _ hk => hk.2) (.int .i64 t388)) (fun _ hk => hk.2) (.bool t389)) (fun _ hk => hk.2) (.slice Ao61 t390.length co61)) (fun _ h_ => h_.1))) hb); replace BK364 := A_.mk (blk_below (g := gb364) (o := .cells #[.int .i64 a0_0, .bool a0_1, .slice A0_2 l0_2.length c0_2] 24 (0, 0)) (by (with_reducible repeat (refine blk_drewN ?_ _)); refine blk_far ?_ NB364_393.out _; (with_reducible repeat (refine blk_drewN ?_ _)); refine blk_far ?_ NB364_393.out _; (with_reducible repeat (refine blk_drewN ?_ _)); refine blk_far ?_ NB364_393.out _; (with_reducible repeat (refine blk_drewN ?_ _)); exact BK364.out) hb); replace BK365 := A_.mk (blk_below (g := gb365) (o := .cells #[.int .i64 a1_0, .bool a1_1, .slice A1_2 l1_2.length c1_2] 24 (0, 0)) (by (with_reducible repeat (refine blk_drewN ?_ _)); refine blk_far ?_ NB365_393.out _; (with_reducible repeat (refine blk_drewN ?_ _)); refine blk_far ?_ NB365_393.out _; (with_reducible repeat (refine blk_drewN ?_ _)); refine blk_far ?_ NB365_393.out _; (with_reducible repeat (refine blk_drewN ?_ _)); exact BK365.out) hb); replace BK381 := A_.mk (blk_below (g := gb381) (o := .cells #[.int .i64 t378, .int .i64 t379] 26 (0, 0)) (by (with_reducible repeat (refine blk_drewN ?_ _)); refine blk_far ?_ NB381_393.out _; (with_reducible repeat (refine blk_drewN ?_ _)); refine blk_far ?_ NB381_393.out _; (with_reducible repeat (refine blk_drewN ?_ _)); refine blk_far ?_ NB381_393.out _; (with_reducible repeat (refine blk_drewN ?_ _)); exact BK381.out) hb); replace BK387 := A_.mk (blk_below (g := gb387) (o := .cells #[.int .i64 t382, .bool t383, .slice Ao51 t384.length co51] 29 (0, 0)) (by (with_reducible repeat (refine blk_drewN ?_ _)); refine blk_far ?_ NB387_393.out _; (with_reducible repeat (refine blk_drewN ?_ _)); refine blk_far ?_ NB387_393.out _; (with_reducible repeat (refine blk_drewN ?_ _)); refine blk_far ?_ NB387_393.out _; (with_reducible repeat (refine blk_drewN ?_ _)); exact BK387.out) hb); replace BK393 := A_.mk (blk_below (g := gb393) (o := .cells #[.int .i64 t388, .bool t389, .slice Ao61 t390.length co61] 29 (0, 0)) (by (with_reducible repeat (refine blk_drewN ?_ _)); refine blk_put (cs := #[.int .i64 t388, .bool t389, .slice none 0 0]) ?_ 2 _ rfl; (with_reducible repeat (refine blk_drewN ?_ _)); refine blk_put (cs := #[.int .i64 t388, .bool false, .slice none 0 0]) ?_ 1 _ rfl; (with_reducible repeat (refine blk_drewN ?_ _)); refine blk_put (cs := #[.int .i64 0, .bool false, .slice none 0 0]) ?_ 0 _ rfl; (with_reducible repeat (refine blk_drewN ?_ _)); exact BK393.out) hb); replace HB := A_.mk (below_step (by repeat ((with_reducible first | exact HB.out | refine below_set ?_ GE393.out))) hb); (try clear hb)) | ((with_reducible refine gate_dst (N := 10) rfl ?_); refine box_event ?hg (N := 10) ?hd (cs := #[.int .i64 0, .int .i64 0]) (t := 26) ?hr ?_; (case hd => rfl); (case hg => rfl); (case hr => (go_simp; done)); intro gb397 hg w64 hbox hb; replace HO372 := A_.mk (Kd.R_below HO372.out hb); replace HO377 := A_.mk (Kd.R_below HO377.out hb); replace HO386 := A_.mk (Kd.R_below HO386.out hb); replace HO392 := A_.mk (Kd.R_below HO392.out hb); have BK397 := A_.mk (hbox); have GE397 := A_.mk ((by rw [hg]; exact (below_size HB.out) : w.heap.size ≤ gb397)); replace HB := A_.mk (below_step HB.out hb); have NB364_397 := A_.mk ((by rw [hg]; exact Nat.ne_of_lt (blk_lt BK364.out) : gb364 ≠ gb397)); have NB397_364 := A_.mk ((by rw [hg]; exact Nat.ne_of_gt (blk_lt BK364.out) : gb397 ≠ gb364)); replace BK364 := A_.mk (blk_below BK364.out hb); have NB365_397 := A_.mk ((by rw [hg]; exact Nat.ne_of_lt (blk_lt BK365.out) : gb365 ≠ gb397)); have NB397_365 := A_.mk ((by rw [hg]; exact Nat.ne_of_gt (blk_lt BK365.out) : gb397 ≠ gb365)); replace BK365 := A_.mk (blk_below BK365.out hb); have NB381_397 := A_.mk ((by rw [hg]; exact Nat.ne_of_lt (blk_lt BK381.out) : gb381 ≠ gb397)); have NB397_381 := A_.mk ((by rw [hg]; exact Nat.ne_of_gt (blk_lt BK381.out) : gb397 ≠ gb381)); replace BK381 := A_.mk (blk_below BK381.out hb); have NB387_397 := A_.mk ((by rw [hg]; exact Nat.ne_of_lt (blk_lt BK387.out) : gb387 ≠ gb397)); have NB397_387 := A_.mk ((by rw [hg]; exact Nat.ne_of_gt (blk_lt BK387.out) : gb397 ≠ gb387)); replace BK387 := A_.mk (blk_below BK387.out hb); have NB393_397 := A_.mk ((by rw [hg]; exact Nat.ne_of_lt (blk_lt BK393.out) : gb393 ≠ gb397)); have NB397_393 := A_.mk ((by rw [hg]; exact Nat.ne_of_gt (blk_lt BK393.out) : gb397 ≠ gb393)); replace BK393 := A_.mk (blk_below BK393.out hb); clear hb hbox hg; have hnb65 := NB397_364.out; have hnc65 := NB364_397.out; have hnb66 := NB397_365.out; have hnc66 := NB365_397.out; have hnb67 := NB397_381.out; have hnc67 := NB381_397.out; have hnb68 := NB397_387.out; have hnc68 := NB387_397.out; have hnb69 := NB397_393.out; have hnc69 := NB393_397.out; have hcz70_0 : w64.cell? ⟨gb397, 0, none⟩ = some (.int .i64 0) := (blk_cell BK397.out 0).trans rfl; have hcz70_1 : w64.cell? ⟨gb397, 1, none⟩ = some (.int .i64 0) := (blk_cell BK397.out 1).trans rfl; have hfz70_0 := blk_frozen BK397.out 0; have hfz70_1 := blk_frozen BK397.out 1))
   skip
   go_cut [48] (fun v48 wc => ∃ (kq : Nat) (x48_24 : Bool), v48 = .bool x48_24 ∧ A_ (laws_FnExactChanceOfFinal.j0 kq x48_24 a0_0 a0_1 l0_2 a1_0 a1_1 l1_2 t382 t383 t384 t388 t389 t390 = some true) ∧ A_ (kq ≤ k) ∧ A_ (Kd.R (Kd.int .i64) 3 wc w.heap.size (fun k_ => some k_ ≠ ((.slice Ao61 t390.length co61) : Value).ownBlock) (.slice Ao51 t384.length co51) t384) ∧ A_ (Kd.R (Kd.int .i64) 3 wc w.heap.size (fun k_ => some k_ ≠ ((.slice Ao51 t384.length co51) : Value).ownBlock) (.slice Ao61 t390.length co61) t390) ∧ A_ (wc.heap[gb364]? = some (.cells #[.int .i64 a0_0, .bool a0_1, (.slice A0_2 l0_2.length c0_2)] 24 (0, 0))) ∧ A_ (wc.heap[gb365]? = some (.cells #[.int .i64 a1_0, .bool a1_1, (.slice A1_2 l1_2.length c1_2)] 24 (0, 0))) ∧ A_ (wc.heap[gb381]? = some (.cells #[.int .i64 t378, .int .i64 t379] 26 (0, 0))) ∧ A_ (wc.heap[gb387]? = some (.cells #[.int .i64 t382, .bool t383, (.slice Ao51 t384.length co51)] 29 (0, 0))) ∧ A_ (wc.heap[gb393]? = some (.cells #[.int .i64 t388, .bool t389, (.slice Ao61 t390.length co61)] 29 (0, 0))) ∧ A_ (wc.heap[gb397]? = some (.cells #[.int .i64 t394, .int .i64 t395] 26 (0, 0))) ∧ A_ (Below w.heap.size w wc))
   case first =>
    have H := HC25.out
    clear HC25
    replace H := Option.bind_eq_some_iff.mp H
    obtain ⟨t398, A710, H⟩ := H
    replace H : (if t398 = true then (laws_FnExactChanceOfFinal.j0 k (t396 != t380) a0_0 a0_1 l0_2 a1_0 a1_1 l1_2 t382 t383 t384 t388 t389 t390) else (laws_FnExactChanceOfFinal.j0 k true a0_0 a0_1 l0_2 a1_0 a1_1 l1_2 t382 t383 t384 t388 t389 t390)) = some true := H
    have A71 := A_.mk A710
    clear A710
    by_cases c72 : t398 = true
    ·subst c72
     have H1 : (laws_FnExactChanceOfFinal.j0 k (t396 != t380) a0_0 a0_1 l0_2 a1_0 a1_1 l1_2 t382 t383 t384 t388 t389 t390) = some true := by rw [if_pos rfl] at H; exact H
     clear H
     have H := H1
     clear H1
     have H' := A_.mk H
     clear H
     have hnb73 := NB397_364.out
     have hnc73 := NB364_397.out
     have hnb74 := NB397_365.out
     have hnc74 := NB365_397.out
     have hnb75 := NB397_381.out
     have hnc75 := NB381_397.out
     have hnb76 := NB397_387.out
     have hnc76 := NB387_397.out
     have hnb77 := NB397_393.out
     have hnc77 := NB393_397.out
     have hcz78_0 : w64.cell? ⟨gb397, 0, none⟩ = some (.int .i64 0) := (blk_cell BK397.out 0).trans rfl
     have hcz78_1 : w64.cell? ⟨gb397, 1, none⟩ = some (.int .i64 0) := (blk_cell BK397.out 1).trans rfl
     have hfz78_0 := blk_frozen BK397.out 0
     have hfz78_1 := blk_frozen BK397.out 1
     have hnb79 := NB381_364.out
     have hnc79 := NB364_381.out
     have hnb80 := NB381_365.out
     have hnc80 := NB365_381.out
     have hnb81 := NB381_387.out
     have hnc81 := NB387_381.out
     have hnb82 := NB381_393.out
     have hnc82 := NB393_381.out
     have hcz83_0 : w64.cell? ⟨gb381, 0, none⟩ = some (.int .i64 t378) := (blk_cell BK381.out 0).trans rfl
     have hcz83_1 : w64.cell? ⟨gb381, 1, none⟩ = some (.int .i64 t379) := (blk_cell BK381.out 1).trans rfl
     have hfz83_0 := blk_frozen BK381.out 0
     have hfz83_1 := blk_frozen BK381.out 1
     go_wp2_with ((with_reducible refine gate_callee (f := 11) rfl ?_); refine goesL_ (some 42) rfl rfl Tryd.func11 (by kernel_rfl) rfl #[.agg #[.int .i64 t394, .int .i64 t395], .agg #[.int .i64 t378, .int .i64 t379]] rfl (by (try simp only [List.map_toArray, List.map_cons, List.map_nil]); (rfl)) ?_; (with_reducible refine (laws_eqIntA2.calls k t394 t395 t378 t379 true _ A71.out).mono ?_); rintro e w84 ⟨rfl, hb⟩; refine ⟨_, rfl, ?_⟩; replace HO372 := A_.mk (Kd.R_below (by (with_reducible repeat (apply Kd.R_alloc)); exact (Kd.R_mono (Kd.R_far (p := ⟨gb397, 1, none⟩) (Kd.R_far (p := ⟨gb397, 0, none⟩) (Kd.R_types HO372.out BK397.out (by decide)) (fun _ hk => hk.2) (.int .i64 t394)) (fun _ hk => hk.2) (.int .i64 t395)) (fun _ h_ => h_.1))) hb); replace HO377 := A_.mk (Kd.R_below (by (with_reducible repeat (apply Kd.R_alloc)); exact (Kd.R_mono (Kd.R_far (p := ⟨gb397, 1, none⟩) (Kd.R_far (p := ⟨gb397, 0, none⟩) (Kd.R_types HO377.out BK397.out (by decide)) (fun _ hk => hk.2) (.int .i64 t394)) (fun _ hk => hk.2) (.int .i64 t395)) (fun _ h_ => h_.1))) hb); replace HO386 := A_.mk (Kd.R_below (by (with_reducible repeat (apply Kd.R_alloc)); exact (Kd.R_mono (Kd.R_far (p := ⟨gb397, 1, none⟩) (Kd.R_far (p := ⟨gb397, 0, none⟩) (Kd.R_types HO386.out BK397.out (by decide)) (fun _ hk => hk.2) (.int .i64 t394)) (fun _ hk => hk.2) (.int .i64 t395)) (fun _ h_ => h_.1))) hb); replace HO392 := A_.mk (Kd.R_below (by (with_reducible repeat (apply Kd.R_alloc)); exact (Kd.R_mono (Kd.R_far (p := ⟨gb397, 1, none⟩) (Kd.R_far (p := ⟨gb397, 0, none⟩) (Kd.R_types HO392.out BK397.out (by decide)) (fun _ hk => hk.2) (.int .i64 t394)) (fun _ hk => hk.2) (.int .i64 t395)) (fun _ h_ => h_.1))) hb); replace BK364 := A_.mk (blk_below (g := gb364) (o := .cells #[.int .i64 a0_0, .bool a0_1, .slice A0_2 l0_2.length c0_2] 24 (0, 0)) (by (with_reducible repeat (refine blk_drewN ?_ _)); refine blk_far ?_ NB364_397.out _; (with_reducible repeat (refine blk_drewN ?_ _)); refine blk_far ?_ NB364_397.out _; (with_reducible repeat (refine blk_drewN ?_ _)); exact BK364.out) hb); replace BK365 := A_.mk (blk_below (g := gb365) (o := .cells #[.int .i64 a1_0, .bool a1_1, .slice A1_2 l1_2.length c1_2] 24 (0, 0)) (by (with_reducible repeat (refine blk_drewN ?_ _)); refine blk_far ?_ NB365_397.out _; (with_reducible repeat (refine blk_drewN ?_ _)); refine blk_far ?_ NB365_397.out _; (with_reducible repeat (refine blk_drewN ?_ _)); exact BK365.out) hb); replace BK381 := A_.mk (blk_below (g := gb381) (o := .cells #[.int .i64 t378, .int .i64 t379] 26 (0, 0)) (by (with_reducible repeat (refine blk_drewN ?_ _)); refine blk_far ?_ NB381_397.out _; (with_reducible repeat (refine blk_drewN ?_ _)); refine blk_far ?_ NB381_397.out _; (with_reducible repeat (refine blk_drewN ?_ _)); exact BK381.out) hb); replace BK387 := A_.mk (blk_below (g := gb387) (o := .cells #[.int .i64 t382, .bool t383, .slice Ao51 t384.length co51] 29 (0, 0)) (by (with_reducible repeat (refine blk_drewN ?_ _)); refine blk_far ?_ NB387_397.out _; (with_reducible repeat (refine blk_drewN ?_ _)); refine blk_far ?_ NB387_397.out _; (with_reducible repeat (refine blk_drewN ?_ _)); exact BK387.out) hb); replace BK393 := A_.mk (blk_below (g := gb393) (o := .cells #[.int .i64 t388, .bool t389, .slice Ao61 t390.length co61] 29 (0, 0)) (by (with_reducible repeat (refine blk_drewN ?_ _)); refine blk_far ?_ NB393_397.out _; (with_reducible repeat (refine blk_drewN ?_ _)); refine blk_far ?_ NB393_397.out _; (with_reducible repeat (refine blk_drewN ?_ _)); exact BK393.out) hb); replace BK397 := A_.mk (blk_below (g := gb397) (o := .cells #[.int .i64 t394, .int .i64 t395] 26 (0, 0)) (by (with_reducible repeat (refine blk_drewN ?_ _)); refine blk_put (cs := #[.int .i64 t394, .int .i64 0]) ?_ 1 _ rfl; (with_reducible repeat (refine blk_drewN ?_ _)); refine blk_put (cs := #[.int .i64 0, .int .i64 0]) ?_ 0 _ rfl; (with_reducible repeat (refine blk_drewN ?_ _)); exact BK397.out) hb); replace HB := A_.mk (below_step (by repeat ((with_reducible first | exact HB.out | refine below_set ?_ GE397.out))) hb); (try clear hb))
     go_meet
     case rel => exact ⟨_, ((t396 != t380)), (by rfl), H', ⟨by omega⟩, ⟨by (with_reducible repeat (apply Kd.R_alloc)); exact Kd.R_mono HO386.out (fun _ hk => hk.2)⟩, ⟨by (with_reducible repeat (apply Kd.R_alloc)); exact Kd.R_mono HO392.out (fun _ hk => hk.2)⟩, ⟨by (with_reducible repeat (refine blk_drewN ?_ _)); exact BK364.out⟩, ⟨by (with_reducible repeat (refine blk_drewN ?_ _)); exact BK365.out⟩, ⟨by (with_reducible repeat (refine blk_drewN ?_ _)); exact BK381.out⟩, ⟨by (with_reducible repeat (refine blk_drewN ?_ _)); exact BK387.out⟩, ⟨by (with_reducible repeat (refine blk_drewN ?_ _)); exact BK393.out⟩, ⟨by (with_reducible repeat (refine blk_drewN ?_ _)); exact BK397.out⟩, ⟨by repeat ((with_reducible (exact HB.out)))⟩⟩
    ·replace c72 := Bool.eq_false_iff.mpr c72
     subst c72
     have H1 : (laws_FnExactChanceOfFinal.j0 k true a0_0 a0_1 l0_2 a1_0 a1_1 l1_2 t382 t383 t384 t388 t389 t390) = some true := by rw [if_neg (show ¬ (false = true) by decide)] at H; exact H
     clear H
     have H := H1
     clear H1
     exact absurd H (laws_FnExactChanceOfFinal.j0_no _ _ _ _ _ _ _ _ _ _ _ _ _)
   case rest =>
    clear HC25
    try clear c1
    try clear p2
    try clear c4
    try clear c5
    try clear c6
    try clear p6
    try clear c7
    try clear c8
    try clear c9
    try clear c10
    try clear c11
    try clear c43
    try clear c47
    try clear c48
    try clear c49
    try clear c52
    try clear c56
    try clear c57
    try clear c58
    try clear c59
    try clear p64
    try clear c65
    try clear c66
    try clear c67
    try clear c68
    try clear c69
    try clear c72
    try clear c73
    try clear c74
    try clear c75
    try clear c76
    try clear c77
    try clear c79
    try clear c80
    try clear c81
    try clear c82
    try clear hcz44_0
    try clear hcz44_1
    try clear hcz44_2
    try clear hcz50_0
    try clear hcz50_1
    try clear hcz50_2
    try clear hcz53_0
    try clear hcz53_1
    try clear hcz53_2
    try clear hcz60_0
    try clear hcz60_1
    try clear hcz60_2
    try clear hcz62_0
    try clear hcz62_1
    try clear hcz62_2
    try clear hcz70_0
    try clear hcz70_1
    try clear hcz78_0
    try clear hcz78_1
    try clear hcz83_0
    try clear hcz83_1
    try clear hfz44_0
    try clear hfz44_1
    try clear hfz44_2
    try clear hfz50_0
    try clear hfz50_1
    try clear hfz50_2
    try clear hfz53_0
    try clear hfz53_1
    try clear hfz53_2
    try clear hfz60_0
    try clear hfz60_1
    try clear hfz60_2
    try clear hfz62_0
    try clear hfz62_1
    try clear hfz62_2
    try clear hfz70_0
    try clear hfz70_1
    try clear hfz78_0
    try clear hfz78_1
    try clear hfz83_0
    try clear hfz83_1
    obtain ⟨kq, x48_24, rfl, HA, HJ24, HO_388002, HO_394002, BK364, BK365, BK381, BK387, BK393, BK397, HB⟩ := hcut
    cases kq with
    | zero => exact absurd HA.out (by simp [laws_FnExactChanceOfFinal.j0])
    | succ kj24 =>
     have H := HA.out
     clear HA
     simp only [laws_FnExactChanceOfFinal.j0] at H
     by_cases c85 : x48_24 = true
     ·subst c85
      have H1 : (some false) = some true := by rw [if_pos rfl] at H; exact H
      clear H
      have H := H1
      clear H1
      exact absurd (Option.some.inj H) (by decide)
     ·replace c85 := Bool.eq_false_iff.mpr c85
      subst c85
      have H1 : ((laws_toRow.f kj24 a0_0 a0_1 l0_2).bind fun bt399 => ((laws_eqRow.f kj24 t382 t383 t384 bt399.1 bt399.2.1 bt399.2.2).bind fun t404 => (if t404 = true then ((laws_toRow.f kj24 a1_0 a1_1 l1_2).bind fun bt405 => ((laws_eqRow.f kj24 t388 t389 t390 bt405.1 bt405.2.1 bt405.2.2).bind fun t410 => (if t410 = true then (some true) else (some false)))) else (some false)))) = some true := by rw [if_neg (show ¬ (false = true) by decide)] at H; exact H
      clear H
      have H := H1
      clear H1
      replace H := Option.bind_eq_some_iff.mp H
      obtain ⟨⟨t399, t400, t401⟩, A860, H⟩ := H
      replace H : ((laws_eqRow.f kj24 t382 t383 t384 t399 t400 t401).bind fun t404 => (if t404 = true then ((laws_toRow.f kj24 a1_0 a1_1 l1_2).bind fun bt405 => ((laws_eqRow.f kj24 t388 t389 t390 bt405.1 bt405.2.1 bt405.2.2).bind fun t410 => (if t410 = true then (some true) else (some false)))) else (some false))) = some true := H
      have A86 := A_.mk A860
      clear A860
      replace H := Option.bind_eq_some_iff.mp H
      obtain ⟨t404, A870, H⟩ := H
      replace H : (if t404 = true then ((laws_toRow.f kj24 a1_0 a1_1 l1_2).bind fun bt405 => ((laws_eqRow.f kj24 t388 t389 t390 bt405.1 bt405.2.1 bt405.2.2).bind fun t410 => (if t410 = true then (some true) else (some false)))) else (some false)) = some true := H
      have A87 := A_.mk A870
      clear A870
      by_cases c88 : t404 = true
      ·subst c88
       have H1 : ((laws_toRow.f kj24 a1_0 a1_1 l1_2).bind fun bt405 => ((laws_eqRow.f kj24 t388 t389 t390 bt405.1 bt405.2.1 bt405.2.2).bind fun t410 => (if t410 = true then (some true) else (some false)))) = some true := by rw [if_pos rfl] at H; exact H
       clear H
       have H := H1
       clear H1
       replace H := Option.bind_eq_some_iff.mp H
       obtain ⟨⟨t405, t406, t407⟩, A890, H⟩ := H
       replace H : ((laws_eqRow.f kj24 t388 t389 t390 t405 t406 t407).bind fun t410 => (if t410 = true then (some true) else (some false))) = some true := H
       have A89 := A_.mk A890
       clear A890
       replace H := Option.bind_eq_some_iff.mp H
       obtain ⟨t410, A900, H⟩ := H
       replace H : (if t410 = true then (some true) else (some false)) = some true := H
       have A90 := A_.mk A900
       clear A900
       by_cases c91 : t410 = true
       ·subst c91
        have H1 : (some true) = some true := rfl
        clear H
        have H := H1
        clear H1
        clear H
        try go_wp2
        replace HO_388002 := A_.mk (Kd.R_drew HO_388002.out)
        replace HO_394002 := A_.mk (Kd.R_drew HO_394002.out)
        replace BK364 := A_.mk (blk_drew BK364.out)
        replace BK365 := A_.mk (blk_drew BK365.out)
        replace BK381 := A_.mk (blk_drew BK381.out)
        replace BK387 := A_.mk (blk_drew BK387.out)
        replace BK393 := A_.mk (blk_drew BK393.out)
        replace BK397 := A_.mk (blk_drew BK397.out)
        replace HB := A_.mk (below_drew1 HB.out)
        refine start_ (n := 5) (S := fun w' => w'.cell? ⟨gb387, 0, none⟩ = some (.int .i64 t382) ∧ w'.cell? ⟨gb387, 1, none⟩ = some (.bool t383) ∧ w'.cell? ⟨gb387, 2, none⟩ = some (.slice Ao51 t384.length co51) ∧ w'.cell? ⟨gb364, 0, none⟩ = some (.int .i64 a0_0) ∧ w'.cell? ⟨gb364, 1, none⟩ = some (.bool a0_1) ∧ w'.cell? ⟨gb364, 2, none⟩ = some (.slice A0_2 l0_2.length c0_2)) (ds := []) (m_ 5 0) (by kernel_rfl) rfl rfl ⟨(blk_cell BK387.out 0).trans rfl, (blk_cell BK387.out 1).trans rfl, (blk_cell BK387.out 2).trans rfl, (blk_cell BK364.out 0).trans rfl, (blk_cell BK364.out 1).trans rfl, (blk_cell BK364.out 2).trans rfl⟩ (fun hHeld => ?_)
        generalize wc.drew = w92 at HO_388002 HO_394002 BK364 BK365 BK381 BK387 BK393 BK397 HB hHeld ⊢
        refine take_ (i := 0) (N := some 49) (v := ?_) (a' := ?_) (m_ 5 1) rfl rfl (by kernel_rfl) (fun _ _ _ h => h) (Or.inl ⟨by rfl, ?_⟩) hHeld ?_ ?_
        rotate_left
        ·rintro w' ⟨s0, s1, s2, s3, s4, s5⟩
         go_simp
         with_reducible rfl
        rotate_left
        ·simp only [Act.put, sI_, s0_, s1_, i64_w, i32_w]
         rfl
        refine take_ (i := 1) (N := some 50) (v := ?_) (a' := ?_) (m_ 5 3) rfl rfl (by kernel_rfl) (fun _ _ _ h => h) (Or.inl ⟨by rfl, ?_⟩) hHeld ?_ ?_
        rotate_left
        ·rintro w' ⟨s0, s1, s2, s3, s4, s5⟩
         go_simp
         with_reducible rfl
        rotate_left
        ·simp only [Act.put, sI_, s0_, s1_, i64_w, i32_w]
         rfl
        refine one_ (i := 2) (N := some 51) (m_ 5 7) rfl rfl (by kernel_rfl) (by decide) (fun K hK => ?_)
        refine goes_ Tryd.func9 (by kernel_rfl) rfl #[.agg #[.int .i64 a0_0, .bool a0_1, .slice A0_2 l0_2.length c0_2]] (by rfl) rfl rfl (by (try simp only [List.map_toArray, List.map_cons, List.map_nil]); (rfl)) ?_
        with_reducible refine (laws_toRow.calls kj24 a0_0 a0_1 _ _ l0_2 t399 t400 t401 _ ?side1 ?side2 A86.out).mono ?_
        (case side1 => repeat (exact (Kd.C_below HR0_2.out HB.out)))
        (case side2 => exact HC0_2.out)
        rintro e w93 ⟨v402, rfl, ho0, hb⟩
        refine ⟨_, rfl, ?_⟩
        have HO403 := A_.mk (Kd.R_lower (Kd.R_new' (Kd.R_new' ho0 (Kd.R_lt HO_388002.out)) (Kd.R_lt HO_394002.out)) (below_size HB.out))
        replace HO_388002 := A_.mk (Kd.R_elder' HO_388002.out (Kd.R_base ho0) hb)
        replace HO_394002 := A_.mk (Kd.R_elder' HO_394002.out (Kd.R_base ho0) hb)
        replace BK364 := A_.mk (blk_below BK364.out hb)
        replace BK365 := A_.mk (blk_below BK365.out hb)
        replace BK381 := A_.mk (blk_below BK381.out hb)
        replace BK387 := A_.mk (blk_below BK387.out hb)
        replace BK393 := A_.mk (blk_below BK393.out hb)
        replace BK397 := A_.mk (blk_below BK397.out hb)
        replace HB := A_.mk (below_step HB.out hb)
        (try clear hb)
        skip
        skip
        skip
        (try clear ho0)
        obtain ⟨Ao94, co94, eo94⟩ := Kd.R_slice HO403.out
        (subst eo94)
        refine hK.out _ _ ⟨(blk_cell BK387.out 0).trans rfl, (blk_cell BK387.out 1).trans rfl, (blk_cell BK387.out 2).trans rfl, (blk_cell BK364.out 0).trans rfl, (blk_cell BK364.out 1).trans rfl, (blk_cell BK364.out 2).trans rfl⟩ (fun hHeld => ?_)
        clear hK K
        refine norm_ (a' := ?_) ?_ ?_
        rotate_left
        ·show Act.put _ (some 51) _ = _
         simp only [Act.put, sI_, s0_, s1_, i64_w, i32_w]
         rfl
        refine one_ (i := 3) (N := some 52) (m_ 5 15) rfl rfl (by kernel_rfl) (by decide) (fun K hK => ?_)
        refine goes_ Tryd.func12 (by kernel_rfl) rfl #[.agg #[.int .i64 t382, .bool t383, .slice Ao51 t384.length co51], .agg #[.int .i64 t399, .bool t400, .slice Ao94 t401.length co94]] (by rfl) rfl rfl (by (try simp only [List.map_toArray, List.map_cons, List.map_nil]); (rfl)) ?_
        with_reducible refine (laws_eqRow.calls kj24 t382 t383 _ _ t384 t399 t400 _ _ t401 true _ ?side1 ?side2 ?side3 ?side4 A87.out).mono ?_
        (case side1 => repeat (exact (Kd.R_reads' HO_388002.out).2.2))
        (case side2 => exact (Kd.R_reads' HO_388002.out).2.1)
        (case side3 => repeat (exact (Kd.R_reads' HO403.out).2.2))
        (case side4 => exact (Kd.R_reads' HO403.out).2.1)
        rintro e w95 ⟨rfl, hb⟩
        refine ⟨_, rfl, ?_⟩
        replace HO_388002 := A_.mk (Kd.R_below HO_388002.out hb)
        replace HO_394002 := A_.mk (Kd.R_below HO_394002.out hb)
        replace HO403 := A_.mk (Kd.R_below HO403.out hb)
        replace BK364 := A_.mk (blk_below BK364.out hb)
        replace BK365 := A_.mk (blk_below BK365.out hb)
        replace BK381 := A_.mk (blk_below BK381.out hb)
        replace BK387 := A_.mk (blk_below BK387.out hb)
        replace BK393 := A_.mk (blk_below BK393.out hb)
        replace BK397 := A_.mk (blk_below BK397.out hb)
        replace HB := A_.mk (below_step HB.out hb)
        (try clear hb)
        skip
        skip
        skip
        refine hK.out _ _ ⟨(blk_cell BK387.out 0).trans rfl, (blk_cell BK387.out 1).trans rfl, (blk_cell BK387.out 2).trans rfl, (blk_cell BK364.out 0).trans rfl, (blk_cell BK364.out 1).trans rfl, (blk_cell BK364.out 2).trans rfl⟩ (fun hHeld => ?_)
        clear hK K
        refine norm_ (a' := ?_) ?_ ?_
        rotate_left
        ·show Act.put _ (some 52) _ = _
         simp only [Act.put, sI_, s0_, s1_, i64_w, i32_w]
         rfl
        refine pure_ (i := 4) (N := some 53) (v := ?_) (a' := ?_) (m_ 5 31) rfl rfl (by kernel_rfl) (fun _ _ _ h => h) (Or.inl ⟨by rfl, ?_⟩) ?_ ?_
        rotate_left
        ·intro w'
         go_simp
         with_reducible rfl
        rotate_left
        ·simp only [Act.put, sI_, s0_, s1_, i64_w, i32_w]
         rfl
        refine done_ (by kernel_rfl) ?_
        try go_wp2
        replace HO_388002 := A_.mk (Kd.R_drew HO_388002.out)
        replace HO_394002 := A_.mk (Kd.R_drew HO_394002.out)
        replace HO403 := A_.mk (Kd.R_drew HO403.out)
        replace BK364 := A_.mk (blk_drew BK364.out)
        replace BK365 := A_.mk (blk_drew BK365.out)
        replace BK381 := A_.mk (blk_drew BK381.out)
        replace BK387 := A_.mk (blk_drew BK387.out)
        replace BK393 := A_.mk (blk_drew BK393.out)
        replace BK397 := A_.mk (blk_drew BK397.out)
        replace HB := A_.mk (below_drew1 HB.out)
        refine start_ (n := 5) (S := fun w' => w'.cell? ⟨gb393, 0, none⟩ = some (.int .i64 t388) ∧ w'.cell? ⟨gb393, 1, none⟩ = some (.bool t389) ∧ w'.cell? ⟨gb393, 2, none⟩ = some (.slice Ao61 t390.length co61) ∧ w'.cell? ⟨gb365, 0, none⟩ = some (.int .i64 a1_0) ∧ w'.cell? ⟨gb365, 1, none⟩ = some (.bool a1_1) ∧ w'.cell? ⟨gb365, 2, none⟩ = some (.slice A1_2 l1_2.length c1_2)) (ds := []) (m_ 5 0) (by kernel_rfl) rfl rfl ⟨(blk_cell BK393.out 0).trans rfl, (blk_cell BK393.out 1).trans rfl, (blk_cell BK393.out 2).trans rfl, (blk_cell BK365.out 0).trans rfl, (blk_cell BK365.out 1).trans rfl, (blk_cell BK365.out 2).trans rfl⟩ (fun hHeld => ?_)
        generalize w95.drew = w96 at HO_388002 HO_394002 HO403 BK364 BK365 BK381 BK387 BK393 BK397 HB hHeld ⊢
        refine take_ (i := 0) (N := some 54) (v := ?_) (a' := ?_) (m_ 5 1) rfl rfl (by kernel_rfl) (fun _ _ _ h => h) (Or.inl ⟨by rfl, ?_⟩) hHeld ?_ ?_
        rotate_left
        ·rintro w' ⟨s0, s1, s2, s3, s4, s5⟩
         go_simp
         with_reducible rfl
        rotate_left
        ·simp only [Act.put, sI_, s0_, s1_, i64_w, i32_w]
         rfl
        refine take_ (i := 1) (N := some 55) (v := ?_) (a' := ?_) (m_ 5 3) rfl rfl (by kernel_rfl) (fun _ _ _ h => h) (Or.inl ⟨by rfl, ?_⟩) hHeld ?_ ?_
        rotate_left
        ·rintro w' ⟨s0, s1, s2, s3, s4, s5⟩
         go_simp
         with_reducible rfl
        rotate_left
        ·simp only [Act.put, sI_, s0_, s1_, i64_w, i32_w]
         rfl
        refine one_ (i := 2) (N := some 56) (m_ 5 7) rfl rfl (by kernel_rfl) (by decide) (fun K hK => ?_)
        refine goes_ Tryd.func9 (by kernel_rfl) rfl #[.agg #[.int .i64 a1_0, .bool a1_1, .slice A1_2 l1_2.length c1_2]] (by rfl) rfl rfl (by (try simp only [List.map_toArray, List.map_cons, List.map_nil]); (rfl)) ?_
        with_reducible refine (laws_toRow.calls kj24 a1_0 a1_1 _ _ l1_2 t405 t406 t407 _ ?side1 ?side2 A89.out).mono ?_
        (case side1 => repeat (exact (Kd.C_below HR1_2.out HB.out)))
        (case side2 => exact HC1_2.out)
        rintro e w97 ⟨v408, rfl, ho0, hb⟩
        refine ⟨_, rfl, ?_⟩
        have HO409 := A_.mk (Kd.R_lower (Kd.R_new' (Kd.R_new' (Kd.R_new' ho0 (Kd.R_lt HO_388002.out)) (Kd.R_lt HO_394002.out)) (Kd.R_lt HO403.out)) (below_size HB.out))
        replace HO_388002 := A_.mk (Kd.R_elder' HO_388002.out (Kd.R_base ho0) hb)
        replace HO_394002 := A_.mk (Kd.R_elder' HO_394002.out (Kd.R_base ho0) hb)
        replace HO403 := A_.mk (Kd.R_elder' HO403.out (Kd.R_base ho0) hb)
        replace BK364 := A_.mk (blk_below BK364.out hb)
        replace BK365 := A_.mk (blk_below BK365.out hb)
        replace BK381 := A_.mk (blk_below BK381.out hb)
        replace BK387 := A_.mk (blk_below BK387.out hb)
        replace BK393 := A_.mk (blk_below BK393.out hb)
        replace BK397 := A_.mk (blk_below BK397.out hb)
        replace HB := A_.mk (below_step HB.out hb)
        (try clear hb)
        skip
        skip
        skip
        (try clear ho0)
        obtain ⟨Ao98, co98, eo98⟩ := Kd.R_slice HO409.out
        (subst eo98)
        refine hK.out _ _ ⟨(blk_cell BK393.out 0).trans rfl, (blk_cell BK393.out 1).trans rfl, (blk_cell BK393.out 2).trans rfl, (blk_cell BK365.out 0).trans rfl, (blk_cell BK365.out 1).trans rfl, (blk_cell BK365.out 2).trans rfl⟩ (fun hHeld => ?_)
        clear hK K
        refine norm_ (a' := ?_) ?_ ?_
        rotate_left
        ·show Act.put _ (some 56) _ = _
         simp only [Act.put, sI_, s0_, s1_, i64_w, i32_w]
         rfl
        refine one_ (i := 3) (N := some 57) (m_ 5 15) rfl rfl (by kernel_rfl) (by decide) (fun K hK => ?_)
        refine goes_ Tryd.func12 (by kernel_rfl) rfl #[.agg #[.int .i64 t388, .bool t389, .slice Ao61 t390.length co61], .agg #[.int .i64 t405, .bool t406, .slice Ao98 t407.length co98]] (by rfl) rfl rfl (by (try simp only [List.map_toArray, List.map_cons, List.map_nil]); (rfl)) ?_
        with_reducible refine (laws_eqRow.calls kj24 t388 t389 _ _ t390 t405 t406 _ _ t407 true _ ?side1 ?side2 ?side3 ?side4 A90.out).mono ?_
        (case side1 => repeat (exact (Kd.R_reads' HO_394002.out).2.2))
        (case side2 => exact (Kd.R_reads' HO_394002.out).2.1)
        (case side3 => repeat (exact (Kd.R_reads' HO409.out).2.2))
        (case side4 => exact (Kd.R_reads' HO409.out).2.1)
        rintro e w99 ⟨rfl, hb⟩
        refine ⟨_, rfl, ?_⟩
        replace HO_388002 := A_.mk (Kd.R_below HO_388002.out hb)
        replace HO_394002 := A_.mk (Kd.R_below HO_394002.out hb)
        replace HO403 := A_.mk (Kd.R_below HO403.out hb)
        replace HO409 := A_.mk (Kd.R_below HO409.out hb)
        replace BK364 := A_.mk (blk_below BK364.out hb)
        replace BK365 := A_.mk (blk_below BK365.out hb)
        replace BK381 := A_.mk (blk_below BK381.out hb)
        replace BK387 := A_.mk (blk_below BK387.out hb)
        replace BK393 := A_.mk (blk_below BK393.out hb)
        replace BK397 := A_.mk (blk_below BK397.out hb)
        replace HB := A_.mk (below_step HB.out hb)
        (try clear hb)
        skip
        skip
        skip
        refine hK.out _ _ ⟨(blk_cell BK393.out 0).trans rfl, (blk_cell BK393.out 1).trans rfl, (blk_cell BK393.out 2).trans rfl, (blk_cell BK365.out 0).trans rfl, (blk_cell BK365.out 1).trans rfl, (blk_cell BK365.out 2).trans rfl⟩ (fun hHeld => ?_)
        clear hK K
        refine norm_ (a' := ?_) ?_ ?_
        rotate_left
        ·show Act.put _ (some 57) _ = _
         simp only [Act.put, sI_, s0_, s1_, i64_w, i32_w]
         rfl
        refine pure_ (i := 4) (N := some 58) (v := ?_) (a' := ?_) (m_ 5 31) rfl rfl (by kernel_rfl) (fun _ _ _ h => h) (Or.inl ⟨by rfl, ?_⟩) ?_ ?_
        rotate_left
        ·intro w'
         go_simp
         with_reducible rfl
        rotate_left
        ·simp only [Act.put, sI_, s0_, s1_, i64_w, i32_w]
         rfl
        refine done_ (by kernel_rfl) ?_
        try go_wp2
        go_ret
        exact ⟨by rfl, by repeat ((with_reducible (exact HB.out)))⟩
       ·replace c91 := Bool.eq_false_iff.mpr c91
        subst c91
        have H1 : (some false) = some true := by rw [if_neg (show ¬ (false = true) by decide)] at H; exact H
        clear H
        have H := H1
        clear H1
        exact absurd (Option.some.inj H) (by decide)
      ·replace c88 := Bool.eq_false_iff.mpr c88
       subst c88
       have H1 : (some false) = some true := by rw [if_neg (show ¬ (false = true) by decide)] at H; exact H
       clear H
       have H := H1
       clear H1
       exact absurd (Option.some.inj H) (by decide)

/-- THE ONE PURE STATEMENT of laws_FnExactChanceOfFinal: yours. -/
def laws_FnExactChanceOfFinal.Pure : Prop := ∀ (a0_0 : Int) (a0_1 : Bool) (l0_2 : List Int) (a1_0 : Int) (a1_1 : Bool) (l1_2 : List Int), (Lit.int .i64 a0_0).wf = true → l0_2.length ≤ maxLen → (∀ x ∈ l0_2, (Lit.int .i64 x).wf = true) → (Lit.int .i64 a1_0).wf = true → l1_2.length ≤ maxLen → (∀ x ∈ l1_2, (Lit.int .i64 x).wf = true) → ∃ k, laws_FnExactChanceOfFinal.f k a0_0 a0_1 l0_2 a1_0 a1_1 l1_2 = some true
theorem laws_FnExactChanceOfFinal.walk (P : laws_FnExactChanceOfFinal.Pure) (a0_0 : Int) (a0_1 : Bool) (a0_2 : Option Addr) (len0_2 cap0_2 : Nat) (z0_2 : List Int) (a1_0 : Int) (a1_1 : Bool) (a1_2 : Option Addr) (len1_2 cap1_2 : Nat) (z1_2 : List Int) (w : World) (w0_0 : (Lit.int .i64 a0_0).wf = true) (w0_2 : (a0_2 = none ∧ len0_2 = 0 ∧ cap0_2 = 0 ∧ z0_2 = []) ∨ ∃ x, a0_2 = some x ∧ len0_2 ≤ cap0_2 ∧ cap0_2 ≤ maxLen ∧ z0_2.length = cap0_2 ∧ (∀ i, i < z0_2.length → w.cell? (x.add i) = some (.int .i64 (z0_2.getD i 0))) ∧ ∀ n ∈ z0_2, (Lit.int .i64 n).wf = true) (w1_0 : (Lit.int .i64 a1_0).wf = true) (w1_2 : (a1_2 = none ∧ len1_2 = 0 ∧ cap1_2 = 0 ∧ z1_2 = []) ∨ ∃ x, a1_2 = some x ∧ len1_2 ≤ cap1_2 ∧ cap1_2 ≤ maxLen ∧ z1_2.length = cap1_2 ∧ (∀ i, i < z1_2.length → w.cell? (x.add i) = some (.int .i64 (z1_2.getD i 0))) ∧ ∀ n ∈ z1_2, (Lit.int .i64 n).wf = true) (hT : XTab w) :
  Calls Tryd.prog 3 #[.agg #[.int .i64 a0_0, .bool a0_1, .slice a0_2 len0_2 cap0_2], .agg #[.int .i64 a1_0, .bool a1_1, .slice a1_2 len1_2 cap1_2]] w fun e w' => e = .returned (.bool true) ∧ Below w.heap.size w w' := by
 obtain ⟨l0_2, rfl, hr0_2, hm0_2, hw0_2, hc0_2⟩ := ReadsInt.ofRowC w0_2
 obtain ⟨l1_2, rfl, hr1_2, hm1_2, hw1_2, hc1_2⟩ := ReadsInt.ofRowC w1_2
 obtain ⟨k, h⟩ := P a0_0 a0_1 l0_2 a1_0 a1_1 l1_2 w0_0 hm0_2 hw0_2 w1_0 hm1_2 hw1_2
 refine (laws_FnExactChanceOfFinal.calls k a0_0 a0_1 _ _ l0_2 a1_0 a1_1 _ _ l1_2 w (Kd.C_of_reads (d := (0 : Int)) (h1 := fun _ => rfl) hr0_2) hc0_2 (Kd.C_of_reads (d := (0 : Int)) (h1 := fun _ => rfl) hr1_2) hc1_2 hT h).mono ?_
 rintro e w' ⟨rfl, hd⟩
 exact ⟨rfl, hd⟩

end Go.Proofs.YtihifglmnjocfaaDoor.PFnExactChanceOfFinal
