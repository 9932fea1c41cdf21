/- Given functions as plain Lean functions, and that their calls answer these. -/
import Derived.Test.YtihifglmnjocfaaDoorPFnExactSeatChancex0
import Derived.Test.YtihifglmnjocfaaDoorPFnExactSeatChancex1
import Derived.Test.YtihifglmnjocfaaDoorPFnExactSeatChancex7
import Derived.Test.YtihifglmnjocfaaDoorPFnExactSeatChancex9
import Derived.Test.YtihifglmnjocfaaDoorPFnExactSeatChancex10
namespace Go.Proofs.YtihifglmnjocfaaDoor.PFnExactSeatChance
open Go.RowKit Go.Proofs.YtihifglmnjocfaaDoorW.PrintWords Go.Proofs.YtihifglmnjocfaaDoorW.PrintLast Go.Proofs.YtihifglmnjocfaaDoorW.PrintMore
attribute [local go_sem] max2_int min2_int max_two min_two max_three min_three max_four min_four
set_option maxHeartbeats 8000000
set_option maxRecDepth 100000
set_option linter.unusedVariables false
set_option linter.unusedSimpArgs false

/-! ### spec_SeatChance: function 21 -/
mutual
def spec_SeatChance.j0 : Nat → Int → Bool → Int → Bool → List Int → Option (Int × Int × Bool)
 | 0, _, _, _, _, _ => none
 | k + 1, x1, x18, x289000, x289001, x289002 => if x18 = true then (some (0, 0, false)) else ((spec_l4Finals.f k x289000 x289001 x289002).bind fun bt293 => (spec_SeatChance.l0 k x1 bt293.1 bt293.2 0 0 1))
def spec_SeatChance.l0 : Nat → Int → List (List Int) → List (S26) → Int → Int → Int → Option (Int × Int × Bool)
 | 0, _, _, _, _, _, _ => none
 | k + 1, x1, x7, x8, x9, x293000, x293001 => if x9 < (x7.length : Int) then (if 0 ≤ x9 then ((spec_l1Has.f k (rd_L2 x7 x9) x1).bind fun t300 => (if t300 = true then (if x9 < (x8.length : Int) then ((spec_l2Plus.f k x293000 x293001 ((rd_T26 x8 x9).f0) ((rd_T26 x8 x9).f1)).bind fun bt302 => (spec_SeatChance.l0 k x1 x7 x8 (wrap64 (x9 + 1)) bt302.1 bt302.2)) else (none)) else (spec_SeatChance.l0 k x1 x7 x8 (wrap64 (x9 + 1)) x293000 x293001))) else (none)) else (some (x293000, x293001, true))
end
def spec_SeatChance.f (k : Nat) (a0_0 : Int) (a0_1 : Bool) (l0_2 : List Int) (a1 : Int) : Option (Int × Int × Bool) := (spec_l4Row.f k a0_0 a0_1 l0_2).bind fun t290 => (if t290 = true then ((spec_l2Seat.f k a0_0 a0_1 l0_2 a1).bind fun t291 => (spec_SeatChance.j0 k a1 (!t291) a0_0 a0_1 l0_2)) else (spec_SeatChance.j0 k a1 true a0_0 a0_1 l0_2))
theorem spec_SeatChance.mono_l : ∀ k, (∀ y0 y1 y2 y3 y4, LeO (spec_SeatChance.j0 k y0 y1 y2 y3 y4) (spec_SeatChance.j0 (k + 1) y0 y1 y2 y3 y4)) ∧ (∀ y0 y1 y2 y3 y4 y5, LeO (spec_SeatChance.l0 k y0 y1 y2 y3 y4 y5) (spec_SeatChance.l0 (k + 1) y0 y1 y2 y3 y4 y5))
 | 0 => ⟨fun _ _ _ _ _ r h => by simp [spec_SeatChance.j0] at h, fun _ _ _ _ _ _ r h => by simp [spec_SeatChance.l0] at h⟩
 | k + 1 => by
  obtain ⟨ih0, ih1⟩ := spec_SeatChance.mono_l k
  refine ⟨?_, ?_⟩
  ·intro y0 y1 y2 y3 y4
   unfold spec_SeatChance.j0
   repeat' first
   | (with_reducible exact ih0 _ _ _ _ _)
   | (with_reducible exact ih1 _ _ _ _ _ _)
   | (with_reducible exact spec_l1Has.mono _ _ _)
   | (with_reducible exact spec_l2Plus.mono _ _ _ _ _)
   | (with_reducible exact spec_l2Seat.mono _ _ _ _ _)
   | (with_reducible exact spec_l4Finals.mono _ _ _ _)
   | (with_reducible exact spec_l4Row.mono _ _ _ _)
   | (with_reducible exact LeO.refl _)
   | (with_reducible exact LeO.none _)
   | (with_reducible refine LeO.ite ?_ ?_)
   | (with_reducible refine LeO.bind ?_ (fun _ => ?_))
   | exact ih0 _ _ _ _ _
   | exact ih1 _ _ _ _ _ _
   | exact spec_l1Has.mono _ _ _
   | exact spec_l2Plus.mono _ _ _ _ _
   | exact spec_l2Seat.mono _ _ _ _ _
   | exact spec_l4Finals.mono _ _ _ _
   | exact spec_l4Row.mono _ _ _ _
   | exact LeO.none _
   | refine LeO.ite ?_ ?_
   | refine LeO.bind ?_ (fun _ => ?_)
  ·intro y0 y1 y2 y3 y4 y5
   unfold spec_SeatChance.l0
   repeat' first
   | (with_reducible exact ih0 _ _ _ _ _)
   | (with_reducible exact ih1 _ _ _ _ _ _)
   | (with_reducible exact spec_l1Has.mono _ _ _)
   | (with_reducible exact spec_l2Plus.mono _ _ _ _ _)
   | (with_reducible exact spec_l2Seat.mono _ _ _ _ _)
   | (with_reducible exact spec_l4Finals.mono _ _ _ _)
   | (with_reducible exact spec_l4Row.mono _ _ _ _)
   | (with_reducible exact LeO.refl _)
   | (with_reducible exact LeO.none _)
   | (with_reducible refine LeO.ite ?_ ?_)
   | (with_reducible refine LeO.bind ?_ (fun _ => ?_))
   | exact ih0 _ _ _ _ _
   | exact ih1 _ _ _ _ _ _
   | exact spec_l1Has.mono _ _ _
   | exact spec_l2Plus.mono _ _ _ _ _
   | exact spec_l2Seat.mono _ _ _ _ _
   | exact spec_l4Finals.mono _ _ _ _
   | exact spec_l4Row.mono _ _ _ _
   | exact LeO.none _
   | refine LeO.ite ?_ ?_
   | refine LeO.bind ?_ (fun _ => ?_)
theorem spec_SeatChance.mono : ∀ a0 a1 a2 a3 k, LeO (spec_SeatChance.f k a0 a1 a2 a3) (spec_SeatChance.f (k + 1) a0 a1 a2 a3) := by
 intro a0 a1 a2 a3 k
 obtain ⟨ih0, ih1⟩ := spec_SeatChance.mono_l k
 unfold spec_SeatChance.f
 repeat' first
   | (with_reducible exact ih0 _ _ _ _ _)
   | (with_reducible exact ih1 _ _ _ _ _ _)
   | (with_reducible exact spec_l1Has.mono _ _ _)
   | (with_reducible exact spec_l2Plus.mono _ _ _ _ _)
   | (with_reducible exact spec_l2Seat.mono _ _ _ _ _)
   | (with_reducible exact spec_l4Finals.mono _ _ _ _)
   | (with_reducible exact spec_l4Row.mono _ _ _ _)
   | (with_reducible exact LeO.refl _)
   | (with_reducible exact LeO.none _)
   | (with_reducible refine LeO.ite ?_ ?_)
   | (with_reducible refine LeO.bind ?_ (fun _ => ?_))
   | exact ih0 _ _ _ _ _
   | exact ih1 _ _ _ _ _ _
   | exact spec_l1Has.mono _ _ _
   | exact spec_l2Plus.mono _ _ _ _ _
   | exact spec_l2Seat.mono _ _ _ _ _
   | exact spec_l4Finals.mono _ _ _ _
   | exact spec_l4Row.mono _ _ _ _
   | exact LeO.none _
   | refine LeO.ite ?_ ?_
   | refine LeO.bind ?_ (fun _ => ?_)
theorem spec_SeatChance.calls (k : Nat) (a0_0 : Int) (a0_1 : Bool) (A0_2 : Option Addr) (c0_2 : Nat) (l0_2 : List Int) (a1 : Int) (r1 : Int) (r2 : Int) (r3 : Bool) (w : World) (hr0_2 : Kd.C (Kd.int .i64) w A0_2 l0_2.length l0_2) (hc0_2 : l0_2.length ≤ c0_2) (h : spec_SeatChance.f k a0_0 a0_1 l0_2 a1 = some (r1, r2, r3)) :
  Calls Tryd.prog 21 #[.agg #[.int .i64 a0_0, .bool a0_1, .slice A0_2 l0_2.length c0_2], .int .i64 a1] w fun e w' => e = .returned (.tuple #[.agg #[.int .i64 r1, .int .i64 r2], .bool r3]) ∧ Below w.heap.size w w' := by
 have hu29 := Tryd.underlying29
 have hu26 := Tryd.underlying26
 have HR0_2 := A_.mk hr0_2
 have HC0_2 := A_.mk hc0_2
 clear hr0_2 hc0_2
 have HB := A_.mk (Below.refl w.heap.size w)
 have H : ((spec_l4Row.f k a0_0 a0_1 l0_2).bind fun t290 => (if t290 = true then ((spec_l2Seat.f k a0_0 a0_1 l0_2 a1).bind fun t291 => (spec_SeatChance.j0 k a1 (!t291) a0_0 a0_1 l0_2)) else (spec_SeatChance.j0 k a1 true a0_0 a0_1 l0_2))) = some (r1, r2, r3) := h
 clear h
 have HC3 := A_.mk H
 clear H
 go_enter Tryd.func21, Tryd.ntmps21
 go_upto_region 1 with (first | ((with_reducible refine gate_dst (N := 2) rfl ?_); refine box_event ?hg (N := 2) ?hd (cs := #[.int .i64 a0_0, .bool a0_1, .slice A0_2 l0_2.length c0_2]) (t := 29) ?hr ?_; (case hd => rfl); (case hg => rfl); (case hr => (go_simp; done)); intro gb288 hg w4 hbox hb; replace HB := A_.mk (below_step HB.out hb); have BK288 := A_.mk (hbox); clear hb hbox hg) | ((with_reducible refine gate_dst (N := 4) rfl ?_); refine box_event ?hg (N := 4) ?hd (cs := #[.int .i64 0, .int .i64 0]) (t := 26) ?hr ?_; (case hd => rfl); (case hg => rfl); (case hr => (go_simp; done)); intro gb289 hg w5 hbox hb; have BK289 := A_.mk (hbox); have GE289 := A_.mk ((by rw [hg]; exact (below_size HB.out) : w.heap.size ≤ gb289)); replace HB := A_.mk (below_step HB.out hb); have NB288_289 := A_.mk ((by rw [hg]; exact Nat.ne_of_lt (blk_lt BK288.out) : gb288 ≠ gb289)); have NB289_288 := A_.mk ((by rw [hg]; exact Nat.ne_of_gt (blk_lt BK288.out) : gb289 ≠ gb288)); replace BK288 := A_.mk (blk_below BK288.out hb); clear hb hbox hg))
 skip
 go_cut [18] (fun v18 wc => ∃ (kq : Nat) (x18_2 : Bool), v18 = .bool x18_2 ∧ A_ (spec_SeatChance.j0 kq a1 x18_2 a0_0 a0_1 l0_2 = some (r1, r2, r3)) ∧ A_ (kq ≤ k) ∧ A_ (wc.heap[gb288]? = some (.cells #[.int .i64 a0_0, .bool a0_1, (.slice A0_2 l0_2.length c0_2)] 29 (0, 0))) ∧ A_ (wc.heap[gb289]? = some (.cells #[.int .i64 0, .int .i64 0] 26 (0, 0))) ∧ A_ (Below w.heap.size w wc))
 case first =>
  have H := HC3.out
  clear HC3
  replace H := Option.bind_eq_some_iff.mp H
  obtain ⟨t290, A60, H⟩ := H
  replace H : (if t290 = true then ((spec_l2Seat.f k a0_0 a0_1 l0_2 a1).bind fun t291 => (spec_SeatChance.j0 k a1 (!t291) a0_0 a0_1 l0_2)) else (spec_SeatChance.j0 k a1 true a0_0 a0_1 l0_2)) = some (r1, r2, r3) := H
  have A6 := A_.mk A60
  clear A60
  by_cases c7 : t290 = true
  ·subst c7
   have H1 : ((spec_l2Seat.f k a0_0 a0_1 l0_2 a1).bind fun t291 => (spec_SeatChance.j0 k a1 (!t291) a0_0 a0_1 l0_2)) = some (r1, r2, r3) := by rw [if_pos rfl] at H; exact H
   clear H
   have H := H1
   clear H1
   replace H := Option.bind_eq_some_iff.mp H
   obtain ⟨t291, A80, H⟩ := H
   replace H : (spec_SeatChance.j0 k a1 (!t291) a0_0 a0_1 l0_2) = some (r1, r2, r3) := H
   have A8 := A_.mk A80
   clear A80
   have H' := A_.mk H
   clear H
   have hnb9 := NB288_289.out
   have hnc9 := NB289_288.out
   have hcz10_0 : w5.cell? ⟨gb288, 0, none⟩ = some (.int .i64 a0_0) := (blk_cell BK288.out 0).trans rfl
   have hcz10_1 : w5.cell? ⟨gb288, 1, none⟩ = some (.bool a0_1) := (blk_cell BK288.out 1).trans rfl
   have hcz10_2 : w5.cell? ⟨gb288, 2, none⟩ = some (.slice A0_2 l0_2.length c0_2) := (blk_cell BK288.out 2).trans rfl
   have hfz10_0 := blk_frozen BK288.out 0
   have hfz10_1 := blk_frozen BK288.out 1
   have hfz10_2 := blk_frozen BK288.out 2
   go_wp2_with (first | ((with_reducible refine gate_callee (f := 33) rfl ?_); refine goesL_ (some 11) rfl rfl Tryd.func33 (by kernel_rfl) rfl #[.agg #[.int .i64 a0_0, .bool a0_1, .slice A0_2 l0_2.length c0_2]] rfl (by (try simp only [List.map_toArray, List.map_cons, List.map_nil]); (rfl)) ?_; (with_reducible refine (spec_l4Row.calls k a0_0 a0_1 _ _ l0_2 true _ ?side1 ?side2 A6.out).mono ?_); (case side1 => repeat (exact (Kd.C_below HR0_2.out HB.out))); (case side2 => exact HC0_2.out); rintro e w11 ⟨rfl, hb⟩; refine ⟨_, rfl, ?_⟩; replace BK288 := A_.mk (blk_below BK288.out hb); replace BK289 := A_.mk (blk_below BK289.out hb); replace HB := A_.mk (below_step HB.out hb); (try clear hb); have hcz12_0 : w11.cell? ⟨gb288, 0, none⟩ = some (.int .i64 a0_0) := (blk_cell BK288.out 0).trans rfl; have hcz12_1 : w11.cell? ⟨gb288, 1, none⟩ = some (.bool a0_1) := (blk_cell BK288.out 1).trans rfl; have hcz12_2 : w11.cell? ⟨gb288, 2, none⟩ = some (.slice A0_2 l0_2.length c0_2) := (blk_cell BK288.out 2).trans rfl; have hfz12_0 := blk_frozen BK288.out 0; have hfz12_1 := blk_frozen BK288.out 1; have hfz12_2 := blk_frozen BK288.out 2) | (go_at_call 44; (with_reducible refine (spec_l2Seat.calls k a0_0 a0_1 _ _ l0_2 a1 t291 _ ?side1 ?side2 A8.out).mono ?_); (case side1 => repeat (exact (Kd.C_below HR0_2.out HB.out))); (case side2 => exact HC0_2.out); rintro e w13 ⟨rfl, hb⟩; replace BK288 := A_.mk (blk_below BK288.out hb); replace BK289 := A_.mk (blk_below BK289.out hb); replace HB := A_.mk (below_step HB.out hb); (try clear hb)))
   go_meet
   case rel => exact ⟨_, (!t291), (by rfl), H', ⟨by omega⟩, ⟨by (with_reducible repeat (refine blk_drewN ?_ _)); exact BK288.out⟩, ⟨by (with_reducible repeat (refine blk_drewN ?_ _)); exact BK289.out⟩, ⟨by repeat ((with_reducible (exact HB.out)))⟩⟩
  ·replace c7 := Bool.eq_false_iff.mpr c7
   subst c7
   have H1 : (spec_SeatChance.j0 k a1 true a0_0 a0_1 l0_2) = some (r1, r2, r3) := by rw [if_neg (show ¬ (false = true) by decide)] at H; exact H
   clear H
   have H := H1
   clear H1
   have H' := A_.mk H
   clear H
   have hnb14 := NB288_289.out
   have hnc14 := NB289_288.out
   have hcz15_0 : w5.cell? ⟨gb288, 0, none⟩ = some (.int .i64 a0_0) := (blk_cell BK288.out 0).trans rfl
   have hcz15_1 : w5.cell? ⟨gb288, 1, none⟩ = some (.bool a0_1) := (blk_cell BK288.out 1).trans rfl
   have hcz15_2 : w5.cell? ⟨gb288, 2, none⟩ = some (.slice A0_2 l0_2.length c0_2) := (blk_cell BK288.out 2).trans rfl
   have hfz15_0 := blk_frozen BK288.out 0
   have hfz15_1 := blk_frozen BK288.out 1
   have hfz15_2 := blk_frozen BK288.out 2
   go_wp2_with ((with_reducible refine gate_callee (f := 33) rfl ?_); refine goesL_ (some 11) rfl rfl Tryd.func33 (by kernel_rfl) rfl #[.agg #[.int .i64 a0_0, .bool a0_1, .slice A0_2 l0_2.length c0_2]] rfl (by (try simp only [List.map_toArray, List.map_cons, List.map_nil]); (rfl)) ?_; (with_reducible refine (spec_l4Row.calls k a0_0 a0_1 _ _ l0_2 false _ ?side1 ?side2 A6.out).mono ?_); (case side1 => repeat (exact (Kd.C_below HR0_2.out HB.out))); (case side2 => exact HC0_2.out); rintro e w16 ⟨rfl, hb⟩; refine ⟨_, rfl, ?_⟩; replace BK288 := A_.mk (blk_below BK288.out hb); replace BK289 := A_.mk (blk_below BK289.out hb); replace HB := A_.mk (below_step HB.out hb); (try clear hb))
   go_meet
   case rel => exact ⟨_, (true), (by rfl), H', ⟨by omega⟩, ⟨by (with_reducible repeat (refine blk_drewN ?_ _)); exact BK288.out⟩, ⟨by (with_reducible repeat (refine blk_drewN ?_ _)); exact BK289.out⟩, ⟨by repeat ((with_reducible (exact HB.out)))⟩⟩
 case rest =>
  clear HC3
  try clear c1
  try clear c2
  try clear p2
  try clear c3
  try clear p6
  try clear c7
  try clear c9
  try clear c14
  try clear hcz10_0
  try clear hcz10_1
  try clear hcz10_2
  try clear hcz12_0
  try clear hcz12_1
  try clear hcz12_2
  try clear hcz15_0
  try clear hcz15_1
  try clear hcz15_2
  try clear hfz10_0
  try clear hfz10_1
  try clear hfz10_2
  try clear hfz12_0
  try clear hfz12_1
  try clear hfz12_2
  try clear hfz15_0
  try clear hfz15_1
  try clear hfz15_2
  obtain ⟨kq, x18_2, rfl, HA, HJ2, BK288, BK289, HB⟩ := hcut
  cases kq with
  | zero => exact absurd HA.out (by simp [spec_SeatChance.j0])
  | succ kj2 =>
   have H := HA.out
   clear HA
   simp only [spec_SeatChance.j0] at H
   by_cases c17 : x18_2 = true
   ·subst c17
    have H1 : (some (0, 0, false)) = some (r1, r2, r3) := by rw [if_pos rfl] at H; exact H
    clear H
    have H := H1
    clear H1
    simp only [Option.some.injEq, Prod.mk.injEq] at H
    obtain ⟨rfl, rfl, rfl⟩ := H
    have hnb18 := NB289_288.out
    have hnc18 := NB288_289.out
    have hcz19_0 : wc.cell? ⟨gb289, 0, none⟩ = some (.int .i64 0) := (blk_cell BK289.out 0).trans rfl
    have hcz19_1 : wc.cell? ⟨gb289, 1, none⟩ = some (.int .i64 0) := (blk_cell BK289.out 1).trans rfl
    have hfz19_0 := blk_frozen BK289.out 0
    have hfz19_1 := blk_frozen BK289.out 1
    go_wp2
    refine bodyPost_ret (results_ct rfl _ _ gb289 26 #[.int .i64 0, .int .i64 0] (0, 0) _ rfl (by (with_reducible repeat (refine blk_drewN ?_ _)); refine blk_put (cs := #[.int .i64 0, .int .i64 0]) ?_ 1 _ rfl; (with_reducible repeat (refine blk_drewN ?_ _)); refine blk_put (cs := #[.int .i64 0, .int .i64 0]) ?_ 0 _ rfl; (with_reducible repeat (refine blk_drewN ?_ _)); exact BK289.out) Tryd.underlying26 rfl (by kernel_rfl)) rfl ?_
    exact ⟨by rfl, by repeat ((with_reducible first | exact HB.out | refine below_set ?_ GE289.out))⟩
   ·replace c17 := Bool.eq_false_iff.mpr c17
    subst c17
    have H1 : ((spec_l4Finals.f kj2 a0_0 a0_1 l0_2).bind fun bt293 => (spec_SeatChance.l0 kj2 a1 bt293.1 bt293.2 0 0 1)) = some (r1, r2, r3) := by rw [if_neg (show ¬ (false = true) by decide)] at H; exact H
    clear H
    have H := H1
    clear H1
    replace H := Option.bind_eq_some_iff.mp H
    obtain ⟨⟨t293, t296⟩, A200, H⟩ := H
    replace H : (spec_SeatChance.l0 kj2 a1 t293 t296 0 0 1) = some (r1, r2, r3) := H
    have A20 := A_.mk A200
    clear A200
    have H' := A_.mk H
    clear H
    go_wp2_with (first | ((with_reducible refine gate_dst (N := 6) rfl ?_); refine box_event ?hg (N := 6) ?hd (cs := #[.int .i64 0, .int .i64 0]) (t := 26) ?hr ?_; (case hd => rfl); (case hg => rfl); (case hr => (go_simp; done)); intro gb292 hg w21 hbox hb; have BK292 := A_.mk (hbox); have GE292 := A_.mk ((by rw [hg]; exact (below_size HB.out) : w.heap.size ≤ gb292)); replace HB := A_.mk (below_step HB.out hb); have NB288_292 := A_.mk ((by rw [hg]; exact Nat.ne_of_lt (blk_lt BK288.out) : gb288 ≠ gb292)); have NB292_288 := A_.mk ((by rw [hg]; exact Nat.ne_of_gt (blk_lt BK288.out) : gb292 ≠ gb288)); replace BK288 := A_.mk (blk_below BK288.out hb); have NB289_292 := A_.mk ((by rw [hg]; exact Nat.ne_of_lt (blk_lt BK289.out) : gb289 ≠ gb292)); have NB292_289 := A_.mk ((by rw [hg]; exact Nat.ne_of_gt (blk_lt BK289.out) : gb292 ≠ gb289)); replace BK289 := A_.mk (blk_below BK289.out hb); clear hb hbox hg; have hnb22 := NB292_288.out; have hnc22 := NB288_292.out; have hnb23 := NB292_289.out; have hnc23 := NB289_292.out; have hcz24_0 : w21.cell? ⟨gb292, 0, none⟩ = some (.int .i64 0) := (blk_cell BK292.out 0).trans rfl; have hcz24_1 : w21.cell? ⟨gb292, 1, none⟩ = some (.int .i64 0) := (blk_cell BK292.out 1).trans rfl; have hfz24_0 := blk_frozen BK292.out 0; have hfz24_1 := blk_frozen BK292.out 1; have hnb25 := NB288_289.out; have hnc25 := NB289_288.out; have hcz26_0 : w21.cell? ⟨gb288, 0, none⟩ = some (.int .i64 a0_0) := (blk_cell BK288.out 0).trans rfl; have hcz26_1 : w21.cell? ⟨gb288, 1, none⟩ = some (.bool a0_1) := (blk_cell BK288.out 1).trans rfl; have hcz26_2 : w21.cell? ⟨gb288, 2, none⟩ = some (.slice A0_2 l0_2.length c0_2) := (blk_cell BK288.out 2).trans rfl; have hfz26_0 := blk_frozen BK288.out 0; have hfz26_1 := blk_frozen BK288.out 1; have hfz26_2 := blk_frozen BK288.out 2) | ((with_reducible refine gate_callee (f := 25) rfl ?_); refine goesL_ (some 23) rfl rfl Tryd.func25 (by kernel_rfl) rfl #[.agg #[.int .i64 a0_0, .bool a0_1, .slice A0_2 l0_2.length c0_2]] rfl (by (try simp only [List.map_toArray, List.map_cons, List.map_nil]); (rfl)) ?_; (with_reducible refine (spec_l4Finals.calls kj2 a0_0 a0_1 _ _ l0_2 t293 t296 _ ?side1 ?side2 A20.out).mono ?_); (case side1 => exact Kd.C_below HR0_2.out (by repeat ((with_reducible first | exact HB.out | refine below_set ?_ GE292.out)))); (case side2 => exact HC0_2.out); rintro e w27 ⟨v294, v297, rfl, ho0, ho1, hb⟩; refine ⟨_, rfl, ?_⟩; have HO295 := A_.mk (Kd.R_lower ho0 (below_size (by repeat ((with_reducible first | exact HB.out | refine below_set ?_ GE292.out))))); have HO298 := A_.mk (Kd.R_lower (Kd.R_newB (Kd.R_newB ho1 (g := gb289) (o := .cells #[.int .i64 0, .int .i64 0] 26 (0, 0)) (by (with_reducible repeat (refine blk_drewN ?_ _)); refine blk_far ?_ NB289_292.out _; (with_reducible repeat (refine blk_drewN ?_ _)); refine blk_far ?_ NB289_292.out _; (with_reducible repeat (refine blk_drewN ?_ _)); exact BK289.out)) (g := gb292) (o := .cells #[.int .i64 0, .int .i64 1] 26 (0, 0)) (by (with_reducible repeat (refine blk_drewN ?_ _)); refine blk_put (cs := #[.int .i64 0, .int .i64 0]) ?_ 1 _ rfl; (with_reducible repeat (refine blk_drewN ?_ _)); refine blk_put (cs := #[.int .i64 0, .int .i64 0]) ?_ 0 _ rfl; (with_reducible repeat (refine blk_drewN ?_ _)); exact BK292.out)) (below_size (by repeat ((with_reducible first | exact HB.out | refine below_set ?_ GE292.out))))); replace BK288 := A_.mk (blk_below (g := gb288) (o := .cells #[.int .i64 a0_0, .bool a0_1, .slice A0_2 l0_2.length c0_2] 29 (0, 0)) (by (with_reducible repeat (refine blk_drewN ?_ _)); refine blk_far ?_ NB288_292.out _; (with_reducible repeat (refine blk_drewN ?_ _)); refine blk_far ?_ NB288_292.out _; (with_reducible repeat (refine blk_drewN ?_ _)); exact BK288.out) hb); replace BK289 := A_.mk (blk_below (g := gb289) (o := .cells #[.int .i64 0, .int .i64 0] 26 (0, 0)) (by (with_reducible repeat (refine blk_drewN ?_ _)); refine blk_far ?_ NB289_292.out _; (with_reducible repeat (refine blk_drewN ?_ _)); refine blk_far ?_ NB289_292.out _; (with_reducible repeat (refine blk_drewN ?_ _)); exact BK289.out) hb); replace BK292 := A_.mk (blk_below (g := gb292) (o := .cells #[.int .i64 0, .int .i64 1] 26 (0, 0)) (by (with_reducible repeat (refine blk_drewN ?_ _)); refine blk_put (cs := #[.int .i64 0, .int .i64 0]) ?_ 1 _ rfl; (with_reducible repeat (refine blk_drewN ?_ _)); refine blk_put (cs := #[.int .i64 0, .int .i64 0]) ?_ 0 _ rfl; (with_reducible repeat (refine blk_drewN ?_ _)); exact BK292.out) hb); replace HB := A_.mk (below_step (by repeat ((with_reducible first | exact HB.out | refine below_set ?_ GE292.out))) hb); (try clear hb); (try clear ho0); (try clear ho1)))
    go_loopg [9] kj2 (fun kq v9 w' => ∃ (x9_2 : Int) (x293000_2 : Int) (x293001_2 : Int), v9 = .int .i64 x9_2 ∧ A_ (spec_SeatChance.l0 kq a1 t293 t296 x9_2 x293000_2 x293001_2 = some (r1, r2, r3)) ∧ A_ (kq ≤ kj2) ∧ A_ (Kd.R (Kd.slice 3 (Kd.int .i64)) 22 w' w.heap.size (fun _ => True) v294 t293) ∧ A_ (Kd.R k26 26 w' w.heap.size (fun k_ => k_ ≠ gb289 ∧ k_ ≠ gb292) v297 t296) ∧ A_ (w'.heap[gb288]? = some (.cells #[.int .i64 a0_0, .bool a0_1, (.slice A0_2 l0_2.length c0_2)] 29 (0, 0))) ∧ A_ (w'.heap[gb289]? = some (.cells #[.int .i64 0, .int .i64 0] 26 (0, 0))) ∧ A_ (w'.heap[gb292]? = some (.cells #[.int .i64 x293000_2, .int .i64 x293001_2] 26 (0, 0))) ∧ A_ (Below w.heap.size w w'))
    case atStart => exact ⟨(0), (0), (1), (by rfl), H', ⟨Nat.le_refl _⟩, ⟨by (with_reducible repeat (apply Kd.R_alloc)); exact HO295.out⟩, ⟨by (with_reducible repeat (apply Kd.R_alloc)); exact Kd.R_mono HO298.out (fun _ hk => ⟨hk.1.2, hk.2⟩)⟩, ⟨by (with_reducible repeat (refine blk_drewN ?_ _)); exact BK288.out⟩, ⟨by (with_reducible repeat (refine blk_drewN ?_ _)); exact BK289.out⟩, ⟨by (with_reducible repeat (refine blk_drewN ?_ _)); exact BK292.out⟩, ⟨by repeat ((with_reducible (exact HB.out)))⟩⟩
    case round =>
     clear H'
     try clear c1
     try clear c2
     try clear p2
     try clear c3
     try clear p6
     try clear c7
     try clear c9
     try clear c14
     try clear c17
     try clear c18
     try clear c21
     try clear c22
     try clear c23
     try clear c25
     try clear hcz10_0
     try clear hcz10_1
     try clear hcz10_2
     try clear hcz12_0
     try clear hcz12_1
     try clear hcz12_2
     try clear hcz15_0
     try clear hcz15_1
     try clear hcz15_2
     try clear hcz19_0
     try clear hcz19_1
     try clear hcz24_0
     try clear hcz24_1
     try clear hcz26_0
     try clear hcz26_1
     try clear hcz26_2
     try clear hfz10_0
     try clear hfz10_1
     try clear hfz10_2
     try clear hfz12_0
     try clear hfz12_1
     try clear hfz12_2
     try clear hfz15_0
     try clear hfz15_1
     try clear hfz15_2
     try clear hfz19_0
     try clear hfz19_1
     try clear hfz24_0
     try clear hfz24_1
     try clear hfz26_0
     try clear hfz26_1
     try clear hfz26_2
     try clear p2
     try clear p6
     obtain ⟨x9_2, x293000_2, x293001_2, rfl, HA, HK2, HO_7, HO_8, BK288, BK289, BK292, HB⟩ := hrel
     cases gk with
     | zero => exact absurd HA.out (by simp [spec_SeatChance.l0])
     | succ k2 =>
      have H := HA.out
      clear HA
      simp only [spec_SeatChance.l0] at H
      by_cases c28 : x9_2 < (t293.length : Int)
      ·rw [if_pos c28] at H
       have c28b0 : decide (x9_2 < (t293.length : Int)) = true := decide_eq_true c28
       clear c28
       by_cases c29 : 0 ≤ x9_2
       ·rw [if_pos c29] at H
        have c29b0 : decide (0 ≤ x9_2) = true := decide_eq_true c29
        clear c29
        replace H := Option.bind_eq_some_iff.mp H
        obtain ⟨t300, A300, H⟩ := H
        replace H : (if t300 = true then (if x9_2 < (t296.length : Int) then ((spec_l2Plus.f k2 x293000_2 x293001_2 ((rd_T26 t296 x9_2).f0) ((rd_T26 t296 x9_2).f1)).bind fun bt302 => (spec_SeatChance.l0 k2 a1 t293 t296 (wrap64 (x9_2 + 1)) bt302.1 bt302.2)) else (none)) else (spec_SeatChance.l0 k2 a1 t293 t296 (wrap64 (x9_2 + 1)) x293000_2 x293001_2)) = some (r1, r2, r3) := H
        have A30 := A_.mk A300
        clear A300
        by_cases c31 : t300 = true
        ·subst c31
         have H1 : (if x9_2 < (t296.length : Int) then ((spec_l2Plus.f k2 x293000_2 x293001_2 ((rd_T26 t296 x9_2).f0) ((rd_T26 t296 x9_2).f1)).bind fun bt302 => (spec_SeatChance.l0 k2 a1 t293 t296 (wrap64 (x9_2 + 1)) bt302.1 bt302.2)) else (none)) = some (r1, r2, r3) := by rw [if_pos rfl] at H; exact H
         clear H
         have H := H1
         clear H1
         by_cases c32 : x9_2 < (t296.length : Int)
         ·rw [if_pos c32] at H
          have c32b0 : decide (x9_2 < (t296.length : Int)) = true := decide_eq_true c32
          clear c32
          replace H := Option.bind_eq_some_iff.mp H
          obtain ⟨⟨t302, t303⟩, A330, H⟩ := H
          replace H : (spec_SeatChance.l0 k2 a1 t293 t296 (wrap64 (x9_2 + 1)) t302 t303) = some (r1, r2, r3) := H
          have A33 := A_.mk A330
          clear A330
          have H' := A_.mk H
          clear H
          obtain ⟨Ao34, co34, eo34⟩ := Kd.R_slice HO_7.out
          subst eo34
          have p299 : 0 ≤ (x9_2 : Int) := of_decide_eq_true (by (with_reducible assumption))
          have q299 : x9_2 < (t293.length : Int) := of_decide_eq_true (by (with_reducible assumption))
          obtain ⟨ad299, A299_0, c299_0, e299, hx299_0, hl299_0, hi299_0⟩ := at_L2 (Kd.R_reads' HO_7.out).2.2 x9_2 p299 q299
          cases e299
          obtain ⟨ce299, hce299, hMe299, hcc299⟩ := Kd.R_get HO_7.out [] x9_2 p299 (by exact q299)
          obtain ⟨ve299_0, rfl, ge299_0⟩ := hMe299
          have hv299_0 := hcc299 0 _ rfl
          rw [Nat.add_zero, show ((Kd.slice 3 (Kd.int .i64))).sz = 1 from rfl, Nat.mul_one] at hv299_0
          replace hv299_0 := Option.some.inj (hv299_0.symm.trans hx299_0)
          rw [hv299_0] at ge299_0
          have HL299_0 := A_.mk (show Kd.R (Kd.int .i64) 3 _ _ _ _ (rd_L2 t293 x9_2) from ge299_0)
          clear hv299_0 ge299_0
          clear hcc299 hce299
          have HR299_0 := A_.mk hi299_0
          have HC299_0 := A_.mk hl299_0
          clear hi299_0 hl299_0
          replace p299 := eq_true p299
          replace q299 := eq_true q299
          try go_wp2_with ((with_reducible refine gate_callee (f := 45) rfl ?_); refine goesL_ (some 37) rfl rfl Tryd.func45 (by kernel_rfl) rfl #[.slice A299_0 (rd_L2 t293 x9_2).length c299_0, .int .i64 a1] rfl (by (try simp only [List.map_toArray, List.map_cons, List.map_nil]); (rfl)) ?_; (with_reducible refine (spec_l1Has.calls k2 _ _ (rd_L2 t293 x9_2) a1 true _ ?side1 ?side2 A30.out).mono ?_); (case side1 => repeat (exact (by repeat ((with_reducible exact HR299_0.out))))); (case side2 => exact HC299_0.out); rintro e w' ⟨rfl, ⟨nd, rfl⟩⟩; refine ⟨_, rfl, ?_⟩; (try (rw [drewN_self wr]; generalize hq_ : World.drewN wr _ = wr; have n0_ : A_ (Kd.R (Kd.int .i64) 3 wr w.heap.size (fun k_ => some k_ ≠ (.slice (some ad299) t293.length co34 : Value).ownBlock) (.slice A299_0 (rd_L2 t293 x9_2).length c299_0) (rd_L2 t293 x9_2)) := ⟨by rw [← hq_]; exact (by (with_reducible repeat (apply Kd.R_drewN)); exact Kd.R_mono HL299_0.out (fun _ hk => hk.2))⟩; have n1_ : A_ (Kd.R (Kd.slice 3 (Kd.int .i64)) 22 wr w.heap.size (fun _ => True) (.slice (some ad299) t293.length co34) t293) := ⟨by rw [← hq_]; exact HO_7.out⟩; have n2_ : A_ (Kd.R k26 26 wr w.heap.size (fun k_ => k_ ≠ gb289 ∧ k_ ≠ gb292) v297 t296) := ⟨by rw [← hq_]; exact HO_8.out⟩; have n3_ : A_ (wr.heap[gb288]? = some (.cells #[.int .i64 a0_0, .bool a0_1, .slice A0_2 l0_2.length c0_2] 29 (0, 0))) := ⟨by rw [← hq_]; exact BK288.out⟩; have n4_ : A_ (wr.heap[gb289]? = some (.cells #[.int .i64 0, .int .i64 0] 26 (0, 0))) := ⟨by rw [← hq_]; exact BK289.out⟩; have n5_ : A_ (wr.heap[gb292]? = some (.cells #[.int .i64 x293000_2, .int .i64 x293001_2] 26 (0, 0))) := ⟨by rw [← hq_]; exact BK292.out⟩; have n6_ : A_ (Below w.heap.size w wr) := ⟨by rw [← hq_]; exact (by repeat ((with_reducible first | exact HB.out | apply pw_below_drewN)))⟩; have n7_ : A_ (Kd.C (Kd.int .i64) wr A299_0 (rd_L2 t293 x9_2).length (rd_L2 t293 x9_2)) := ⟨by rw [← hq_]; exact (by repeat (first | (with_reducible exact HR299_0.out) | (with_reducible refine Kd.C_drewN ?_ _)))⟩; clear HL299_0 HO_7 HO_8 BK288 BK289 BK292 HB HR299_0 hq_; have HL299_0 := n0_; have HO_7 := n1_; have HO_8 := n2_; have BK288 := n3_; have BK289 := n4_; have BK292 := n5_; have HB := n6_; have HR299_0 := n7_; clear n0_ n1_ n2_ n3_ n4_ n5_ n6_ n7_)))
          replace HO_7 := A_.mk (Kd.R_drew HO_7.out)
          replace HO_8 := A_.mk (Kd.R_drew HO_8.out)
          replace HL299_0 := A_.mk (Kd.R_drew HL299_0.out)
          replace BK288 := A_.mk (blk_drew BK288.out)
          replace BK289 := A_.mk (blk_drew BK289.out)
          replace BK292 := A_.mk (blk_drew BK292.out)
          replace HR299_0 := A_.mk (Kd.C_drew HR299_0.out)
          replace HB := A_.mk (below_drew1 HB.out)
          obtain ⟨Ao36, co36, eo36⟩ := Kd.R_slice HO_8.out
          (subst eo36)
          have p301 : 0 ≤ (x9_2 : Int) := of_decide_eq_true (by (with_reducible assumption))
          have q301 : x9_2 < (t296.length : Int) := of_decide_eq_true (by (with_reducible assumption))
          obtain ⟨ad301, e301, hx301_0, hx301_1⟩ := at_T26 (Kd.R_reads' HO_8.out).2.2 x9_2 p301 q301
          cases e301
          replace p301 := eq_true p301
          replace q301 := eq_true q301
          refine start_ (n := 7) (S := fun w' => w'.cell? ⟨gb292, 0, none⟩ = some (.int .i64 x293000_2) ∧ w'.cell? ⟨gb292, 1, none⟩ = some (.int .i64 x293001_2) ∧ w'.cell? (ad301.add ((x9_2).toNat * 2)) = some (.int .i64 ((rd_T26 t296 x9_2).f0)) ∧ w'.cell? ⟨(ad301.add ((x9_2).toNat * 2)).block, (ad301.add ((x9_2).toNat * 2)).off + 1, none⟩ = some (.int .i64 ((rd_T26 t296 x9_2).f1))) (ds := [6]) (m_ 7 0) (by kernel_rfl) rfl rfl ⟨(blk_cell BK292.out 0).trans rfl, (blk_cell BK292.out 1).trans rfl, hx301_0, hx301_1⟩ (fun hHeld => ?_)
          generalize wr.drew = w35 at HO_7 HO_8 HL299_0 BK288 BK289 BK292 HR299_0 HB hx301_0 hx301_1 hHeld ⊢
          refine pure_ (i := 1) (N := some 39) (v := ?_) (a' := ?_) (m_ 7 2) rfl rfl (by kernel_rfl) (fun _ _ _ h => h) (Or.inl ⟨by rfl, ?_⟩) ?_ ?_
          rotate_left
          ·intro w'
           go_simp
           with_reducible rfl
          rotate_left
          ·simp only [Act.put, sI_, s0_, s1_, i64_w, i32_w]
           rfl
          refine pure_ (i := 2) (N := some 40) (v := ?_) (a' := ?_) (m_ 7 6) rfl rfl (by kernel_rfl) (fun _ _ _ h => h) (Or.inl ⟨by rfl, ?_⟩) ?_ ?_
          rotate_left
          ·intro w'
           go_simp
           with_reducible rfl
          rotate_left
          ·simp only [Act.put, sI_, s0_, s1_, i64_w, i32_w]
           rfl
          refine pure_ (i := 3) (N := some 41) (v := ?_) (a' := ?_) (m_ 7 14) rfl rfl (by kernel_rfl) (fun _ _ _ h => h) (Or.inl ⟨by rfl, ?_⟩) ?_ ?_
          rotate_left
          ·intro w'
           go_simp
           with_reducible rfl
          rotate_left
          ·simp only [Act.put, sI_, s0_, s1_, i64_w, i32_w]
           rfl
          refine take_ (i := 0) (N := some 38) (v := ?_) (a' := ?_) (m_ 7 15) rfl rfl (by kernel_rfl) (fun _ _ _ h => h) (Or.inl ⟨by rfl, ?_⟩) hHeld ?_ ?_
          rotate_left
          ·rintro w' ⟨s0, s1, s2, s3⟩
           go_simp
           with_reducible rfl
          rotate_left
          ·simp only [Act.put, sI_, s0_, s1_, i64_w, i32_w]
           rfl
          refine take_ (i := 4) (N := some 42) (v := ?_) (a' := ?_) (m_ 7 31) rfl rfl (by kernel_rfl) (fun _ _ _ h => h) (Or.inl ⟨by rfl, ?_⟩) hHeld ?_ ?_
          rotate_left
          ·rintro w' ⟨s0, s1, s2, s3⟩
           go_simp
           with_reducible rfl
          rotate_left
          ·simp only [Act.put, sI_, s0_, s1_, i64_w, i32_w]
           rfl
          refine one_ (i := 5) (N := some 43) (m_ 7 63) rfl rfl (by kernel_rfl) (by decide) (fun K hK => ?_)
          refine goes_ Tryd.func46 (by kernel_rfl) rfl #[.agg #[.int .i64 x293000_2, .int .i64 x293001_2], .agg #[.int .i64 ((rd_T26 t296 x9_2).f0), .int .i64 ((rd_T26 t296 x9_2).f1)]] (by rfl) rfl rfl (by (try simp only [List.map_toArray, List.map_cons, List.map_nil]); (rfl)) ?_
          with_reducible refine (spec_l2Plus.calls k2 x293000_2 x293001_2 ((rd_T26 t296 x9_2).f0) ((rd_T26 t296 x9_2).f1) t302 t303 _ A33.out).mono ?_
          rintro e w37 ⟨rfl, hb⟩
          have HS2_ := (hb.cell (World.block_lt_of_cell? _ _ (hHeld.2.2.1))).trans (hHeld.2.2.1)
          have HS3_ := (hb.cell (World.block_lt_of_cell? _ _ (hHeld.2.2.2))).trans (hHeld.2.2.2)
          refine ⟨_, rfl, ?_⟩
          replace HO_7 := A_.mk (Kd.R_below HO_7.out hb)
          replace HO_8 := A_.mk (Kd.R_below HO_8.out hb)
          replace HL299_0 := A_.mk (Kd.R_below HL299_0.out hb)
          replace BK288 := A_.mk (blk_below BK288.out hb)
          replace BK289 := A_.mk (blk_below BK289.out hb)
          replace BK292 := A_.mk (blk_below BK292.out hb)
          replace HR299_0 := A_.mk (Kd.C_below (by repeat ((with_reducible exact HR299_0.out))) hb)
          replace HB := A_.mk (below_step HB.out hb)
          (try clear hb)
          skip
          skip
          skip
          refine hK.out _ _ ⟨(blk_cell BK292.out 0).trans rfl, (blk_cell BK292.out 1).trans rfl, HS2_, HS3_⟩ (fun hHeld => ?_)
          clear hK K
          refine norm_ (a' := ?_) ?_ ?_
          rotate_left
          ·show Act.put _ (some 43) _ = _
           simp only [Act.put, sI_, s0_, s1_, i64_w, i32_w]
           rfl
          refine last_ (i := 6) (N := none) (m_ 7 127) rfl rfl (by kernel_rfl) (by decide) (fun K hK => ?_)
          have hs38 : w37.cell? ⟨gb292, 0, none⟩ = some (.int .i64 x293000_2) := (blk_cell BK292.out 0).trans rfl
          have hfs38 := blk_frozen BK292.out 0
          have hns38_0 := NB288_292.out
          have hns38_1 := NB289_292.out
          have hms38_0 := NB292_288.out
          have hms38_1 := NB292_289.out
          have hs39 : w37.cell? ⟨gb292, 1, none⟩ = some (.int .i64 x293001_2) := (blk_cell BK292.out 1).trans rfl
          have hfs39 := blk_frozen BK292.out 1
          have hns39_0 := NB288_292.out
          have hns39_1 := NB289_292.out
          have hms39_0 := NB292_288.out
          have hms39_1 := NB292_289.out
          refine skip_ (w1 := ?_) (by rfl) rfl ?_ ?_
          rotate_left
          ·go_simp
           rfl
          refine hK.out _ _ ?_
          clear hK K
          refine done_ (by kernel_rfl) ?_
          try go_wp2
          go_roundg k2
          case measure => have := HJ2.out; have := HK2.out; omega
          case rel => exact ⟨(wrap64 (x9_2 + 1)), (t302), (t303), (by rfl), H', ⟨by have := HJ2.out; have := HK2.out; omega⟩, ⟨by (with_reducible repeat (apply Kd.R_alloc)); exact Kd.R_mono (Kd.R_far (p := ⟨gb292, 1, none⟩) (Kd.R_far (p := ⟨gb292, 0, none⟩) (Kd.R_types HO_7.out BK292.out (by decide)) (fun _ hk => hk.2) (.int .i64 t302)) (fun _ hk => hk.2) (.int .i64 t303)) (fun _ hk => trivial)⟩, ⟨by (with_reducible repeat (apply Kd.R_alloc)); exact Kd.R_mono (Kd.R_far (p := ⟨gb292, 1, none⟩) (Kd.R_far (p := ⟨gb292, 0, none⟩) (Kd.R_mono HO_8.out (fun k_ hk => (⟨hk, hk.2⟩ : _ ∧ k_ ≠ gb292))) (fun _ hk => hk.2) (.int .i64 t302)) (fun _ hk => hk.2) (.int .i64 t303)) (fun _ hk => ⟨hk.1.1, hk.1.2⟩)⟩, ⟨by (with_reducible repeat (refine blk_drewN ?_ _)); refine blk_far ?_ NB288_292.out _; (with_reducible repeat (refine blk_drewN ?_ _)); refine blk_far ?_ NB288_292.out _; (with_reducible repeat (refine blk_drewN ?_ _)); exact BK288.out⟩, ⟨by (with_reducible repeat (refine blk_drewN ?_ _)); refine blk_far ?_ NB289_292.out _; (with_reducible repeat (refine blk_drewN ?_ _)); refine blk_far ?_ NB289_292.out _; (with_reducible repeat (refine blk_drewN ?_ _)); exact BK289.out⟩, ⟨by (with_reducible repeat (refine blk_drewN ?_ _)); refine blk_put (cs := #[.int .i64 t302, .int .i64 x293001_2]) ?_ 1 _ rfl; (with_reducible repeat (refine blk_drewN ?_ _)); refine blk_put (cs := #[.int .i64 x293000_2, .int .i64 x293001_2]) ?_ 0 _ rfl; (with_reducible repeat (refine blk_drewN ?_ _)); exact BK292.out⟩, ⟨by repeat ((with_reducible first | exact HB.out | refine below_set ?_ GE292.out))⟩⟩
         ·rw [if_neg c32] at H
          exact absurd H (by simp)
        ·replace c31 := Bool.eq_false_iff.mpr c31
         subst c31
         have H1 : (spec_SeatChance.l0 k2 a1 t293 t296 (wrap64 (x9_2 + 1)) x293000_2 x293001_2) = some (r1, r2, r3) := by rw [if_neg (show ¬ (false = true) by decide)] at H; exact H
         clear H
         have H := H1
         clear H1
         have H' := A_.mk H
         clear H
         obtain ⟨Ao40, co40, eo40⟩ := Kd.R_slice HO_7.out
         subst eo40
         have p299 : 0 ≤ (x9_2 : Int) := of_decide_eq_true (by (with_reducible assumption))
         have q299 : x9_2 < (t293.length : Int) := of_decide_eq_true (by (with_reducible assumption))
         obtain ⟨ad299, A299_0, c299_0, e299, hx299_0, hl299_0, hi299_0⟩ := at_L2 (Kd.R_reads' HO_7.out).2.2 x9_2 p299 q299
         cases e299
         obtain ⟨ce299, hce299, hMe299, hcc299⟩ := Kd.R_get HO_7.out [] x9_2 p299 (by exact q299)
         obtain ⟨ve299_0, rfl, ge299_0⟩ := hMe299
         have hv299_0 := hcc299 0 _ rfl
         rw [Nat.add_zero, show ((Kd.slice 3 (Kd.int .i64))).sz = 1 from rfl, Nat.mul_one] at hv299_0
         replace hv299_0 := Option.some.inj (hv299_0.symm.trans hx299_0)
         rw [hv299_0] at ge299_0
         have HL299_0 := A_.mk (show Kd.R (Kd.int .i64) 3 _ _ _ _ (rd_L2 t293 x9_2) from ge299_0)
         clear hv299_0 ge299_0
         clear hcc299 hce299
         have HR299_0 := A_.mk hi299_0
         have HC299_0 := A_.mk hl299_0
         clear hi299_0 hl299_0
         replace p299 := eq_true p299
         replace q299 := eq_true q299
         go_wp2_with ((with_reducible refine gate_callee (f := 45) rfl ?_); refine goesL_ (some 37) rfl rfl Tryd.func45 (by kernel_rfl) rfl #[.slice A299_0 (rd_L2 t293 x9_2).length c299_0, .int .i64 a1] rfl (by (try simp only [List.map_toArray, List.map_cons, List.map_nil]); (rfl)) ?_; (with_reducible refine (spec_l1Has.calls k2 _ _ (rd_L2 t293 x9_2) a1 false _ ?side1 ?side2 A30.out).mono ?_); (case side1 => repeat (exact (by repeat ((with_reducible exact HR299_0.out))))); (case side2 => exact HC299_0.out); rintro e w' ⟨rfl, ⟨nd, rfl⟩⟩; refine ⟨_, rfl, ?_⟩)
         go_roundg k2
         case measure => have := HJ2.out; have := HK2.out; omega
         case rel => exact ⟨(wrap64 (x9_2 + 1)), (x293000_2), (x293001_2), (by rfl), H', ⟨by have := HJ2.out; have := HK2.out; omega⟩, ⟨by (with_reducible repeat (apply Kd.R_drewN)); exact HO_7.out⟩, ⟨by (with_reducible repeat (apply Kd.R_drewN)); exact HO_8.out⟩, ⟨by (with_reducible repeat (refine blk_drewN ?_ _)); exact BK288.out⟩, ⟨by (with_reducible repeat (refine blk_drewN ?_ _)); exact BK289.out⟩, ⟨by (with_reducible repeat (refine blk_drewN ?_ _)); exact BK292.out⟩, ⟨by repeat ((with_reducible first | exact HB.out | apply pw_below_drewN))⟩⟩
       ·rw [if_neg c29] at H
        exact absurd H (by simp)
      ·rw [if_neg c28] at H
       have c28b0 : decide (x9_2 < (t293.length : Int)) = false := decide_eq_false c28
       clear c28
       simp only [Option.some.injEq, Prod.mk.injEq] at H
       obtain ⟨rfl, rfl, rfl⟩ := H
       obtain ⟨Ao41, co41, eo41⟩ := Kd.R_slice HO_7.out
       subst eo41
       have hnb42 := NB292_288.out
       have hnc42 := NB288_292.out
       have hnb43 := NB292_289.out
       have hnc43 := NB289_292.out
       have hcz44_0 : wr.cell? ⟨gb292, 0, none⟩ = some (.int .i64 x293000_2) := (blk_cell BK292.out 0).trans rfl
       have hcz44_1 : wr.cell? ⟨gb292, 1, none⟩ = some (.int .i64 x293001_2) := (blk_cell BK292.out 1).trans rfl
       have hfz44_0 := blk_frozen BK292.out 0
       have hfz44_1 := blk_frozen BK292.out 1
       have hnb45 := NB289_288.out
       have hnc45 := NB288_289.out
       have hcz46_0 : wr.cell? ⟨gb289, 0, none⟩ = some (.int .i64 0) := (blk_cell BK289.out 0).trans rfl
       have hcz46_1 : wr.cell? ⟨gb289, 1, none⟩ = some (.int .i64 0) := (blk_cell BK289.out 1).trans rfl
       have hfz46_0 := blk_frozen BK289.out 0
       have hfz46_1 := blk_frozen BK289.out 1
       go_wp2
       refine bodyPost_ret (results_ct rfl _ _ gb289 26 #[.int .i64 x293000_2, .int .i64 x293001_2] (0, 0) _ rfl (by (with_reducible repeat (refine blk_drewN ?_ _)); refine blk_put (cs := #[.int .i64 x293000_2, .int .i64 0]) ?_ 1 _ rfl; (with_reducible repeat (refine blk_drewN ?_ _)); refine blk_put (cs := #[.int .i64 0, .int .i64 0]) ?_ 0 _ rfl; (with_reducible repeat (refine blk_drewN ?_ _)); exact BK289.out) Tryd.underlying26 rfl (by kernel_rfl)) rfl ?_
       exact ⟨by rfl, by repeat ((with_reducible first | exact HB.out | refine below_set ?_ GE289.out))⟩

/-! ### impl_Row_bench: function 37 -/
def impl_Row_bench.f (a0_0 : Int) (a0_1 : Bool) (l0_2 : List Int) : Option (Int × Bool) := some (a0_0, a0_1)
theorem impl_Row_bench.calls (a0_0 : Int) (a0_1 : Bool) (A0_2 : Option Addr) (c0_2 : Nat) (l0_2 : List Int) (r1 : Int) (r2 : Bool) (w : World) (hr0_2 : Kd.C (Kd.int .i64) w A0_2 l0_2.length l0_2) (hc0_2 : l0_2.length ≤ c0_2) (h : impl_Row_bench.f a0_0 a0_1 l0_2 = some (r1, r2)) :
  Calls Tryd.prog 37 #[.agg #[.int .i64 a0_0, .bool a0_1, .slice A0_2 l0_2.length c0_2]] w fun e w' => e = .returned (.agg #[.int .i64 r1, .bool r2]) ∧ Below w.heap.size w w' := by
 have hu29 := Tryd.underlying29
 have hu63 := Tryd.underlying63
 have HR0_2 := A_.mk hr0_2
 have HC0_2 := A_.mk hc0_2
 clear hr0_2 hc0_2
 have HB := A_.mk (Below.refl w.heap.size w)
 have H : (some (a0_0, a0_1)) = some (r1, r2) := h
 clear h
 simp only [Option.some.injEq, Prod.mk.injEq] at H
 obtain ⟨rfl, rfl⟩ := H
 go_enter Tryd.func37, Tryd.ntmps37
 go_wp2_with (first | ((with_reducible refine gate_dst (N := 1) rfl ?_); refine box_event ?hg (N := 1) ?hd (cs := #[.int .i64 a0_0, .bool a0_1, .slice A0_2 l0_2.length c0_2]) (t := 29) ?hr ?_; (case hd => rfl); (case hg => rfl); (case hr => (go_simp; done)); intro gb304 hg w2 hbox hb; replace HB := A_.mk (below_step HB.out hb); have BK304 := A_.mk (hbox); clear hb hbox hg) | ((with_reducible refine gate_dst (N := 2) rfl ?_); refine box_event ?hg (N := 2) ?hd (cs := #[.int .i64 0, .bool false]) (t := 63) ?hr ?_; (case hd => rfl); (case hg => rfl); (case hr => (go_simp; done)); intro gb305 hg w3 hbox hb; have BK305 := A_.mk (hbox); have GE305 := A_.mk ((by rw [hg]; exact (below_size HB.out) : w.heap.size ≤ gb305)); replace HB := A_.mk (below_step HB.out hb); have NB304_305 := A_.mk ((by rw [hg]; exact Nat.ne_of_lt (blk_lt BK304.out) : gb304 ≠ gb305)); have NB305_304 := A_.mk ((by rw [hg]; exact Nat.ne_of_gt (blk_lt BK304.out) : gb305 ≠ gb304)); replace BK304 := A_.mk (blk_below BK304.out hb); clear hb hbox hg; have hnb4 := NB304_305.out; have hnc4 := NB305_304.out; have hcz5_0 : w3.cell? ⟨gb304, 0, none⟩ = some (.int .i64 a0_0) := (blk_cell BK304.out 0).trans rfl; have hcz5_1 : w3.cell? ⟨gb304, 1, none⟩ = some (.bool a0_1) := (blk_cell BK304.out 1).trans rfl; have hcz5_2 : w3.cell? ⟨gb304, 2, none⟩ = some (.slice A0_2 l0_2.length c0_2) := (blk_cell BK304.out 2).trans rfl; have hfz5_0 := blk_frozen BK304.out 0; have hfz5_1 := blk_frozen BK304.out 1; have hfz5_2 := blk_frozen BK304.out 2; have hcz6_0 : w3.cell? ⟨gb305, 0, none⟩ = some (.int .i64 0) := (blk_cell BK305.out 0).trans rfl; have hcz6_1 : w3.cell? ⟨gb305, 1, none⟩ = some (.bool false) := (blk_cell BK305.out 1).trans rfl; have hfz6_0 := blk_frozen BK305.out 0; have hfz6_1 := blk_frozen BK305.out 1))
 refine bodyPost_ret (results_cell_row rfl _ _ gb305 63 #[.int .i64 a0_0, .bool a0_1] (0, 0) _ rfl (by (with_reducible repeat (refine blk_drewN ?_ _)); refine blk_put (cs := #[.int .i64 a0_0, .bool false]) ?_ 1 _ rfl; (with_reducible repeat (refine blk_drewN ?_ _)); refine blk_put (cs := #[.int .i64 0, .bool false]) ?_ 0 _ rfl; (with_reducible repeat (refine blk_drewN ?_ _)); exact BK305.out) Tryd.underlying63 rfl (by kernel_rfl)) rfl ?_
 exact ⟨by rfl, by repeat ((with_reducible first | exact HB.out | refine below_set ?_ GE305.out))⟩

/-! ### impl_within: function 90 -/
def impl_within.f (a0 : Int) (a1 : Int) (a2 : Int) : Option (Bool) := if a0 ≥ a1 then (some (decide (a0 ≤ a2))) else (some false)
theorem impl_within.calls (a0 : Int) (a1 : Int) (a2 : Int) (r : Bool) (w : World) (h : impl_within.f a0 a1 a2 = some r) :
  Calls Tryd.prog 90 #[.int .i64 a0, .int .i64 a1, .int .i64 a2] w fun e w' => e = .returned (.bool r) ∧ Drawn0 w w' := by
 have H : (if a0 ≥ a1 then (some (decide (a0 ≤ a2))) else (some false)) = some r := h
 clear h
 by_cases c4 : a0 ≥ a1
 ·rw [if_pos c4] at H
  have c4b0 : decide (a1 ≤ a0) = true := decide_eq_true c4
  clear c4
  obtain rfl := Option.some.inj H
  go_enter Tryd.func90, Tryd.ntmps90
  go_wp2
  go_ret
  exact ⟨by rfl, by repeat (exact Drawn0.refl _)⟩
 ·rw [if_neg c4] at H
  have c4b0 : decide (a1 ≤ a0) = false := decide_eq_false c4
  clear c4
  obtain rfl := Option.some.inj H
  go_enter Tryd.func90, Tryd.ntmps90
  go_wp2
  go_ret
  exact ⟨by rfl, by repeat (exact Drawn0.refl _)⟩

/-! ### impl_allWithin: function 70 -/
def impl_allWithin.l0 : Nat → Int → Int → List Int → Int → Int → Option (Bool)
 | 0, _, _, _, _, _ => none
 | k + 1, x1, x2, x9, x10, x11 => if x11 < x10 then (if 0 ≤ x11 then (if x11 < (x9.length : Int) then ((impl_within.f (rd x9 x11) x1 x2).bind fun t307 => (if t307 = true then (impl_allWithin.l0 k x1 x2 x9 x10 (wrap64 (x11 + 1))) else (some false))) else (none)) else (none)) else (some true)
def impl_allWithin.f (k : Nat) (l0 : List Int) (a1 : Int) (a2 : Int) : Option (Bool) := impl_allWithin.l0 k a1 a2 l0 (l0.length : Int) 0
theorem impl_allWithin.mono_l : ∀ k, (∀ y0 y1 y2 y3 y4, LeO (impl_allWithin.l0 k y0 y1 y2 y3 y4) (impl_allWithin.l0 (k + 1) y0 y1 y2 y3 y4))
 | 0 => fun _ _ _ _ _ r h => by simp [impl_allWithin.l0] at h
 | k + 1 => by
  have ih0 := impl_allWithin.mono_l k
  ·intro y0 y1 y2 y3 y4
   unfold impl_allWithin.l0
   repeat' first
   | (with_reducible exact ih0 _ _ _ _ _)
   | (with_reducible exact LeO.refl _)
   | (with_reducible exact LeO.none _)
   | (with_reducible refine LeO.ite ?_ ?_)
   | (with_reducible refine LeO.bind ?_ (fun _ => ?_))
   | exact ih0 _ _ _ _ _
   | exact LeO.none _
   | refine LeO.ite ?_ ?_
   | refine LeO.bind ?_ (fun _ => ?_)
theorem impl_allWithin.mono : ∀ a0 a1 a2 k, LeO (impl_allWithin.f k a0 a1 a2) (impl_allWithin.f (k + 1) a0 a1 a2) := by
 intro a0 a1 a2 k
 have ih0 := impl_allWithin.mono_l k
 unfold impl_allWithin.f
 repeat' first
   | (with_reducible exact ih0 _ _ _ _ _)
   | (with_reducible exact LeO.refl _)
   | (with_reducible exact LeO.none _)
   | (with_reducible refine LeO.ite ?_ ?_)
   | (with_reducible refine LeO.bind ?_ (fun _ => ?_))
   | exact ih0 _ _ _ _ _
   | exact LeO.none _
   | refine LeO.ite ?_ ?_
   | refine LeO.bind ?_ (fun _ => ?_)
theorem impl_allWithin.calls (k : Nat) (A0 : Option Addr) (c0 : Nat) (l0 : List Int) (a1 : Int) (a2 : Int) (r : Bool) (w : World) (hr0 : Kd.C (Kd.int .i64) w A0 l0.length l0) (hc0 : l0.length ≤ c0) (h : impl_allWithin.f k l0 a1 a2 = some r) :
  Calls Tryd.prog 70 #[.slice A0 l0.length c0, .int .i64 a1, .int .i64 a2] w fun e w' => e = .returned (.bool r) ∧ Drawn0 w w' := by
 have HR0 := A_.mk hr0
 have HC0 := A_.mk hc0
 clear hr0 hc0
 have H : (impl_allWithin.l0 k a1 a2 l0 (l0.length : Int) 0) = some r := h
 clear h
 have H' := A_.mk H
 clear H
 go_enter Tryd.func70, Tryd.ntmps70
 go_wp2
 go_loopg [11] k (fun kq v11 w' => ∃ (x11_1 : Int), v11 = .int .i64 x11_1 ∧ A_ (impl_allWithin.l0 kq a1 a2 l0 (l0.length : Int) x11_1 = some r) ∧ A_ (kq ≤ k) ∧ Drawn0 w w')
 case atStart => exact ⟨(0), (by rfl), H', ⟨Nat.le_refl _⟩, by repeat (exact Drawn0.refl _)⟩
 case round =>
  clear H'
  try clear p2
  obtain ⟨x11_1, rfl, HA, HK1, ⟨m1, rfl⟩⟩ := hrel
  cases gk with
  | zero => exact absurd HA.out (by simp [impl_allWithin.l0])
  | succ k1 =>
   have H := HA.out
   clear HA
   simp only [impl_allWithin.l0] at H
   by_cases c4 : x11_1 < (l0.length : Int)
   ·rw [if_pos c4] at H
    have c4b0 : decide (x11_1 < (l0.length : Int)) = true := decide_eq_true c4
    clear c4
    by_cases c5 : 0 ≤ x11_1
    ·rw [if_pos c5] at H
     have c5b0 : decide (0 ≤ x11_1) = true := decide_eq_true c5
     clear c5
     by_cases c6 : x11_1 < (l0.length : Int)
     ·rw [if_pos c6] at H
      have c6b0 : decide (x11_1 < (l0.length : Int)) = true := decide_eq_true c6
      clear c6
      replace H := Option.bind_eq_some_iff.mp H
      obtain ⟨t307, A70, H⟩ := H
      replace H : (if t307 = true then (impl_allWithin.l0 k1 a1 a2 l0 (l0.length : Int) (wrap64 (x11_1 + 1))) else (some false)) = some r := H
      have A7 := A_.mk A70
      clear A70
      by_cases c8 : t307 = true
      ·subst c8
       have H1 : (impl_allWithin.l0 k1 a1 a2 l0 (l0.length : Int) (wrap64 (x11_1 + 1))) = some r := by rw [if_pos rfl] at H; exact H
       clear H
       have H := H1
       clear H1
       have H' := A_.mk H
       clear H
       have p306 : 0 ≤ (x11_1 : Int) := of_decide_eq_true (by (with_reducible assumption))
       have q306 : x11_1 < (l0.length : Int) := of_decide_eq_true (by (with_reducible assumption))
       skip
       obtain ⟨ad306, e306, hx306_0⟩ := Kd.at_int HR0.out x11_1 p306 q306
       cases e306
       replace p306 := eq_true p306
       replace q306 := eq_true q306
       go_wp2_with ((with_reducible refine gate_callee (f := 90) rfl ?_); refine goesL_ (some 18) rfl rfl Tryd.func90 (by kernel_rfl) rfl #[.int .i64 (rd l0 x11_1), .int .i64 a1, .int .i64 a2] rfl (by (try simp only [List.map_toArray, List.map_cons, List.map_nil]); (rfl)) ?_; (with_reducible refine (impl_within.calls (rd l0 x11_1) a1 a2 true _ A7.out).mono ?_); rintro e w' ⟨rfl, ⟨nd, rfl⟩⟩; refine ⟨_, rfl, ?_⟩)
       go_roundg k1
       case measure => have := HK1.out; omega
       case rel => exact ⟨(wrap64 (x11_1 + 1)), (by rfl), H', ⟨by have := HK1.out; omega⟩, by repeat (first | exact Drawn0.refl _ | apply Drawn0.step)⟩
      ·replace c8 := Bool.eq_false_iff.mpr c8
       subst c8
       have H1 : (some false) = some r := by rw [if_neg (show ¬ (false = true) by decide)] at H; exact H
       clear H
       have H := H1
       clear H1
       obtain rfl := Option.some.inj H
       have p306 : 0 ≤ (x11_1 : Int) := of_decide_eq_true (by (with_reducible assumption))
       have q306 : x11_1 < (l0.length : Int) := of_decide_eq_true (by (with_reducible assumption))
       skip
       obtain ⟨ad306, e306, hx306_0⟩ := Kd.at_int HR0.out x11_1 p306 q306
       cases e306
       replace p306 := eq_true p306
       replace q306 := eq_true q306
       go_wp2_with ((with_reducible refine gate_callee (f := 90) rfl ?_); refine goesL_ (some 18) rfl rfl Tryd.func90 (by kernel_rfl) rfl #[.int .i64 (rd l0 x11_1), .int .i64 a1, .int .i64 a2] rfl (by (try simp only [List.map_toArray, List.map_cons, List.map_nil]); (rfl)) ?_; (with_reducible refine (impl_within.calls (rd l0 x11_1) a1 a2 false _ A7.out).mono ?_); rintro e w' ⟨rfl, ⟨nd, rfl⟩⟩; refine ⟨_, rfl, ?_⟩)
       go_ret
       exact ⟨by rfl, by repeat (first | exact Drawn0.refl _ | apply Drawn0.step)⟩
     ·rw [if_neg c6] at H
      exact absurd H (by simp)
    ·rw [if_neg c5] at H
     exact absurd H (by simp)
   ·rw [if_neg c4] at H
    have c4b0 : decide (x11_1 < (l0.length : Int)) = false := decide_eq_false c4
    clear c4
    obtain rfl := Option.some.inj H
    go_wp2
    go_ret
    exact ⟨by rfl, by repeat (first | exact Drawn0.refl _ | apply Drawn0.step)⟩

/-! ### impl_bench_has: function 47 -/
def impl_bench_has.f (k : Nat) (a0_0 : Int) (a0_1 : Bool) (l1 : List Int) : Option (Bool) := (impl_allWithin.f k l1 0 (wrap64 (a0_0 - 1))).bind fun t309 => (some t309)
theorem impl_bench_has.mono : ∀ a0 a1 a2 k, LeO (impl_bench_has.f k a0 a1 a2) (impl_bench_has.f (k + 1) a0 a1 a2) := by
 intro a0 a1 a2 k
 unfold impl_bench_has.f
 repeat' first
   | (with_reducible exact impl_allWithin.mono _ _ _ _)
   | (with_reducible exact LeO.refl _)
   | (with_reducible exact LeO.none _)
   | (with_reducible refine LeO.ite ?_ ?_)
   | (with_reducible refine LeO.bind ?_ (fun _ => ?_))
   | exact impl_allWithin.mono _ _ _ _
   | exact LeO.none _
   | refine LeO.ite ?_ ?_
   | refine LeO.bind ?_ (fun _ => ?_)
theorem impl_bench_has.calls (k : Nat) (a0_0 : Int) (a0_1 : Bool) (A1 : Option Addr) (c1 : Nat) (l1 : List Int) (r : Bool) (w : World) (hr1 : Kd.C (Kd.int .i64) w A1 l1.length l1) (hc1 : l1.length ≤ c1) (h : impl_bench_has.f k a0_0 a0_1 l1 = some r) :
  Calls Tryd.prog 47 #[.agg #[.int .i64 a0_0, .bool a0_1], .slice A1 l1.length c1] w fun e w' => e = .returned (.bool r) ∧ Below w.heap.size w w' := by
 have hu63 := Tryd.underlying63
 have HR1 := A_.mk hr1
 have HC1 := A_.mk hc1
 clear hr1 hc1
 have HB := A_.mk (Below.refl w.heap.size w)
 have H : ((impl_allWithin.f k l1 0 (wrap64 (a0_0 - 1))).bind fun t309 => (some t309)) = some r := h
 clear h
 replace H := Option.bind_eq_some_iff.mp H
 obtain ⟨t309, A30, H⟩ := H
 replace H : (some t309) = some r := H
 have A3 := A_.mk A30
 clear A30
 obtain rfl := Option.some.inj H
 go_enter Tryd.func47, Tryd.ntmps47
 go_wp2_with (first | ((with_reducible refine gate_dst (N := 2) rfl ?_); refine box_event ?hg (N := 2) ?hd (cs := #[.int .i64 a0_0, .bool a0_1]) (t := 63) ?hr ?_; (case hd => rfl); (case hg => rfl); (case hr => (go_simp; done)); intro gb308 hg w4 hbox hb; replace HB := A_.mk (below_step HB.out hb); have BK308 := A_.mk (hbox); clear hb hbox hg; have hcz5_0 : w4.cell? ⟨gb308, 0, none⟩ = some (.int .i64 a0_0) := (blk_cell BK308.out 0).trans rfl; have hcz5_1 : w4.cell? ⟨gb308, 1, none⟩ = some (.bool a0_1) := (blk_cell BK308.out 1).trans rfl; have hfz5_0 := blk_frozen BK308.out 0; have hfz5_1 := blk_frozen BK308.out 1) | ((with_reducible refine gate_callee (f := 70) rfl ?_); refine goesL_ (some 9) rfl rfl Tryd.func70 (by kernel_rfl) rfl #[.slice A1 l1.length c1, .int .i64 0, .int .i64 (wrap64 (a0_0 - 1))] rfl (by (try simp only [List.map_toArray, List.map_cons, List.map_nil]); (rfl)) ?_; (with_reducible refine (impl_allWithin.calls k _ _ l1 0 (wrap64 (a0_0 - 1)) t309 _ ?side1 ?side2 A3.out).mono ?_); (case side1 => repeat (exact (Kd.C_below HR1.out HB.out))); (case side2 => exact HC1.out); rintro e w' ⟨rfl, ⟨nd, rfl⟩⟩; refine ⟨_, rfl, ?_⟩))
 go_ret
 exact ⟨by rfl, by repeat ((with_reducible first | exact HB.out | apply pw_below_drewN))⟩

/-! ### impl_bench_valid: function 76 -/
def impl_bench_valid.f (a0_0 : Int) (a0_1 : Bool) : Option (Bool) := (impl_within.f a0_0 2 24).bind fun t311 => (if t311 = true then (if a0_1 = true then (some (decide (a0_0 ≥ 3))) else (some true)) else (some false))
theorem impl_bench_valid.calls (a0_0 : Int) (a0_1 : Bool) (r : Bool) (w : World) (h : impl_bench_valid.f a0_0 a0_1 = some r) :
  Calls Tryd.prog 76 #[.agg #[.int .i64 a0_0, .bool a0_1]] w fun e w' => e = .returned (.bool r) ∧ Below w.heap.size w w' := by
 have hu63 := Tryd.underlying63
 have HB := A_.mk (Below.refl w.heap.size w)
 have H : ((impl_within.f a0_0 2 24).bind fun t311 => (if t311 = true then (if a0_1 = true then (some (decide (a0_0 ≥ 3))) else (some true)) else (some false))) = some r := h
 clear h
 replace H := Option.bind_eq_some_iff.mp H
 obtain ⟨t311, A20, H⟩ := H
 replace H : (if t311 = true then (if a0_1 = true then (some (decide (a0_0 ≥ 3))) else (some true)) else (some false)) = some r := H
 have A2 := A_.mk A20
 clear A20
 by_cases c3 : t311 = true
 ·subst c3
  have H1 : (if a0_1 = true then (some (decide (a0_0 ≥ 3))) else (some true)) = some r := by rw [if_pos rfl] at H; exact H
  clear H
  have H := H1
  clear H1
  by_cases c4 : a0_1 = true
  ·subst c4
   have H1 : (some (decide (a0_0 ≥ 3))) = some r := by rw [if_pos rfl] at H; exact H
   clear H
   have H := H1
   clear H1
   obtain rfl := Option.some.inj H
   go_enter Tryd.func76, Tryd.ntmps76
   go_wp2_with (first | ((with_reducible refine gate_dst (N := 1) rfl ?_); refine box_event ?hg (N := 1) ?hd (cs := #[.int .i64 a0_0, .bool true]) (t := 63) ?hr ?_; (case hd => rfl); (case hg => rfl); (case hr => (go_simp; done)); intro gb310 hg w5 hbox hb; have BK310 := A_.mk (hbox); have GW310 := A_.mk ((by rw [hg]; exact (below_size HB.out) : w.heap.size ≤ gb310)); have GE310 := A_.mk ((by rw [hg]; exact (below_size HB.out) : w.heap.size ≤ gb310)); replace HB := A_.mk (below_step HB.out hb); clear hb hbox hg; have hcz6_0 : w5.cell? ⟨gb310, 0, none⟩ = some (.int .i64 a0_0) := (blk_cell BK310.out 0).trans rfl; have hcz6_1 : w5.cell? ⟨gb310, 1, none⟩ = some (.bool true) := (blk_cell BK310.out 1).trans rfl; have hfz6_0 := blk_frozen BK310.out 0; have hfz6_1 := blk_frozen BK310.out 1) | ((with_reducible refine gate_callee (f := 90) rfl ?_); refine goesL_ (some 5) rfl rfl Tryd.func90 (by kernel_rfl) rfl #[.int .i64 a0_0, .int .i64 2, .int .i64 24] rfl (by (try simp only [List.map_toArray, List.map_cons, List.map_nil]); (rfl)) ?_; (with_reducible refine (impl_within.calls a0_0 2 24 true _ A2.out).mono ?_); rintro e w' ⟨rfl, ⟨nd, rfl⟩⟩; refine ⟨_, rfl, ?_⟩))
   go_ret
   exact ⟨by rfl, by repeat ((with_reducible first | exact HB.out | apply pw_below_drewN))⟩
  ·replace c4 := Bool.eq_false_iff.mpr c4
   subst c4
   have H1 : (some true) = some r := by rw [if_neg (show ¬ (false = true) by decide)] at H; exact H
   clear H
   have H := H1
   clear H1
   obtain rfl := Option.some.inj H
   go_enter Tryd.func76, Tryd.ntmps76
   go_wp2_with (first | ((with_reducible refine gate_dst (N := 1) rfl ?_); refine box_event ?hg (N := 1) ?hd (cs := #[.int .i64 a0_0, .bool false]) (t := 63) ?hr ?_; (case hd => rfl); (case hg => rfl); (case hr => (go_simp; done)); intro gb310 hg w7 hbox hb; have BK310 := A_.mk (hbox); have GW310 := A_.mk ((by rw [hg]; exact (below_size HB.out) : w.heap.size ≤ gb310)); have GE310 := A_.mk ((by rw [hg]; exact (below_size HB.out) : w.heap.size ≤ gb310)); replace HB := A_.mk (below_step HB.out hb); clear hb hbox hg; have hcz8_0 : w7.cell? ⟨gb310, 0, none⟩ = some (.int .i64 a0_0) := (blk_cell BK310.out 0).trans rfl; have hcz8_1 : w7.cell? ⟨gb310, 1, none⟩ = some (.bool false) := (blk_cell BK310.out 1).trans rfl; have hfz8_0 := blk_frozen BK310.out 0; have hfz8_1 := blk_frozen BK310.out 1) | ((with_reducible refine gate_callee (f := 90) rfl ?_); refine goesL_ (some 5) rfl rfl Tryd.func90 (by kernel_rfl) rfl #[.int .i64 a0_0, .int .i64 2, .int .i64 24] rfl (by (try simp only [List.map_toArray, List.map_cons, List.map_nil]); (rfl)) ?_; (with_reducible refine (impl_within.calls a0_0 2 24 true _ A2.out).mono ?_); rintro e w' ⟨rfl, ⟨nd, rfl⟩⟩; refine ⟨_, rfl, ?_⟩))
   go_ret
   exact ⟨by rfl, by repeat ((with_reducible first | exact HB.out | apply pw_below_drewN))⟩
 ·replace c3 := Bool.eq_false_iff.mpr c3
  subst c3
  have H1 : (some false) = some r := by rw [if_neg (show ¬ (false = true) by decide)] at H; exact H
  clear H
  have H := H1
  clear H1
  obtain rfl := Option.some.inj H
  go_enter Tryd.func76, Tryd.ntmps76
  go_wp2_with (first | ((with_reducible refine gate_dst (N := 1) rfl ?_); refine box_event ?hg (N := 1) ?hd (cs := #[.int .i64 a0_0, .bool a0_1]) (t := 63) ?hr ?_; (case hd => rfl); (case hg => rfl); (case hr => (go_simp; done)); intro gb310 hg w9 hbox hb; have BK310 := A_.mk (hbox); have GW310 := A_.mk ((by rw [hg]; exact (below_size HB.out) : w.heap.size ≤ gb310)); have GE310 := A_.mk ((by rw [hg]; exact (below_size HB.out) : w.heap.size ≤ gb310)); replace HB := A_.mk (below_step HB.out hb); clear hb hbox hg; have hcz10_0 : w9.cell? ⟨gb310, 0, none⟩ = some (.int .i64 a0_0) := (blk_cell BK310.out 0).trans rfl; have hcz10_1 : w9.cell? ⟨gb310, 1, none⟩ = some (.bool a0_1) := (blk_cell BK310.out 1).trans rfl; have hfz10_0 := blk_frozen BK310.out 0; have hfz10_1 := blk_frozen BK310.out 1) | ((with_reducible refine gate_callee (f := 90) rfl ?_); refine goesL_ (some 5) rfl rfl Tryd.func90 (by kernel_rfl) rfl #[.int .i64 a0_0, .int .i64 2, .int .i64 24] rfl (by (try simp only [List.map_toArray, List.map_cons, List.map_nil]); (rfl)) ?_; (with_reducible refine (impl_within.calls a0_0 2 24 false _ A2.out).mono ?_); rintro e w' ⟨rfl, ⟨nd, rfl⟩⟩; refine ⟨_, rfl, ?_⟩))
  go_ret
  exact ⟨by rfl, by repeat ((with_reducible first | exact HB.out | apply pw_below_drewN))⟩

end Go.Proofs.YtihifglmnjocfaaDoor.PFnExactSeatChance
