/- Given functions as plain Lean functions, and that their calls answer these. -/
import Derived.Test.YtihifglmnjocfaaDoorPFnExactFinalRowsx0
import Derived.Test.YtihifglmnjocfaaDoorPFnExactFinalRowsx1
namespace Go.Proofs.YtihifglmnjocfaaDoor.PFnExactFinalRows
open Go.RowKit Go.Proofs.YtihifglmnjocfaaDoorW.PrintWords Go.Proofs.YtihifglmnjocfaaDoorW.PrintLast Go.Proofs.YtihifglmnjocfaaDoorW.PrintMore
attribute [local go_sem] max2_int min2_int max_two min_two max_three min_three max_four min_four
set_option maxHeartbeats 8000000
set_option maxRecDepth 100000
set_option linter.unusedVariables false
set_option linter.unusedSimpArgs false

/-! ### spec_l2Runs: function 72 -/
mutual
def spec_l2Runs.j0 : Nat → List (S26) → Bool → Int → Bool → List Int → Option ((List (S26)))
 | 0, _, _, _, _, _ => none
 | k + 1, x3, x15, x155000, x155001, x155002 => if x15 = true then (some (([(⟨0, x155000⟩ : S26)] : List (S26)))) else (spec_l2Runs.l0 k x3 0 x155000 x155001 x155002)
def spec_l2Runs.l0 : Nat → List (S26) → Int → Int → Bool → List Int → Option ((List (S26)))
 | 0, _, _, _, _, _ => none
 | k + 1, x3, x4, x155000, x155001, x155002 => if x4 < x155000 then (if x155000 = 0 then (none) else ((spec_l2Is.f k x155000 x155001 x155002 x4).bind fun t161 => (if t161 = true then (spec_l2Runs.j2 k x3 x4 true x155000 x155001 x155002) else ((spec_l2Is.f k x155000 x155001 x155002 (Int.tmod (wrap64 ((wrap64 (x4 - 1)) + x155000)) x155000)).bind fun t162 => (if t162 = true then (spec_l2Runs.j2 k x3 x4 false x155000 x155001 x155002) else (if x155001 = true then (spec_l2Runs.j2 k x3 x4 true x155000 x155001 x155002) else (spec_l2Runs.j2 k x3 x4 (decide (x4 > 0)) x155000 x155001 x155002))))))) else (some x3)
def spec_l2Runs.j2 : Nat → List (S26) → Int → Bool → Int → Bool → List Int → Option ((List (S26)))
 | 0, _, _, _, _, _, _ => none
 | k + 1, x3, x4, x50, x155000, x155001, x155002 => if x50 = true then (spec_l2Runs.l0 k x3 (wrap64 (x4 + 1)) x155000 x155001 x155002) else (spec_l2Runs.l1 k x3 x4 0 x155000 x155001 x155002)
def spec_l2Runs.l1 : Nat → List (S26) → Int → Int → Int → Bool → List Int → Option ((List (S26)))
 | 0, _, _, _, _, _, _ => none
 | k + 1, x3, x4, x6, x155000, x155001, x155002 => if x155000 = 0 then (none) else ((spec_l2Is.f k x155000 x155001 x155002 (Int.tmod (wrap64 (x4 + x6)) x155000)).bind fun t163 => (if t163 = true then (if x3.length < 8796093022208 then (spec_l2Runs.l0 k (x3 ++ [(⟨x4, x6⟩ : S26)]) (wrap64 (x4 + 1)) x155000 x155001 x155002) else (none)) else (if x155001 = true then (spec_l2Runs.l1 k x3 x4 (wrap64 (x6 + 1)) x155000 x155001 x155002) else (if (wrap64 (x4 + x6)) < x155000 then (spec_l2Runs.l1 k x3 x4 (wrap64 (x6 + 1)) x155000 x155001 x155002) else (if x3.length < 8796093022208 then (spec_l2Runs.l0 k (x3 ++ [(⟨x4, x6⟩ : S26)]) (wrap64 (x4 + 1)) x155000 x155001 x155002) else (none))))))
end
def spec_l2Runs.f (k : Nat) (a0_0 : Int) (a0_1 : Bool) (l0_2 : List Int) : Option ((List (S26))) := (some (([] : List (S26)) : List (S26))).bind fun y155 => (if a0_1 = true then (spec_l2Runs.j0 k y155 ((l0_2.length : Int) == 0) a0_0 a0_1 l0_2) else (spec_l2Runs.j0 k y155 false a0_0 a0_1 l0_2))
theorem spec_l2Runs.mono_l : ∀ k, (∀ y0 y1 y2 y3 y4, LeO (spec_l2Runs.j0 k y0 y1 y2 y3 y4) (spec_l2Runs.j0 (k + 1) y0 y1 y2 y3 y4)) ∧ (∀ y0 y1 y2 y3 y4, LeO (spec_l2Runs.l0 k y0 y1 y2 y3 y4) (spec_l2Runs.l0 (k + 1) y0 y1 y2 y3 y4)) ∧ (∀ y0 y1 y2 y3 y4 y5, LeO (spec_l2Runs.j2 k y0 y1 y2 y3 y4 y5) (spec_l2Runs.j2 (k + 1) y0 y1 y2 y3 y4 y5)) ∧ (∀ y0 y1 y2 y3 y4 y5, LeO (spec_l2Runs.l1 k y0 y1 y2 y3 y4 y5) (spec_l2Runs.l1 (k + 1) y0 y1 y2 y3 y4 y5))
 | 0 => ⟨fun _ _ _ _ _ r h => by simp [spec_l2Runs.j0] at h, fun _ _ _ _ _ r h => by simp [spec_l2Runs.l0] at h, fun _ _ _ _ _ _ r h => by simp [spec_l2Runs.j2] at h, fun _ _ _ _ _ _ r h => by simp [spec_l2Runs.l1] at h⟩
 | k + 1 => by
  obtain ⟨ih0, ih1, ih2, ih3⟩ := spec_l2Runs.mono_l k
  refine ⟨?_, ?_, ?_, ?_⟩
  ·intro y0 y1 y2 y3 y4
   unfold spec_l2Runs.j0
   repeat' first
   | (with_reducible exact ih0 _ _ _ _ _)
   | (with_reducible exact ih1 _ _ _ _ _)
   | (with_reducible exact ih2 _ _ _ _ _ _)
   | (with_reducible exact ih3 _ _ _ _ _ _)
   | (with_reducible exact spec_l2Is.mono _ _ _ _ _)
   | (with_reducible exact LeO.refl _)
   | (with_reducible exact LeO.none _)
   | (with_reducible refine LeO.ite ?_ ?_)
   | (with_reducible refine LeO.bind ?_ (fun _ => ?_))
   | exact ih0 _ _ _ _ _
   | exact ih1 _ _ _ _ _
   | exact ih2 _ _ _ _ _ _
   | exact ih3 _ _ _ _ _ _
   | exact spec_l2Is.mono _ _ _ _ _
   | exact LeO.none _
   | refine LeO.ite ?_ ?_
   | refine LeO.bind ?_ (fun _ => ?_)
  ·intro y0 y1 y2 y3 y4
   unfold spec_l2Runs.l0
   repeat' first
   | (with_reducible exact ih0 _ _ _ _ _)
   | (with_reducible exact ih1 _ _ _ _ _)
   | (with_reducible exact ih2 _ _ _ _ _ _)
   | (with_reducible exact ih3 _ _ _ _ _ _)
   | (with_reducible exact spec_l2Is.mono _ _ _ _ _)
   | (with_reducible exact LeO.refl _)
   | (with_reducible exact LeO.none _)
   | (with_reducible refine LeO.ite ?_ ?_)
   | (with_reducible refine LeO.bind ?_ (fun _ => ?_))
   | exact ih0 _ _ _ _ _
   | exact ih1 _ _ _ _ _
   | exact ih2 _ _ _ _ _ _
   | exact ih3 _ _ _ _ _ _
   | exact spec_l2Is.mono _ _ _ _ _
   | exact LeO.none _
   | refine LeO.ite ?_ ?_
   | refine LeO.bind ?_ (fun _ => ?_)
  ·intro y0 y1 y2 y3 y4 y5
   unfold spec_l2Runs.j2
   repeat' first
   | (with_reducible exact ih0 _ _ _ _ _)
   | (with_reducible exact ih1 _ _ _ _ _)
   | (with_reducible exact ih2 _ _ _ _ _ _)
   | (with_reducible exact ih3 _ _ _ _ _ _)
   | (with_reducible exact spec_l2Is.mono _ _ _ _ _)
   | (with_reducible exact LeO.refl _)
   | (with_reducible exact LeO.none _)
   | (with_reducible refine LeO.ite ?_ ?_)
   | (with_reducible refine LeO.bind ?_ (fun _ => ?_))
   | exact ih0 _ _ _ _ _
   | exact ih1 _ _ _ _ _
   | exact ih2 _ _ _ _ _ _
   | exact ih3 _ _ _ _ _ _
   | exact spec_l2Is.mono _ _ _ _ _
   | exact LeO.none _
   | refine LeO.ite ?_ ?_
   | refine LeO.bind ?_ (fun _ => ?_)
  ·intro y0 y1 y2 y3 y4 y5
   unfold spec_l2Runs.l1
   repeat' first
   | (with_reducible exact ih0 _ _ _ _ _)
   | (with_reducible exact ih1 _ _ _ _ _)
   | (with_reducible exact ih2 _ _ _ _ _ _)
   | (with_reducible exact ih3 _ _ _ _ _ _)
   | (with_reducible exact spec_l2Is.mono _ _ _ _ _)
   | (with_reducible exact LeO.refl _)
   | (with_reducible exact LeO.none _)
   | (with_reducible refine LeO.ite ?_ ?_)
   | (with_reducible refine LeO.bind ?_ (fun _ => ?_))
   | exact ih0 _ _ _ _ _
   | exact ih1 _ _ _ _ _
   | exact ih2 _ _ _ _ _ _
   | exact ih3 _ _ _ _ _ _
   | exact spec_l2Is.mono _ _ _ _ _
   | exact LeO.none _
   | refine LeO.ite ?_ ?_
   | refine LeO.bind ?_ (fun _ => ?_)
theorem spec_l2Runs.mono : ∀ a0 a1 a2 k, LeO (spec_l2Runs.f k a0 a1 a2) (spec_l2Runs.f (k + 1) a0 a1 a2) := by
 intro a0 a1 a2 k
 obtain ⟨ih0, ih1, ih2, ih3⟩ := spec_l2Runs.mono_l k
 unfold spec_l2Runs.f
 repeat' first
   | (with_reducible exact ih0 _ _ _ _ _)
   | (with_reducible exact ih1 _ _ _ _ _)
   | (with_reducible exact ih2 _ _ _ _ _ _)
   | (with_reducible exact ih3 _ _ _ _ _ _)
   | (with_reducible exact spec_l2Is.mono _ _ _ _ _)
   | (with_reducible exact LeO.refl _)
   | (with_reducible exact LeO.none _)
   | (with_reducible refine LeO.ite ?_ ?_)
   | (with_reducible refine LeO.bind ?_ (fun _ => ?_))
   | exact ih0 _ _ _ _ _
   | exact ih1 _ _ _ _ _
   | exact ih2 _ _ _ _ _ _
   | exact ih3 _ _ _ _ _ _
   | exact spec_l2Is.mono _ _ _ _ _
   | exact LeO.none _
   | refine LeO.ite ?_ ?_
   | refine LeO.bind ?_ (fun _ => ?_)
def spec_l2Runs.T10 : Bool × List (List Nat × List Nat) := (true, [([], []), ([], []), ([], []), ([1, 2], [1, 2]), ([], []), ([4], [4]), ([3, 5], [3, 5]), ([0, 6], [0, 6]), ([7], [7]), ([8, 7], [8]), ([9], [9]), ([10, 9], [9, 10]), ([11, 9, 9], [9, 11]), ([12], [12]), ([12], [12]), ([13, 14, 12], [12, 13, 14]), ([12], [12]), ([16, 12], [12, 16]), ([15, 17, 12], [12, 15, 17]), ([12, 18, 9], [9, 12, 18]), ([9, 19], [9, 19])])
def spec_l2Runs.B10 : List Nat := [0, 0, 0, 6, 0, 16, 62, 127, 255, 511, 1023, 2047, 4095, 8191, 8191, 32767, 8191, 73727, 262143, 524287, 1048575]
theorem spec_l2Runs.tab10 : rtab .any (opsOf Tryd.f72 10) = spec_l2Runs.T10 := by kernel_rfl
theorem spec_l2Runs.bits10 : waitsOk spec_l2Runs.T10.2 spec_l2Runs.B10 = true := by kernel_rfl
theorem spec_l2Runs.calls (k : Nat) (a0_0 : Int) (a0_1 : Bool) (A0_2 : Option Addr) (c0_2 : Nat) (l0_2 : List Int) (r : List (S26)) (w : World) (hr0_2 : Kd.C (Kd.int .i64) w A0_2 l0_2.length l0_2) (hc0_2 : l0_2.length ≤ c0_2) (h : spec_l2Runs.f k a0_0 a0_1 l0_2 = some r) :
  Calls Tryd.prog 72 #[.agg #[.int .i64 a0_0, .bool a0_1, .slice A0_2 l0_2.length c0_2]] w fun e w' => ∃ v0_ : Value, e = .returned (v0_) ∧ Kd.R k26 26 w' w.heap.size (fun _ => True) v0_ r ∧ Below w.heap.size w w' := by
 have hu29 := Tryd.underlying29
 have hu26 := Tryd.underlying26
 have HR0_2 := A_.mk hr0_2
 have HC0_2 := A_.mk hc0_2
 clear hr0_2 hc0_2
 have HB := A_.mk (Below.refl w.heap.size w)
 have H : ((some (([] : List (S26)) : List (S26))).bind fun y155 => (if a0_1 = true then (spec_l2Runs.j0 k y155 ((l0_2.length : Int) == 0) a0_0 a0_1 l0_2) else (spec_l2Runs.j0 k y155 false a0_0 a0_1 l0_2))) = some r := h
 clear h
 obtain ⟨y155, hy155⟩ : ∃ y_ : List (S26), y_ = (([] : List (S26))) := ⟨_, rfl⟩
 replace H : (if a0_1 = true then (spec_l2Runs.j0 k y155 ((l0_2.length : Int) == 0) a0_0 a0_1 l0_2) else (spec_l2Runs.j0 k y155 false a0_0 a0_1 l0_2)) = some r := by (have H2_ := (Option.bind_some _ _).symm.trans H; rw [hy155]; with_reducible exact H2_)
 have Ny155 := A_.mk hy155
 clear hy155
 have HC2 := A_.mk H
 clear H
 go_enter Tryd.func72, Tryd.ntmps72
 go_upto_region 2 with (first | ((with_reducible refine gate_dst (N := 1) rfl ?_); (try (refine gate_guard (by rfl) ?_; dsimp only)); refine box_event ?hg (N := 1) ?hd (cs := #[.int .i64 a0_0, .bool a0_1, .slice A0_2 l0_2.length c0_2]) (t := 29) ?hr ?_; (case hd => rfl); (case hg => rfl); (case hr => (go_simp; done)); intro gb154 hg w3 hbox hb; replace HB := A_.mk (below_step HB.out hb); have BK154 := A_.mk (hbox); clear hb hbox hg) | ((with_reducible refine gate_dst (N := 7) rfl ?_); (try (refine gate_guard (by rfl) ?_; dsimp only)); refine Kd.R_lit k26 _ 26 ?hg (N := 7) ?hd (xs := ([] : List (S26))) (inner := []) (ok := fun _ => True) (okp := fun _ => True) ?hr ?hp (fun _ hk => hk) trivial (Below.refl _ _) (Nat.le_refl _) (by simp) ?_; (case hd => rfl); (case hg => rfl); (case hr => (go_simp; done)); (case hp => exact (Reps.none _ _)); intro v156 w4 ho5 hb hg_ hnew_; clear hg_ hnew_; (rw [← Ny155.out] at ho5); have HO157 := A_.mk (Kd.R_lower ho5 (below_size HB.out)); replace BK154 := A_.mk (blk_below BK154.out hb); replace HB := A_.mk (below_step HB.out hb); clear hb ho5))
 skip
 go_cut [15] (fun v15 wc => ∃ (kq : Nat) (x15_1 : Bool), v15 = .bool x15_1 ∧ A_ (spec_l2Runs.j0 kq y155 x15_1 a0_0 a0_1 l0_2 = some r) ∧ A_ (kq ≤ k) ∧ A_ (Kd.R k26 26 wc w.heap.size (fun _ => True) v156 y155) ∧ A_ (wc.heap[gb154]? = some (.cells #[.int .i64 a0_0, .bool a0_1, (.slice A0_2 l0_2.length c0_2)] 29 (0, 0))) ∧ A_ (Below w.heap.size w wc))
 case first =>
  have H := HC2.out
  clear HC2
  by_cases c6 : a0_1 = true
  ·subst c6
   have H1 : (spec_l2Runs.j0 k y155 ((l0_2.length : Int) == 0) a0_0 true l0_2) = some r := by rw [if_pos rfl] at H; exact H
   clear H
   have H := H1
   clear H1
   have H' := A_.mk H
   clear H
   have hcz7_0 : w4.cell? ⟨gb154, 0, none⟩ = some (.int .i64 a0_0) := (blk_cell BK154.out 0).trans rfl
   have hcz7_1 : w4.cell? ⟨gb154, 1, none⟩ = some (.bool true) := (blk_cell BK154.out 1).trans rfl
   have hcz7_2 : w4.cell? ⟨gb154, 2, none⟩ = some (.slice A0_2 l0_2.length c0_2) := (blk_cell BK154.out 2).trans rfl
   have hfz7_0 := blk_frozen BK154.out 0
   have hfz7_1 := blk_frozen BK154.out 1
   have hfz7_2 := blk_frozen BK154.out 2
   go_wp2
   go_meet
   case rel => exact ⟨_, (((l0_2.length : Int) == 0)), (by rfl), H', ⟨by omega⟩, ⟨by (with_reducible repeat (apply Kd.R_alloc)); exact HO157.out⟩, ⟨by (with_reducible repeat (refine blk_drewN ?_ _)); exact BK154.out⟩, ⟨by repeat ((with_reducible (exact HB.out)))⟩⟩
  ·replace c6 := Bool.eq_false_iff.mpr c6
   subst c6
   have H1 : (spec_l2Runs.j0 k y155 false a0_0 false l0_2) = some r := by rw [if_neg (show ¬ (false = true) by decide)] at H; exact H
   clear H
   have H := H1
   clear H1
   have H' := A_.mk H
   clear H
   have hcz8_0 : w4.cell? ⟨gb154, 0, none⟩ = some (.int .i64 a0_0) := (blk_cell BK154.out 0).trans rfl
   have hcz8_1 : w4.cell? ⟨gb154, 1, none⟩ = some (.bool false) := (blk_cell BK154.out 1).trans rfl
   have hcz8_2 : w4.cell? ⟨gb154, 2, none⟩ = some (.slice A0_2 l0_2.length c0_2) := (blk_cell BK154.out 2).trans rfl
   have hfz8_0 := blk_frozen BK154.out 0
   have hfz8_1 := blk_frozen BK154.out 1
   have hfz8_2 := blk_frozen BK154.out 2
   go_wp2
   go_meet
   case rel => exact ⟨_, (false), (by rfl), H', ⟨by omega⟩, ⟨by (with_reducible repeat (apply Kd.R_alloc)); exact HO157.out⟩, ⟨by (with_reducible repeat (refine blk_drewN ?_ _)); exact BK154.out⟩, ⟨by repeat ((with_reducible (exact HB.out)))⟩⟩
 case rest =>
  clear HC2
  try clear p2
  try clear c6
  try clear p6
  try clear c7
  try clear hcz7_0
  try clear hcz7_1
  try clear hcz7_2
  try clear hcz8_0
  try clear hcz8_1
  try clear hcz8_2
  try clear hfz7_0
  try clear hfz7_1
  try clear hfz7_2
  try clear hfz8_0
  try clear hfz8_1
  try clear hfz8_2
  obtain ⟨kq, x15_1, rfl, HA, HJ1, HO_3, BK154, HB⟩ := hcut
  cases kq with
  | zero => exact absurd HA.out (by simp [spec_l2Runs.j0])
  | succ kj1 =>
   have H := HA.out
   clear HA
   simp only [spec_l2Runs.j0] at H
   by_cases c9 : x15_1 = true
   ·subst c9
    have H1 : (some (([(⟨0, a0_0⟩ : S26)] : List (S26)))) = some r := by rw [if_pos rfl] at H; exact H
    clear H
    have H := H1
    clear H1
    obtain ⟨y158, hy158⟩ : ∃ y_ : List (S26), y_ = (([(⟨0, a0_0⟩ : S26)] : List (S26))) := ⟨_, rfl⟩
    replace H : (some y158) = some r := by (rw [hy158]; with_reducible exact H)
    have Ny158 := A_.mk hy158
    clear hy158
    obtain rfl := Option.some.inj H
    have hcz10_0 : wc.cell? ⟨gb154, 0, none⟩ = some (.int .i64 a0_0) := (blk_cell BK154.out 0).trans rfl
    have hcz10_1 : wc.cell? ⟨gb154, 1, none⟩ = some (.bool a0_1) := (blk_cell BK154.out 1).trans rfl
    have hcz10_2 : wc.cell? ⟨gb154, 2, none⟩ = some (.slice A0_2 l0_2.length c0_2) := (blk_cell BK154.out 2).trans rfl
    have hfz10_0 := blk_frozen BK154.out 0
    have hfz10_1 := blk_frozen BK154.out 1
    have hfz10_2 := blk_frozen BK154.out 2
    go_wp2_with ((with_reducible refine gate_dst (N := 19) rfl ?_); (try (refine gate_guard (by rfl) ?_; dsimp only)); refine Kd.R_lit k26 _ 26 ?hg (N := 19) ?hd (xs := ([(⟨0, a0_0⟩ : S26)] : List (S26))) (inner := [.int .i64 0, .int .i64 a0_0]) (ok := fun _ => True) (okp := fun _ => True) ?hr ?hp (fun _ hk => hk) trivial (Below.refl _ _) (Nat.le_refl _) (by simp) ?_; (case hd => rfl); (case hg => rfl); (case hr => (go_simp; done)); (case hp => exact (Reps.c2 (show Kd.M k26 _ _ _ (⟨0, a0_0⟩ : S26) [.int .i64 0, .int .i64 a0_0] from (k26_mkM _ _ _ (⟨0, a0_0⟩ : S26) )) (Reps.none _ _))); intro v159 w11 ho12 hb hg_ hnew_; clear hg_ hnew_; (rw [← Ny158.out] at ho12); have HO160 := A_.mk (Kd.R_lower (Kd.R_new' ho12 (Kd.R_lt HO_3.out)) (below_size HB.out)); replace HO_3 := A_.mk (Kd.R_elder' HO_3.out (Kd.R_base ho12) hb); replace BK154 := A_.mk (blk_below BK154.out hb); replace HB := A_.mk (below_step HB.out hb); clear hb ho12)
    go_ret
    exact ⟨_, by rfl, by (with_reducible repeat (apply Kd.R_alloc)); exact Kd.R_mono HO160.out (fun _ hk => trivial), by repeat ((with_reducible (exact HB.out)))⟩
   ·replace c9 := Bool.eq_false_iff.mpr c9
    subst c9
    have H1 : (spec_l2Runs.l0 kj1 y155 0 a0_0 a0_1 l0_2) = some r := by rw [if_neg (show ¬ (false = true) by decide)] at H; exact H
    clear H
    have H := H1
    clear H1
    have H' := A_.mk H
    clear H
    go_wp2
    go_loopg [3, 4] kj1 (fun kq v3 v4 w' => ∃ (x3_2 : List (S26)) (x4_2 : Int), v4 = .int .i64 x4_2 ∧ A_ (spec_l2Runs.l0 kq x3_2 x4_2 a0_0 a0_1 l0_2 = some r) ∧ A_ (kq ≤ kj1) ∧ A_ (Kd.R k26 26 w' w.heap.size (fun _ => True) v3 x3_2) ∧ A_ (w'.heap[gb154]? = some (.cells #[.int .i64 a0_0, .bool a0_1, (.slice A0_2 l0_2.length c0_2)] 29 (0, 0))) ∧ A_ (Below w.heap.size w w'))
    case atStart => exact ⟨(y155), (0), (by rfl), H', ⟨Nat.le_refl _⟩, ⟨by (with_reducible repeat (apply Kd.R_alloc)); exact HO_3.out⟩, ⟨by (with_reducible repeat (refine blk_drewN ?_ _)); exact BK154.out⟩, ⟨by repeat ((with_reducible (exact HB.out)))⟩⟩
    case round =>
     clear H'
     try clear c2
     try clear p2
     try clear c6
     try clear p6
     try clear c7
     try clear c9
     try clear hcz10_0
     try clear hcz10_1
     try clear hcz10_2
     try clear hcz7_0
     try clear hcz7_1
     try clear hcz7_2
     try clear hcz8_0
     try clear hcz8_1
     try clear hcz8_2
     try clear hfz10_0
     try clear hfz10_1
     try clear hfz10_2
     try clear hfz7_0
     try clear hfz7_1
     try clear hfz7_2
     try clear hfz8_0
     try clear hfz8_1
     try clear hfz8_2
     try clear p2
     try clear p6
     obtain ⟨x3_2, x4_2, rfl, HA, HK2, HO_3, BK154, HB⟩ := hrel
     cases gk with
     | zero => exact absurd HA.out (by simp [spec_l2Runs.l0])
     | succ k2 =>
      have H := HA.out
      clear HA
      simp only [spec_l2Runs.l0] at H
      by_cases c13 : x4_2 < a0_0
      ·rw [if_pos c13] at H
       have c13b0 : decide (x4_2 < a0_0) = true := decide_eq_true c13
       clear c13
       by_cases c14 : a0_0 = 0
       ·rw [if_pos c14] at H
        exact absurd H (by simp)
       ·rw [if_neg c14] at H
        have c14b0 : (a0_0 == 0) = false := beq_eq_false_iff_ne.mpr c14
        have c14b1 : (a0_0 != 0) = true := bne_iff_ne.mpr c14
        have HC15 := A_.mk H
        clear H
        have hcz16_0 : wr.cell? ⟨gb154, 0, none⟩ = some (.int .i64 a0_0) := (blk_cell BK154.out 0).trans rfl
        have hcz16_1 : wr.cell? ⟨gb154, 1, none⟩ = some (.bool a0_1) := (blk_cell BK154.out 1).trans rfl
        have hcz16_2 : wr.cell? ⟨gb154, 2, none⟩ = some (.slice A0_2 l0_2.length c0_2) := (blk_cell BK154.out 2).trans rfl
        have hfz16_0 := blk_frozen BK154.out 0
        have hfz16_1 := blk_frozen BK154.out 1
        have hfz16_2 := blk_frozen BK154.out 2
        go_upto_region 8 with (fail)
        go_cut [50] (fun v50 wc => ∃ (kq : Nat) (x50_14 : Bool), v50 = .bool x50_14 ∧ A_ (spec_l2Runs.j2 kq x3_2 x4_2 x50_14 a0_0 a0_1 l0_2 = some r) ∧ A_ (kq ≤ k2) ∧ A_ (Kd.R k26 26 wc w.heap.size (fun _ => True) u3 x3_2) ∧ A_ (wc.heap[gb154]? = some (.cells #[.int .i64 a0_0, .bool a0_1, (.slice A0_2 l0_2.length c0_2)] 29 (0, 0))) ∧ A_ (Below w.heap.size w wc))
        case first =>
         have H := HC15.out
         clear HC15
         replace H := Option.bind_eq_some_iff.mp H
         obtain ⟨t161, A170, H⟩ := H
         replace H : (if t161 = true then (spec_l2Runs.j2 k2 x3_2 x4_2 true a0_0 a0_1 l0_2) else ((spec_l2Is.f k2 a0_0 a0_1 l0_2 (Int.tmod (wrap64 ((wrap64 (x4_2 - 1)) + a0_0)) a0_0)).bind fun t162 => (if t162 = true then (spec_l2Runs.j2 k2 x3_2 x4_2 false a0_0 a0_1 l0_2) else (if a0_1 = true then (spec_l2Runs.j2 k2 x3_2 x4_2 true a0_0 a0_1 l0_2) else (spec_l2Runs.j2 k2 x3_2 x4_2 (decide (x4_2 > 0)) a0_0 a0_1 l0_2))))) = some r := H
         have A17 := A_.mk A170
         clear A170
         by_cases c18 : t161 = true
         ·subst c18
          have H1 : (spec_l2Runs.j2 k2 x3_2 x4_2 true a0_0 a0_1 l0_2) = some r := by rw [if_pos rfl] at H; exact H
          clear H
          have H := H1
          clear H1
          have H' := A_.mk H
          clear H
          have hcz19_0 : wr.cell? ⟨gb154, 0, none⟩ = some (.int .i64 a0_0) := (blk_cell BK154.out 0).trans rfl
          have hcz19_1 : wr.cell? ⟨gb154, 1, none⟩ = some (.bool a0_1) := (blk_cell BK154.out 1).trans rfl
          have hcz19_2 : wr.cell? ⟨gb154, 2, none⟩ = some (.slice A0_2 l0_2.length c0_2) := (blk_cell BK154.out 2).trans rfl
          have hfz19_0 := blk_frozen BK154.out 0
          have hfz19_1 := blk_frozen BK154.out 1
          have hfz19_2 := blk_frozen BK154.out 2
          go_wp2_with ((with_reducible refine gate_callee (f := 93) rfl ?_); refine goesL_ (some 36) rfl rfl Tryd.func93 (by kernel_rfl) rfl #[.agg #[.int .i64 a0_0, .bool a0_1, .slice A0_2 l0_2.length c0_2], .int .i64 x4_2] rfl (by (try simp only [List.map_toArray, List.map_cons, List.map_nil]); (rfl)) ?_; (with_reducible refine (spec_l2Is.calls k2 a0_0 a0_1 _ _ l0_2 x4_2 true _ ?side1 ?side2 A17.out).mono ?_); (case side1 => repeat (exact (Kd.C_below HR0_2.out HB.out))); (case side2 => exact HC0_2.out); rintro e w20 ⟨rfl, hb⟩; refine ⟨_, rfl, ?_⟩; replace HO_3 := A_.mk (Kd.R_below HO_3.out hb); replace BK154 := A_.mk (blk_below BK154.out hb); replace HB := A_.mk (below_step HB.out hb); (try clear hb))
          go_meet
          case rel => exact ⟨_, (true), (by rfl), H', ⟨by have := HJ1.out; have := HK2.out; (omega)⟩, ⟨by (with_reducible repeat (apply Kd.R_alloc)); exact HO_3.out⟩, ⟨by (with_reducible repeat (refine blk_drewN ?_ _)); exact BK154.out⟩, ⟨by repeat ((with_reducible (exact HB.out)))⟩⟩
         ·replace c18 := Bool.eq_false_iff.mpr c18
          subst c18
          have H1 : ((spec_l2Is.f k2 a0_0 a0_1 l0_2 (Int.tmod (wrap64 ((wrap64 (x4_2 - 1)) + a0_0)) a0_0)).bind fun t162 => (if t162 = true then (spec_l2Runs.j2 k2 x3_2 x4_2 false a0_0 a0_1 l0_2) else (if a0_1 = true then (spec_l2Runs.j2 k2 x3_2 x4_2 true a0_0 a0_1 l0_2) else (spec_l2Runs.j2 k2 x3_2 x4_2 (decide (x4_2 > 0)) a0_0 a0_1 l0_2)))) = some r := by rw [if_neg (show ¬ (false = true) by decide)] at H; exact H
          clear H
          have H := H1
          clear H1
          replace H := Option.bind_eq_some_iff.mp H
          obtain ⟨t162, A210, H⟩ := H
          replace H : (if t162 = true then (spec_l2Runs.j2 k2 x3_2 x4_2 false a0_0 a0_1 l0_2) else (if a0_1 = true then (spec_l2Runs.j2 k2 x3_2 x4_2 true a0_0 a0_1 l0_2) else (spec_l2Runs.j2 k2 x3_2 x4_2 (decide (x4_2 > 0)) a0_0 a0_1 l0_2))) = some r := H
          have A21 := A_.mk A210
          clear A210
          by_cases c22 : t162 = true
          ·subst c22
           have H1 : (spec_l2Runs.j2 k2 x3_2 x4_2 false a0_0 a0_1 l0_2) = some r := by rw [if_pos rfl] at H; exact H
           clear H
           have H := H1
           clear H1
           have H' := A_.mk H
           clear H
           have hcz23_0 : wr.cell? ⟨gb154, 0, none⟩ = some (.int .i64 a0_0) := (blk_cell BK154.out 0).trans rfl
           have hcz23_1 : wr.cell? ⟨gb154, 1, none⟩ = some (.bool a0_1) := (blk_cell BK154.out 1).trans rfl
           have hcz23_2 : wr.cell? ⟨gb154, 2, none⟩ = some (.slice A0_2 l0_2.length c0_2) := (blk_cell BK154.out 2).trans rfl
           have hfz23_0 := blk_frozen BK154.out 0
           have hfz23_1 := blk_frozen BK154.out 1
           have hfz23_2 := blk_frozen BK154.out 2
           go_wp2_with (first | ((with_reducible refine gate_callee (f := 93) rfl ?_); refine goesL_ (some 36) rfl rfl Tryd.func93 (by kernel_rfl) rfl #[.agg #[.int .i64 a0_0, .bool a0_1, .slice A0_2 l0_2.length c0_2], .int .i64 x4_2] rfl (by (try simp only [List.map_toArray, List.map_cons, List.map_nil]); (rfl)) ?_; (with_reducible refine (spec_l2Is.calls k2 a0_0 a0_1 _ _ l0_2 x4_2 false _ ?side1 ?side2 A17.out).mono ?_); (case side1 => repeat (exact (Kd.C_below HR0_2.out HB.out))); (case side2 => exact HC0_2.out); rintro e w24 ⟨rfl, hb⟩; refine ⟨_, rfl, ?_⟩; replace HO_3 := A_.mk (Kd.R_below HO_3.out hb); replace BK154 := A_.mk (blk_below BK154.out hb); replace HB := A_.mk (below_step HB.out hb); (try clear hb); have hcz25_0 : w24.cell? ⟨gb154, 0, none⟩ = some (.int .i64 a0_0) := (blk_cell BK154.out 0).trans rfl; have hcz25_1 : w24.cell? ⟨gb154, 1, none⟩ = some (.bool a0_1) := (blk_cell BK154.out 1).trans rfl; have hcz25_2 : w24.cell? ⟨gb154, 2, none⟩ = some (.slice A0_2 l0_2.length c0_2) := (blk_cell BK154.out 2).trans rfl; have hfz25_0 := blk_frozen BK154.out 0; have hfz25_1 := blk_frozen BK154.out 1; have hfz25_2 := blk_frozen BK154.out 2) | (go_at_call 93; (with_reducible refine (spec_l2Is.calls k2 a0_0 a0_1 _ _ l0_2 (Int.tmod (wrap64 ((wrap64 (x4_2 - 1)) + a0_0)) a0_0) true _ ?side1 ?side2 A21.out).mono ?_); (case side1 => repeat (exact (Kd.C_below HR0_2.out HB.out))); (case side2 => exact HC0_2.out); rintro e w26 ⟨rfl, hb⟩; replace HO_3 := A_.mk (Kd.R_below HO_3.out hb); replace BK154 := A_.mk (blk_below BK154.out hb); replace HB := A_.mk (below_step HB.out hb); (try clear hb)))
           go_meet
           case rel => exact ⟨_, (false), (by rfl), H', ⟨by have := HJ1.out; have := HK2.out; (omega)⟩, ⟨by (with_reducible repeat (apply Kd.R_alloc)); exact HO_3.out⟩, ⟨by (with_reducible repeat (refine blk_drewN ?_ _)); exact BK154.out⟩, ⟨by repeat ((with_reducible (exact HB.out)))⟩⟩
          ·replace c22 := Bool.eq_false_iff.mpr c22
           subst c22
           have H1 : (if a0_1 = true then (spec_l2Runs.j2 k2 x3_2 x4_2 true a0_0 a0_1 l0_2) else (spec_l2Runs.j2 k2 x3_2 x4_2 (decide (x4_2 > 0)) a0_0 a0_1 l0_2)) = some r := by rw [if_neg (show ¬ (false = true) by decide)] at H; exact H
           clear H
           have H := H1
           clear H1
           by_cases c27 : a0_1 = true
           ·subst c27
            have H1 : (spec_l2Runs.j2 k2 x3_2 x4_2 true a0_0 true l0_2) = some r := by rw [if_pos rfl] at H; exact H
            clear H
            have H := H1
            clear H1
            have H' := A_.mk H
            clear H
            have hcz28_0 : wr.cell? ⟨gb154, 0, none⟩ = some (.int .i64 a0_0) := (blk_cell BK154.out 0).trans rfl
            have hcz28_1 : wr.cell? ⟨gb154, 1, none⟩ = some (.bool true) := (blk_cell BK154.out 1).trans rfl
            have hcz28_2 : wr.cell? ⟨gb154, 2, none⟩ = some (.slice A0_2 l0_2.length c0_2) := (blk_cell BK154.out 2).trans rfl
            have hfz28_0 := blk_frozen BK154.out 0
            have hfz28_1 := blk_frozen BK154.out 1
            have hfz28_2 := blk_frozen BK154.out 2
            go_wp2_with (first | ((with_reducible refine gate_callee (f := 93) rfl ?_); refine goesL_ (some 36) rfl rfl Tryd.func93 (by kernel_rfl) rfl #[.agg #[.int .i64 a0_0, .bool true, .slice A0_2 l0_2.length c0_2], .int .i64 x4_2] rfl (by (try simp only [List.map_toArray, List.map_cons, List.map_nil]); (rfl)) ?_; (with_reducible refine (spec_l2Is.calls k2 a0_0 true _ _ l0_2 x4_2 false _ ?side1 ?side2 A17.out).mono ?_); (case side1 => repeat (exact (Kd.C_below HR0_2.out HB.out))); (case side2 => exact HC0_2.out); rintro e w29 ⟨rfl, hb⟩; refine ⟨_, rfl, ?_⟩; replace HO_3 := A_.mk (Kd.R_below HO_3.out hb); replace BK154 := A_.mk (blk_below BK154.out hb); replace HB := A_.mk (below_step HB.out hb); (try clear hb); have hcz30_0 : w29.cell? ⟨gb154, 0, none⟩ = some (.int .i64 a0_0) := (blk_cell BK154.out 0).trans rfl; have hcz30_1 : w29.cell? ⟨gb154, 1, none⟩ = some (.bool true) := (blk_cell BK154.out 1).trans rfl; have hcz30_2 : w29.cell? ⟨gb154, 2, none⟩ = some (.slice A0_2 l0_2.length c0_2) := (blk_cell BK154.out 2).trans rfl; have hfz30_0 := blk_frozen BK154.out 0; have hfz30_1 := blk_frozen BK154.out 1; have hfz30_2 := blk_frozen BK154.out 2) | (go_at_call 93; (with_reducible refine (spec_l2Is.calls k2 a0_0 true _ _ l0_2 (Int.tmod (wrap64 ((wrap64 (x4_2 - 1)) + a0_0)) a0_0) false _ ?side1 ?side2 A21.out).mono ?_); (case side1 => repeat (exact (Kd.C_below HR0_2.out HB.out))); (case side2 => exact HC0_2.out); rintro e w31 ⟨rfl, hb⟩; replace HO_3 := A_.mk (Kd.R_below HO_3.out hb); replace BK154 := A_.mk (blk_below BK154.out hb); replace HB := A_.mk (below_step HB.out hb); (try clear hb); have hcz32_0 : w31.cell? ⟨gb154, 0, none⟩ = some (.int .i64 a0_0) := (blk_cell BK154.out 0).trans rfl; have hcz32_1 : w31.cell? ⟨gb154, 1, none⟩ = some (.bool true) := (blk_cell BK154.out 1).trans rfl; have hcz32_2 : w31.cell? ⟨gb154, 2, none⟩ = some (.slice A0_2 l0_2.length c0_2) := (blk_cell BK154.out 2).trans rfl; have hfz32_0 := blk_frozen BK154.out 0; have hfz32_1 := blk_frozen BK154.out 1; have hfz32_2 := blk_frozen BK154.out 2))
            go_meet
            case rel => exact ⟨_, (true), (by rfl), H', ⟨by have := HJ1.out; have := HK2.out; (omega)⟩, ⟨by (with_reducible repeat (apply Kd.R_alloc)); exact HO_3.out⟩, ⟨by (with_reducible repeat (refine blk_drewN ?_ _)); exact BK154.out⟩, ⟨by repeat ((with_reducible (exact HB.out)))⟩⟩
           ·replace c27 := Bool.eq_false_iff.mpr c27
            subst c27
            have H1 : (spec_l2Runs.j2 k2 x3_2 x4_2 (decide (x4_2 > 0)) a0_0 false l0_2) = some r := by rw [if_neg (show ¬ (false = true) by decide)] at H; exact H
            clear H
            have H := H1
            clear H1
            have H' := A_.mk H
            clear H
            have hcz33_0 : wr.cell? ⟨gb154, 0, none⟩ = some (.int .i64 a0_0) := (blk_cell BK154.out 0).trans rfl
            have hcz33_1 : wr.cell? ⟨gb154, 1, none⟩ = some (.bool false) := (blk_cell BK154.out 1).trans rfl
            have hcz33_2 : wr.cell? ⟨gb154, 2, none⟩ = some (.slice A0_2 l0_2.length c0_2) := (blk_cell BK154.out 2).trans rfl
            have hfz33_0 := blk_frozen BK154.out 0
            have hfz33_1 := blk_frozen BK154.out 1
            have hfz33_2 := blk_frozen BK154.out 2
            go_wp2_with (first | ((with_reducible refine gate_callee (f := 93) rfl ?_); refine goesL_ (some 36) rfl rfl Tryd.func93 (by kernel_rfl) rfl #[.agg #[.int .i64 a0_0, .bool false, .slice A0_2 l0_2.length c0_2], .int .i64 x4_2] rfl (by (try simp only [List.map_toArray, List.map_cons, List.map_nil]); (rfl)) ?_; (with_reducible refine (spec_l2Is.calls k2 a0_0 false _ _ l0_2 x4_2 false _ ?side1 ?side2 A17.out).mono ?_); (case side1 => repeat (exact (Kd.C_below HR0_2.out HB.out))); (case side2 => exact HC0_2.out); rintro e w34 ⟨rfl, hb⟩; refine ⟨_, rfl, ?_⟩; replace HO_3 := A_.mk (Kd.R_below HO_3.out hb); replace BK154 := A_.mk (blk_below BK154.out hb); replace HB := A_.mk (below_step HB.out hb); (try clear hb); have hcz35_0 : w34.cell? ⟨gb154, 0, none⟩ = some (.int .i64 a0_0) := (blk_cell BK154.out 0).trans rfl; have hcz35_1 : w34.cell? ⟨gb154, 1, none⟩ = some (.bool false) := (blk_cell BK154.out 1).trans rfl; have hcz35_2 : w34.cell? ⟨gb154, 2, none⟩ = some (.slice A0_2 l0_2.length c0_2) := (blk_cell BK154.out 2).trans rfl; have hfz35_0 := blk_frozen BK154.out 0; have hfz35_1 := blk_frozen BK154.out 1; have hfz35_2 := blk_frozen BK154.out 2) | (go_at_call 93; (with_reducible refine (spec_l2Is.calls k2 a0_0 false _ _ l0_2 (Int.tmod (wrap64 ((wrap64 (x4_2 - 1)) + a0_0)) a0_0) false _ ?side1 ?side2 A21.out).mono ?_); (case side1 => repeat (exact (Kd.C_below HR0_2.out HB.out))); (case side2 => exact HC0_2.out); rintro e w36 ⟨rfl, hb⟩; replace HO_3 := A_.mk (Kd.R_below HO_3.out hb); replace BK154 := A_.mk (blk_below BK154.out hb); replace HB := A_.mk (below_step HB.out hb); (try clear hb); have hcz37_0 : w36.cell? ⟨gb154, 0, none⟩ = some (.int .i64 a0_0) := (blk_cell BK154.out 0).trans rfl; have hcz37_1 : w36.cell? ⟨gb154, 1, none⟩ = some (.bool false) := (blk_cell BK154.out 1).trans rfl; have hcz37_2 : w36.cell? ⟨gb154, 2, none⟩ = some (.slice A0_2 l0_2.length c0_2) := (blk_cell BK154.out 2).trans rfl; have hfz37_0 := blk_frozen BK154.out 0; have hfz37_1 := blk_frozen BK154.out 1; have hfz37_2 := blk_frozen BK154.out 2))
            go_meet
            case rel => exact ⟨_, (decide (x4_2 > 0)), (by rfl), H', ⟨by have := HJ1.out; have := HK2.out; (omega)⟩, ⟨by (with_reducible repeat (apply Kd.R_alloc)); exact HO_3.out⟩, ⟨by (with_reducible repeat (refine blk_drewN ?_ _)); exact BK154.out⟩, ⟨by repeat ((with_reducible (exact HB.out)))⟩⟩
        case rest =>
         clear HC15
         try clear c1
         try clear c2
         try clear p2
         try clear c6
         try clear p6
         try clear c7
         try clear c9
         try clear c13
         try clear c13b0
         try clear c14
         try clear c14b0
         try clear c14b1
         try clear c18
         try clear c22
         try clear c27
         try clear hcz10_0
         try clear hcz10_1
         try clear hcz10_2
         try clear hcz16_0
         try clear hcz16_1
         try clear hcz16_2
         try clear hcz19_0
         try clear hcz19_1
         try clear hcz19_2
         try clear hcz23_0
         try clear hcz23_1
         try clear hcz23_2
         try clear hcz25_0
         try clear hcz25_1
         try clear hcz25_2
         try clear hcz28_0
         try clear hcz28_1
         try clear hcz28_2
         try clear hcz30_0
         try clear hcz30_1
         try clear hcz30_2
         try clear hcz32_0
         try clear hcz32_1
         try clear hcz32_2
         try clear hcz33_0
         try clear hcz33_1
         try clear hcz33_2
         try clear hcz35_0
         try clear hcz35_1
         try clear hcz35_2
         try clear hcz37_0
         try clear hcz37_1
         try clear hcz37_2
         try clear hcz7_0
         try clear hcz7_1
         try clear hcz7_2
         try clear hcz8_0
         try clear hcz8_1
         try clear hcz8_2
         try clear hfz10_0
         try clear hfz10_1
         try clear hfz10_2
         try clear hfz16_0
         try clear hfz16_1
         try clear hfz16_2
         try clear hfz19_0
         try clear hfz19_1
         try clear hfz19_2
         try clear hfz23_0
         try clear hfz23_1
         try clear hfz23_2
         try clear hfz25_0
         try clear hfz25_1
         try clear hfz25_2
         try clear hfz28_0
         try clear hfz28_1
         try clear hfz28_2
         try clear hfz30_0
         try clear hfz30_1
         try clear hfz30_2
         try clear hfz32_0
         try clear hfz32_1
         try clear hfz32_2
         try clear hfz33_0
         try clear hfz33_1
         try clear hfz33_2
         try clear hfz35_0
         try clear hfz35_1
         try clear hfz35_2
         try clear hfz37_0
         try clear hfz37_1
         try clear hfz37_2
         try clear hfz7_0
         try clear hfz7_1
         try clear hfz7_2
         try clear hfz8_0
         try clear hfz8_1
         try clear hfz8_2
         try clear p2
         try clear p6
         obtain ⟨kq, x50_14, rfl, HA, HJ14, HO_3, BK154, HB⟩ := hcut
         cases kq with
         | zero => exact absurd HA.out (by simp [spec_l2Runs.j2])
         | succ kj14 =>
          have H := HA.out
          clear HA
          simp only [spec_l2Runs.j2] at H
          by_cases c38 : x50_14 = true
          ·subst c38
           have H1 : (spec_l2Runs.l0 kj14 x3_2 (wrap64 (x4_2 + 1)) a0_0 a0_1 l0_2) = some r := by rw [if_pos rfl] at H; exact H
           clear H
           have H := H1
           clear H1
           have H' := A_.mk H
           clear H
           go_wp2
           go_roundg kj14
           case measure => have := HJ1.out; have := HK2.out; have := HJ14.out; omega
           case rel => exact ⟨(x3_2), (wrap64 (x4_2 + 1)), (by rfl), H', ⟨by have := HJ1.out; have := HK2.out; have := HJ14.out; omega⟩, ⟨by (with_reducible repeat (apply Kd.R_alloc)); exact HO_3.out⟩, ⟨by (with_reducible repeat (refine blk_drewN ?_ _)); exact BK154.out⟩, ⟨by repeat ((with_reducible (exact HB.out)))⟩⟩
          ·replace c38 := Bool.eq_false_iff.mpr c38
           subst c38
           have H1 : (spec_l2Runs.l1 kj14 x3_2 x4_2 0 a0_0 a0_1 l0_2) = some r := by rw [if_neg (show ¬ (false = true) by decide)] at H; exact H
           clear H
           have H := H1
           clear H1
           have H' := A_.mk H
           clear H
           go_wp2
           go_loopg [6] kj14 (fun kq v6 w' => ∃ (x6_4 : Int), v6 = .int .i64 x6_4 ∧ A_ (spec_l2Runs.l1 kq x3_2 x4_2 x6_4 a0_0 a0_1 l0_2 = some r) ∧ A_ (kq ≤ kj14) ∧ A_ (Kd.R k26 26 w' w.heap.size (fun _ => True) u3 x3_2) ∧ A_ (w'.heap[gb154]? = some (.cells #[.int .i64 a0_0, .bool a0_1, (.slice A0_2 l0_2.length c0_2)] 29 (0, 0))) ∧ A_ (Below w.heap.size w w'))
           case atStart => exact ⟨(0), (by rfl), H', ⟨Nat.le_refl _⟩, ⟨by (with_reducible repeat (apply Kd.R_alloc)); exact HO_3.out⟩, ⟨by (with_reducible repeat (refine blk_drewN ?_ _)); exact BK154.out⟩, ⟨by repeat ((with_reducible (exact HB.out)))⟩⟩
           case round =>
            clear H'
            try clear c1
            try clear c2
            try clear p2
            try clear c3
            try clear c6
            try clear p6
            try clear c7
            try clear c9
            try clear c13
            try clear c13b0
            try clear c14
            try clear c14b0
            try clear c14b1
            try clear c18
            try clear c22
            try clear c27
            try clear c38
            try clear hcz10_0
            try clear hcz10_1
            try clear hcz10_2
            try clear hcz16_0
            try clear hcz16_1
            try clear hcz16_2
            try clear hcz19_0
            try clear hcz19_1
            try clear hcz19_2
            try clear hcz23_0
            try clear hcz23_1
            try clear hcz23_2
            try clear hcz25_0
            try clear hcz25_1
            try clear hcz25_2
            try clear hcz28_0
            try clear hcz28_1
            try clear hcz28_2
            try clear hcz30_0
            try clear hcz30_1
            try clear hcz30_2
            try clear hcz32_0
            try clear hcz32_1
            try clear hcz32_2
            try clear hcz33_0
            try clear hcz33_1
            try clear hcz33_2
            try clear hcz35_0
            try clear hcz35_1
            try clear hcz35_2
            try clear hcz37_0
            try clear hcz37_1
            try clear hcz37_2
            try clear hcz7_0
            try clear hcz7_1
            try clear hcz7_2
            try clear hcz8_0
            try clear hcz8_1
            try clear hcz8_2
            try clear hfz10_0
            try clear hfz10_1
            try clear hfz10_2
            try clear hfz16_0
            try clear hfz16_1
            try clear hfz16_2
            try clear hfz19_0
            try clear hfz19_1
            try clear hfz19_2
            try clear hfz23_0
            try clear hfz23_1
            try clear hfz23_2
            try clear hfz25_0
            try clear hfz25_1
            try clear hfz25_2
            try clear hfz28_0
            try clear hfz28_1
            try clear hfz28_2
            try clear hfz30_0
            try clear hfz30_1
            try clear hfz30_2
            try clear hfz32_0
            try clear hfz32_1
            try clear hfz32_2
            try clear hfz33_0
            try clear hfz33_1
            try clear hfz33_2
            try clear hfz35_0
            try clear hfz35_1
            try clear hfz35_2
            try clear hfz37_0
            try clear hfz37_1
            try clear hfz37_2
            try clear hfz7_0
            try clear hfz7_1
            try clear hfz7_2
            try clear hfz8_0
            try clear hfz8_1
            try clear hfz8_2
            try clear p2
            try clear p6
            obtain ⟨x6_4, rfl, HA, HK4, HO_3, BK154, HB⟩ := hrel
            cases gk with
            | zero => exact absurd HA.out (by simp [spec_l2Runs.l1])
            | succ k4 =>
             have H := HA.out
             clear HA
             simp only [spec_l2Runs.l1] at H
             by_cases c39 : a0_0 = 0
             ·rw [if_pos c39] at H
              exact absurd H (by simp)
             ·rw [if_neg c39] at H
              have c39b0 : (a0_0 == 0) = false := beq_eq_false_iff_ne.mpr c39
              have c39b1 : (a0_0 != 0) = true := bne_iff_ne.mpr c39
              replace H := Option.bind_eq_some_iff.mp H
              obtain ⟨t163, A400, H⟩ := H
              replace H : (if t163 = true then (if x3_2.length < 8796093022208 then (spec_l2Runs.l0 k4 (x3_2 ++ [(⟨x4_2, x6_4⟩ : S26)]) (wrap64 (x4_2 + 1)) a0_0 a0_1 l0_2) else (none)) else (if a0_1 = true then (spec_l2Runs.l1 k4 x3_2 x4_2 (wrap64 (x6_4 + 1)) a0_0 a0_1 l0_2) else (if (wrap64 (x4_2 + x6_4)) < a0_0 then (spec_l2Runs.l1 k4 x3_2 x4_2 (wrap64 (x6_4 + 1)) a0_0 a0_1 l0_2) else (if x3_2.length < 8796093022208 then (spec_l2Runs.l0 k4 (x3_2 ++ [(⟨x4_2, x6_4⟩ : S26)]) (wrap64 (x4_2 + 1)) a0_0 a0_1 l0_2) else (none))))) = some r := H
              have A40 := A_.mk A400
              clear A400
              by_cases c41 : t163 = true
              ·subst c41
               have H1 : (if x3_2.length < 8796093022208 then (spec_l2Runs.l0 k4 (x3_2 ++ [(⟨x4_2, x6_4⟩ : S26)]) (wrap64 (x4_2 + 1)) a0_0 a0_1 l0_2) else (none)) = some r := by rw [if_pos rfl] at H; exact H
               clear H
               have H := H1
               clear H1
               by_cases c42 : x3_2.length < 8796093022208
               ·rw [if_pos c42] at H
                have LMc42 := A_.mk c42
                clear c42
                obtain ⟨y164, hy164⟩ : ∃ y_ : List (S26), y_ = (x3_2 ++ [(⟨x4_2, x6_4⟩ : S26)]) := ⟨_, rfl⟩
                replace H : (spec_l2Runs.l0 k4 y164 (wrap64 (x4_2 + 1)) a0_0 a0_1 l0_2) = some r := by (rw [hy164]; with_reducible exact H)
                have Ny164 := A_.mk hy164
                clear hy164
                have H' := A_.mk H
                clear H
                try go_wp2
                replace HO_3 := A_.mk (Kd.R_drew HO_3.out)
                replace BK154 := A_.mk (blk_drew BK154.out)
                replace HB := A_.mk (below_drew1 HB.out)
                refine start_ (n := 21) (S := fun w' => w'.cell? ⟨gb154, 0, none⟩ = some (.int .i64 a0_0) ∧ w'.cell? ⟨gb154, 1, none⟩ = some (.bool a0_1) ∧ w'.cell? ⟨gb154, 2, none⟩ = some (.slice A0_2 l0_2.length c0_2)) (ds := []) (m_ 21 0) (by kernel_rfl) rfl rfl ⟨(blk_cell BK154.out 0).trans rfl, (blk_cell BK154.out 1).trans rfl, (blk_cell BK154.out 2).trans rfl⟩ (fun hHeld => ?_); refine with_tabW spec_l2Runs.tab10 spec_l2Runs.bits10 (fun HT_ HW_ => ?_)
                generalize wr.drew = w43 at HO_3 BK154 HB hHeld ⊢
                refine pure_ (i := 1) (N := some 52) (v := ?_) (a' := ?_) (m_ 21 2) rfl rfl (any_of HT_.out (by kernel_rfl)) (fun _ _ _ h => h) (Or.inl ⟨by rfl, ?_⟩) ?_ ?_
                rotate_left
                ·intro w'
                 go_simp
                 with_reducible rfl
                rotate_left
                ·simp only [Act.put, sI_, s0_, s1_, i64_w, i32_w]
                 rfl
                refine pure_ (i := 2) (N := some 53) (v := ?_) (a' := ?_) (m_ 21 6) rfl rfl (any_of HT_.out (by kernel_rfl)) (fun _ _ _ h => h) (Or.inl ⟨by rfl, ?_⟩) ?_ ?_
                rotate_left
                ·intro w'
                 go_simp
                 with_reducible rfl
                rotate_left
                ·simp only [Act.put, sI_, s0_, s1_, i64_w, i32_w]
                 rfl
                refine pure_ (i := 3) (N := some 54) (v := ?_) (a' := ?_) (m_ 21 14) rfl rfl (any_of HT_.out (by kernel_rfl)) (fun _ _ _ h => h) (Or.inl ⟨by rfl, ?_⟩) ?_ ?_
                rotate_left
                ·intro w'
                 go_simp
                 with_reducible rfl
                rotate_left
                ·simp only [Act.put, sI_, s0_, s1_, i64_w, i32_w]
                 rfl
                refine pure_ (i := 4) (N := some 55) (v := ?_) (a' := ?_) (m_ 21 30) rfl rfl (any_of HT_.out (by kernel_rfl)) (fun _ _ _ h => h) (Or.inl ⟨by rfl, ?_⟩) ?_ ?_
                rotate_left
                ·intro w'
                 go_simp
                 with_reducible rfl
                rotate_left
                ·simp only [Act.put, sI_, s0_, s1_, i64_w, i32_w]
                 rfl
                refine take_ (i := 0) (N := some 51) (v := ?_) (a' := ?_) (m_ 21 31) rfl rfl (take_ofW HT_.out HW_.out (by kernel_rfl)) (fun _ _ _ h => h) (Or.inl ⟨by rfl, ?_⟩) hHeld ?_ ?_
                rotate_left
                ·rintro w' ⟨s0, s1, s2⟩
                 go_simp
                 with_reducible rfl
                rotate_left
                ·simp only [Act.put, sI_, s0_, s1_, i64_w, i32_w]
                 rfl
                refine take_ (i := 5) (N := some 56) (v := ?_) (a' := ?_) (m_ 21 63) rfl rfl (take_ofW HT_.out HW_.out (by kernel_rfl)) (fun _ _ _ h => h) (Or.inl ⟨by rfl, ?_⟩) hHeld ?_ ?_
                rotate_left
                ·rintro w' ⟨s0, s1, s2⟩
                 go_simp
                 with_reducible rfl
                rotate_left
                ·simp only [Act.put, sI_, s0_, s1_, i64_w, i32_w]
                 rfl
                refine pure_ (i := 6) (N := some 57) (v := ?_) (a' := ?_) (m_ 21 127) rfl rfl (any_of HT_.out (by kernel_rfl)) (fun _ _ _ h => h) (Or.inl ⟨by rfl, ?_⟩) ?_ ?_
                rotate_left
                ·intro w'
                 go_simp
                 with_reducible rfl
                rotate_left
                ·simp only [Act.put, sI_, s0_, s1_, i64_w, i32_w]
                 rfl
                refine one_ (i := 7) (N := some 58) (m_ 21 255) rfl rfl (one_of HT_.out (by kernel_rfl)) (by decide) (fun K hK => ?_)
                refine goes_ Tryd.func93 (by kernel_rfl) rfl #[.agg #[.int .i64 a0_0, .bool a0_1, .slice A0_2 l0_2.length c0_2], .int .i64 (Int.tmod (wrap64 (x4_2 + x6_4)) a0_0)] (by rfl) rfl rfl (by (try simp only [List.map_toArray, List.map_cons, List.map_nil]); (rfl)) ?_
                with_reducible refine (spec_l2Is.calls k4 a0_0 a0_1 _ _ l0_2 (Int.tmod (wrap64 (x4_2 + x6_4)) a0_0) true _ ?side1 ?side2 A40.out).mono ?_
                (case side1 => repeat (exact (Kd.C_below HR0_2.out HB.out)))
                (case side2 => exact HC0_2.out)
                rintro e w44 ⟨rfl, hb⟩
                refine ⟨_, rfl, ?_⟩
                replace HO_3 := A_.mk (Kd.R_below HO_3.out hb)
                replace BK154 := A_.mk (blk_below BK154.out hb)
                replace HB := A_.mk (below_step HB.out hb)
                (try clear hb)
                skip
                skip
                skip
                refine hK.out _ _ ⟨(blk_cell BK154.out 0).trans rfl, (blk_cell BK154.out 1).trans rfl, (blk_cell BK154.out 2).trans rfl⟩ (fun hHeld => ?_)
                clear hK K
                refine norm_ (a' := ?_) ?_ ?_
                rotate_left
                ·show Act.put _ (some 58) _ = _
                 simp only [Act.put, sI_, s0_, s1_, i64_w, i32_w]
                 rfl
                refine pure_ (i := 8) (N := some 59) (v := ?_) (a' := ?_) (m_ 21 511) rfl rfl (any_of HT_.out (by kernel_rfl)) (fun _ _ _ h => h) (Or.inl ⟨by rfl, ?_⟩) ?_ ?_
                rotate_left
                ·intro w'
                 go_simp
                 with_reducible rfl
                rotate_left
                ·simp only [Act.put, sI_, s0_, s1_, i64_w, i32_w]
                 rfl
                refine pure_ (i := 9) (N := some 60) (v := ?_) (a' := ?_) (m_ 21 1023) rfl rfl (any_of HT_.out (by kernel_rfl)) (fun _ _ _ h => h) (Or.inl ⟨by rfl, ?_⟩) ?_ ?_
                rotate_left
                ·intro w'
                 go_simp
                 with_reducible rfl
                rotate_left
                ·simp only [Act.put, sI_, s0_, s1_, i64_w, i32_w]
                 rfl
                refine pure_ (i := 10) (N := some 61) (v := undef) (a' := ?_) (m_ 21 2047) rfl rfl (any_of HT_.out (by kernel_rfl)) (fun _ _ _ h => h) (Or.inr ⟨by rfl, rfl⟩) ?_ ?_
                rotate_left
                ·simp only [Act.put, sI_, s0_, s1_, i64_w, i32_w]
                 rfl
                refine pure_ (i := 11) (N := some 62) (v := undef) (a' := ?_) (m_ 21 4095) rfl rfl (any_of HT_.out (by kernel_rfl)) (fun _ _ _ h => h) (Or.inr ⟨by rfl, rfl⟩) ?_ ?_
                rotate_left
                ·simp only [Act.put, sI_, s0_, s1_, i64_w, i32_w]
                 rfl
                refine pure_ (i := 12) (N := some 63) (v := undef) (a' := ?_) (m_ 21 8191) rfl rfl (any_of HT_.out (by kernel_rfl)) (fun _ _ _ h => h) (Or.inr ⟨by rfl, rfl⟩) ?_ ?_
                rotate_left
                ·simp only [Act.put, sI_, s0_, s1_, i64_w, i32_w]
                 rfl
                refine pure_ (i := 13) (N := some 64) (v := undef) (a' := ?_) (m_ 21 16383) rfl rfl (any_of HT_.out (by kernel_rfl)) (fun _ _ _ h => h) (Or.inr ⟨by rfl, rfl⟩) ?_ ?_
                rotate_left
                ·simp only [Act.put, sI_, s0_, s1_, i64_w, i32_w]
                 rfl
                refine pure_ (i := 14) (N := some 65) (v := undef) (a' := ?_) (m_ 21 32767) rfl rfl (any_of HT_.out (by kernel_rfl)) (fun _ _ _ h => h) (Or.inr ⟨by rfl, rfl⟩) ?_ ?_
                rotate_left
                ·simp only [Act.put, sI_, s0_, s1_, i64_w, i32_w]
                 rfl
                refine pure_ (i := 15) (N := some 66) (v := undef) (a' := ?_) (m_ 21 65535) rfl rfl (any_of HT_.out (by kernel_rfl)) (fun _ _ _ h => h) (Or.inr ⟨by rfl, rfl⟩) ?_ ?_
                rotate_left
                ·simp only [Act.put, sI_, s0_, s1_, i64_w, i32_w]
                 rfl
                refine pure_ (i := 16) (N := some 67) (v := undef) (a' := ?_) (m_ 21 131071) rfl rfl (any_of HT_.out (by kernel_rfl)) (fun _ _ _ h => h) (Or.inr ⟨by rfl, rfl⟩) ?_ ?_
                rotate_left
                ·simp only [Act.put, sI_, s0_, s1_, i64_w, i32_w]
                 rfl
                refine pure_ (i := 17) (N := some 68) (v := undef) (a' := ?_) (m_ 21 262143) rfl rfl (any_of HT_.out (by kernel_rfl)) (fun _ _ _ h => h) (Or.inr ⟨by rfl, rfl⟩) ?_ ?_
                rotate_left
                ·simp only [Act.put, sI_, s0_, s1_, i64_w, i32_w]
                 rfl
                refine pure_ (i := 18) (N := some 69) (v := undef) (a' := ?_) (m_ 21 524287) rfl rfl (any_of HT_.out (by kernel_rfl)) (fun _ _ _ h => h) (Or.inr ⟨by rfl, rfl⟩) ?_ ?_
                rotate_left
                ·simp only [Act.put, sI_, s0_, s1_, i64_w, i32_w]
                 rfl
                refine pure_ (i := 19) (N := some 70) (v := undef) (a' := ?_) (m_ 21 1048575) rfl rfl (any_of HT_.out (by kernel_rfl)) (fun _ _ _ h => h) (Or.inr ⟨by rfl, rfl⟩) ?_ ?_
                rotate_left
                ·simp only [Act.put, sI_, s0_, s1_, i64_w, i32_w]
                 rfl
                refine pure_ (i := 20) (N := some 71) (v := ?_) (a' := ?_) (m_ 21 2097151) rfl rfl (any_of HT_.out (by kernel_rfl)) (fun _ _ _ h => h) (Or.inl ⟨by rfl, ?_⟩) ?_ ?_
                rotate_left
                ·intro w'
                 go_simp
                 with_reducible rfl
                rotate_left
                ·simp only [Act.put, sI_, s0_, s1_, i64_w, i32_w]
                 rfl
                refine done_ (done_of HT_.out (by kernel_rfl)) ?_
                try go_wp2_with ((with_reducible refine gate_builtin (b := .append) (xs := #[.tmp 74, .tmp 78]) rfl ?_); (try (refine gate_guard (by rfl) ?_; dsimp only)); at_builtin; refine Kd.R_append k26 (w0 := w) w.heap.size rfl (.tmp 74) (.tmp 78) 47 26 (.agg #[(.int .i64 0), (.int .i64 0)]) 16 rfl Tryd.underlying47 info26 rfl (by decide) (by omega) u3 x3_2 (⟨x4_2, x6_4⟩ : S26) [.int .i64 x4_2, .int .i64 x6_4] (fun _ => True) (fun _ => False) rfl rfl ?aP (fun _ hk => hk.elim) ?aF ?aO ?aB ?aS ?aL ?_; (case aP => exact k26_mkM _ _ _ (⟨x4_2, x6_4⟩ : S26)); (case aB => exact HB.out); (case aF => exact (fun _ _ => trivial)); (case aO => exact HO_3.out); (case aS => exact (below_size HB.out)); (case aL => have := LMc42.out; omega); intro v165 w45 ho hb hg hat; rw [← Ny164.out] at ho; replace BK154 := A_.mk (blk_grown BK154.out hg (Kd.R_ne HO_3.out BK154.out (by decide))); replace HB := A_.mk (hb); have HO166 := A_.mk (ho); clear HO_3; clear ho hb hg hat)
                go_roundg k4
                case measure => have := HJ1.out; have := HK2.out; have := HJ14.out; have := HK4.out; omega
                case rel => exact ⟨(y164), (wrap64 (x4_2 + 1)), (by rfl), H', ⟨by have := HJ1.out; have := HK2.out; have := HJ14.out; have := HK4.out; omega⟩, ⟨by (with_reducible repeat (apply Kd.R_alloc)); exact HO166.out⟩, ⟨by (with_reducible repeat (refine blk_drewN ?_ _)); exact BK154.out⟩, ⟨by repeat ((with_reducible (exact HB.out)))⟩⟩
               ·rw [if_neg c42] at H
                exact absurd H (by simp)
              ·replace c41 := Bool.eq_false_iff.mpr c41
               subst c41
               have H1 : (if a0_1 = true then (spec_l2Runs.l1 k4 x3_2 x4_2 (wrap64 (x6_4 + 1)) a0_0 a0_1 l0_2) else (if (wrap64 (x4_2 + x6_4)) < a0_0 then (spec_l2Runs.l1 k4 x3_2 x4_2 (wrap64 (x6_4 + 1)) a0_0 a0_1 l0_2) else (if x3_2.length < 8796093022208 then (spec_l2Runs.l0 k4 (x3_2 ++ [(⟨x4_2, x6_4⟩ : S26)]) (wrap64 (x4_2 + 1)) a0_0 a0_1 l0_2) else (none)))) = some r := by rw [if_neg (show ¬ (false = true) by decide)] at H; exact H
               clear H
               have H := H1
               clear H1
               by_cases c46 : a0_1 = true
               ·subst c46
                have H1 : (spec_l2Runs.l1 k4 x3_2 x4_2 (wrap64 (x6_4 + 1)) a0_0 true l0_2) = some r := by rw [if_pos rfl] at H; exact H
                clear H
                have H := H1
                clear H1
                have H' := A_.mk H
                clear H
                try go_wp2
                replace HO_3 := A_.mk (Kd.R_drew HO_3.out)
                replace BK154 := A_.mk (blk_drew BK154.out)
                replace HB := A_.mk (below_drew1 HB.out)
                refine start_ (n := 21) (S := fun w' => w'.cell? ⟨gb154, 0, none⟩ = some (.int .i64 a0_0) ∧ w'.cell? ⟨gb154, 1, none⟩ = some (.bool true) ∧ w'.cell? ⟨gb154, 2, none⟩ = some (.slice A0_2 l0_2.length c0_2)) (ds := []) (m_ 21 0) (by kernel_rfl) rfl rfl ⟨(blk_cell BK154.out 0).trans rfl, (blk_cell BK154.out 1).trans rfl, (blk_cell BK154.out 2).trans rfl⟩ (fun hHeld => ?_); refine with_tabW spec_l2Runs.tab10 spec_l2Runs.bits10 (fun HT_ HW_ => ?_)
                generalize wr.drew = w47 at HO_3 BK154 HB hHeld ⊢
                refine pure_ (i := 1) (N := some 52) (v := ?_) (a' := ?_) (m_ 21 2) rfl rfl (any_of HT_.out (by kernel_rfl)) (fun _ _ _ h => h) (Or.inl ⟨by rfl, ?_⟩) ?_ ?_
                rotate_left
                ·intro w'
                 go_simp
                 with_reducible rfl
                rotate_left
                ·simp only [Act.put, sI_, s0_, s1_, i64_w, i32_w]
                 rfl
                refine pure_ (i := 2) (N := some 53) (v := ?_) (a' := ?_) (m_ 21 6) rfl rfl (any_of HT_.out (by kernel_rfl)) (fun _ _ _ h => h) (Or.inl ⟨by rfl, ?_⟩) ?_ ?_
                rotate_left
                ·intro w'
                 go_simp
                 with_reducible rfl
                rotate_left
                ·simp only [Act.put, sI_, s0_, s1_, i64_w, i32_w]
                 rfl
                refine pure_ (i := 3) (N := some 54) (v := ?_) (a' := ?_) (m_ 21 14) rfl rfl (any_of HT_.out (by kernel_rfl)) (fun _ _ _ h => h) (Or.inl ⟨by rfl, ?_⟩) ?_ ?_
                rotate_left
                ·intro w'
                 go_simp
                 with_reducible rfl
                rotate_left
                ·simp only [Act.put, sI_, s0_, s1_, i64_w, i32_w]
                 rfl
                refine pure_ (i := 4) (N := some 55) (v := ?_) (a' := ?_) (m_ 21 30) rfl rfl (any_of HT_.out (by kernel_rfl)) (fun _ _ _ h => h) (Or.inl ⟨by rfl, ?_⟩) ?_ ?_
                rotate_left
                ·intro w'
                 go_simp
                 with_reducible rfl
                rotate_left
                ·simp only [Act.put, sI_, s0_, s1_, i64_w, i32_w]
                 rfl
                refine take_ (i := 0) (N := some 51) (v := ?_) (a' := ?_) (m_ 21 31) rfl rfl (take_ofW HT_.out HW_.out (by kernel_rfl)) (fun _ _ _ h => h) (Or.inl ⟨by rfl, ?_⟩) hHeld ?_ ?_
                rotate_left
                ·rintro w' ⟨s0, s1, s2⟩
                 go_simp
                 with_reducible rfl
                rotate_left
                ·simp only [Act.put, sI_, s0_, s1_, i64_w, i32_w]
                 rfl
                refine take_ (i := 5) (N := some 56) (v := ?_) (a' := ?_) (m_ 21 63) rfl rfl (take_ofW HT_.out HW_.out (by kernel_rfl)) (fun _ _ _ h => h) (Or.inl ⟨by rfl, ?_⟩) hHeld ?_ ?_
                rotate_left
                ·rintro w' ⟨s0, s1, s2⟩
                 go_simp
                 with_reducible rfl
                rotate_left
                ·simp only [Act.put, sI_, s0_, s1_, i64_w, i32_w]
                 rfl
                refine pure_ (i := 6) (N := some 57) (v := ?_) (a' := ?_) (m_ 21 127) rfl rfl (any_of HT_.out (by kernel_rfl)) (fun _ _ _ h => h) (Or.inl ⟨by rfl, ?_⟩) ?_ ?_
                rotate_left
                ·intro w'
                 go_simp
                 with_reducible rfl
                rotate_left
                ·simp only [Act.put, sI_, s0_, s1_, i64_w, i32_w]
                 rfl
                refine one_ (i := 7) (N := some 58) (m_ 21 255) rfl rfl (one_of HT_.out (by kernel_rfl)) (by decide) (fun K hK => ?_)
                refine goes_ Tryd.func93 (by kernel_rfl) rfl #[.agg #[.int .i64 a0_0, .bool true, .slice A0_2 l0_2.length c0_2], .int .i64 (Int.tmod (wrap64 (x4_2 + x6_4)) a0_0)] (by rfl) rfl rfl (by (try simp only [List.map_toArray, List.map_cons, List.map_nil]); (rfl)) ?_
                with_reducible refine (spec_l2Is.calls k4 a0_0 true _ _ l0_2 (Int.tmod (wrap64 (x4_2 + x6_4)) a0_0) false _ ?side1 ?side2 A40.out).mono ?_
                (case side1 => repeat (exact (Kd.C_below HR0_2.out HB.out)))
                (case side2 => exact HC0_2.out)
                rintro e w48 ⟨rfl, hb⟩
                refine ⟨_, rfl, ?_⟩
                replace HO_3 := A_.mk (Kd.R_below HO_3.out hb)
                replace BK154 := A_.mk (blk_below BK154.out hb)
                replace HB := A_.mk (below_step HB.out hb)
                (try clear hb)
                skip
                skip
                skip
                refine hK.out _ _ ⟨(blk_cell BK154.out 0).trans rfl, (blk_cell BK154.out 1).trans rfl, (blk_cell BK154.out 2).trans rfl⟩ (fun hHeld => ?_)
                clear hK K
                refine norm_ (a' := ?_) ?_ ?_
                rotate_left
                ·show Act.put _ (some 58) _ = _
                 simp only [Act.put, sI_, s0_, s1_, i64_w, i32_w]
                 rfl
                refine pure_ (i := 8) (N := some 59) (v := ?_) (a' := ?_) (m_ 21 511) rfl rfl (any_of HT_.out (by kernel_rfl)) (fun _ _ _ h => h) (Or.inl ⟨by rfl, ?_⟩) ?_ ?_
                rotate_left
                ·intro w'
                 go_simp
                 with_reducible rfl
                rotate_left
                ·simp only [Act.put, sI_, s0_, s1_, i64_w, i32_w]
                 rfl
                refine pure_ (i := 9) (N := some 60) (v := ?_) (a' := ?_) (m_ 21 1023) rfl rfl (any_of HT_.out (by kernel_rfl)) (fun _ _ _ h => h) (Or.inl ⟨by rfl, ?_⟩) ?_ ?_
                rotate_left
                ·intro w'
                 go_simp
                 with_reducible rfl
                rotate_left
                ·simp only [Act.put, sI_, s0_, s1_, i64_w, i32_w]
                 rfl
                refine pure_ (i := 10) (N := some 61) (v := ?_) (a' := ?_) (m_ 21 2047) rfl rfl (any_of HT_.out (by kernel_rfl)) (fun _ _ _ h => h) (Or.inl ⟨by rfl, ?_⟩) ?_ ?_
                rotate_left
                ·intro w'
                 go_simp
                 with_reducible rfl
                rotate_left
                ·simp only [Act.put, sI_, s0_, s1_, i64_w, i32_w]
                 rfl
                refine take_ (i := 11) (N := some 62) (v := ?_) (a' := ?_) (m_ 21 4095) rfl rfl (take_ofW HT_.out HW_.out (by kernel_rfl)) (fun _ _ _ h => h) (Or.inl ⟨by rfl, ?_⟩) hHeld ?_ ?_
                rotate_left
                ·rintro w' ⟨s0, s1, s2⟩
                 go_simp
                 with_reducible rfl
                rotate_left
                ·simp only [Act.put, sI_, s0_, s1_, i64_w, i32_w]
                 rfl
                refine pure_ (i := 12) (N := some 63) (v := ?_) (a' := ?_) (m_ 21 8191) rfl rfl (any_of HT_.out (by kernel_rfl)) (fun _ _ _ h => h) (Or.inl ⟨by rfl, ?_⟩) ?_ ?_
                rotate_left
                ·intro w'
                 go_simp
                 with_reducible rfl
                rotate_left
                ·simp only [Act.put, sI_, s0_, s1_, i64_w, i32_w]
                 rfl
                refine pure_ (i := 13) (N := some 64) (v := undef) (a' := ?_) (m_ 21 16383) rfl rfl (any_of HT_.out (by kernel_rfl)) (fun _ _ _ h => h) (Or.inr ⟨by rfl, rfl⟩) ?_ ?_
                rotate_left
                ·simp only [Act.put, sI_, s0_, s1_, i64_w, i32_w]
                 rfl
                refine pure_ (i := 14) (N := some 65) (v := undef) (a' := ?_) (m_ 21 32767) rfl rfl (any_of HT_.out (by kernel_rfl)) (fun _ _ _ h => h) (Or.inr ⟨by rfl, rfl⟩) ?_ ?_
                rotate_left
                ·simp only [Act.put, sI_, s0_, s1_, i64_w, i32_w]
                 rfl
                refine pure_ (i := 15) (N := some 66) (v := undef) (a' := ?_) (m_ 21 65535) rfl rfl (any_of HT_.out (by kernel_rfl)) (fun _ _ _ h => h) (Or.inr ⟨by rfl, rfl⟩) ?_ ?_
                rotate_left
                ·simp only [Act.put, sI_, s0_, s1_, i64_w, i32_w]
                 rfl
                refine pure_ (i := 16) (N := some 67) (v := undef) (a' := ?_) (m_ 21 131071) rfl rfl (any_of HT_.out (by kernel_rfl)) (fun _ _ _ h => h) (Or.inr ⟨by rfl, rfl⟩) ?_ ?_
                rotate_left
                ·simp only [Act.put, sI_, s0_, s1_, i64_w, i32_w]
                 rfl
                refine pure_ (i := 17) (N := some 68) (v := undef) (a' := ?_) (m_ 21 262143) rfl rfl (any_of HT_.out (by kernel_rfl)) (fun _ _ _ h => h) (Or.inr ⟨by rfl, rfl⟩) ?_ ?_
                rotate_left
                ·simp only [Act.put, sI_, s0_, s1_, i64_w, i32_w]
                 rfl
                refine pure_ (i := 18) (N := some 69) (v := undef) (a' := ?_) (m_ 21 524287) rfl rfl (any_of HT_.out (by kernel_rfl)) (fun _ _ _ h => h) (Or.inr ⟨by rfl, rfl⟩) ?_ ?_
                rotate_left
                ·simp only [Act.put, sI_, s0_, s1_, i64_w, i32_w]
                 rfl
                refine pure_ (i := 19) (N := some 70) (v := ?_) (a' := ?_) (m_ 21 1048575) rfl rfl (any_of HT_.out (by kernel_rfl)) (fun _ _ _ h => h) (Or.inl ⟨by rfl, ?_⟩) ?_ ?_
                rotate_left
                ·intro w'
                 go_simp
                 with_reducible rfl
                rotate_left
                ·simp only [Act.put, sI_, s0_, s1_, i64_w, i32_w]
                 rfl
                refine pure_ (i := 20) (N := some 71) (v := ?_) (a' := ?_) (m_ 21 2097151) rfl rfl (any_of HT_.out (by kernel_rfl)) (fun _ _ _ h => h) (Or.inl ⟨by rfl, ?_⟩) ?_ ?_
                rotate_left
                ·intro w'
                 go_simp
                 with_reducible rfl
                rotate_left
                ·simp only [Act.put, sI_, s0_, s1_, i64_w, i32_w]
                 rfl
                refine done_ (done_of HT_.out (by kernel_rfl)) ?_
                try go_wp2
                go_roundg k4
                case measure => have := HJ1.out; have := HK2.out; have := HJ14.out; have := HK4.out; omega
                case rel => exact ⟨(wrap64 (x6_4 + 1)), (by rfl), H', ⟨by have := HJ1.out; have := HK2.out; have := HJ14.out; have := HK4.out; omega⟩, ⟨by (with_reducible repeat (apply Kd.R_alloc)); exact HO_3.out⟩, ⟨by (with_reducible repeat (refine blk_drewN ?_ _)); exact BK154.out⟩, ⟨by repeat ((with_reducible (exact HB.out)))⟩⟩
               ·replace c46 := Bool.eq_false_iff.mpr c46
                subst c46
                have H1 : (if (wrap64 (x4_2 + x6_4)) < a0_0 then (spec_l2Runs.l1 k4 x3_2 x4_2 (wrap64 (x6_4 + 1)) a0_0 false l0_2) else (if x3_2.length < 8796093022208 then (spec_l2Runs.l0 k4 (x3_2 ++ [(⟨x4_2, x6_4⟩ : S26)]) (wrap64 (x4_2 + 1)) a0_0 false l0_2) else (none))) = some r := by rw [if_neg (show ¬ (false = true) by decide)] at H; exact H
                clear H
                have H := H1
                clear H1
                by_cases c49 : (wrap64 (x4_2 + x6_4)) < a0_0
                ·rw [if_pos c49] at H
                 have c49b0 : decide ((wrap64 (x4_2 + x6_4)) < a0_0) = true := decide_eq_true c49
                 clear c49
                 have H' := A_.mk H
                 clear H
                 try go_wp2
                 replace HO_3 := A_.mk (Kd.R_drew HO_3.out)
                 replace BK154 := A_.mk (blk_drew BK154.out)
                 replace HB := A_.mk (below_drew1 HB.out)
                 refine start_ (n := 21) (S := fun w' => w'.cell? ⟨gb154, 0, none⟩ = some (.int .i64 a0_0) ∧ w'.cell? ⟨gb154, 1, none⟩ = some (.bool false) ∧ w'.cell? ⟨gb154, 2, none⟩ = some (.slice A0_2 l0_2.length c0_2)) (ds := []) (m_ 21 0) (by kernel_rfl) rfl rfl ⟨(blk_cell BK154.out 0).trans rfl, (blk_cell BK154.out 1).trans rfl, (blk_cell BK154.out 2).trans rfl⟩ (fun hHeld => ?_); refine with_tabW spec_l2Runs.tab10 spec_l2Runs.bits10 (fun HT_ HW_ => ?_)
                 generalize wr.drew = w50 at HO_3 BK154 HB hHeld ⊢
                 refine pure_ (i := 1) (N := some 52) (v := ?_) (a' := ?_) (m_ 21 2) rfl rfl (any_of HT_.out (by kernel_rfl)) (fun _ _ _ h => h) (Or.inl ⟨by rfl, ?_⟩) ?_ ?_
                 rotate_left
                 ·intro w'
                  go_simp
                  with_reducible rfl
                 rotate_left
                 ·simp only [Act.put, sI_, s0_, s1_, i64_w, i32_w]
                  rfl
                 refine pure_ (i := 2) (N := some 53) (v := ?_) (a' := ?_) (m_ 21 6) rfl rfl (any_of HT_.out (by kernel_rfl)) (fun _ _ _ h => h) (Or.inl ⟨by rfl, ?_⟩) ?_ ?_
                 rotate_left
                 ·intro w'
                  go_simp
                  with_reducible rfl
                 rotate_left
                 ·simp only [Act.put, sI_, s0_, s1_, i64_w, i32_w]
                  rfl
                 refine pure_ (i := 3) (N := some 54) (v := ?_) (a' := ?_) (m_ 21 14) rfl rfl (any_of HT_.out (by kernel_rfl)) (fun _ _ _ h => h) (Or.inl ⟨by rfl, ?_⟩) ?_ ?_
                 rotate_left
                 ·intro w'
                  go_simp
                  with_reducible rfl
                 rotate_left
                 ·simp only [Act.put, sI_, s0_, s1_, i64_w, i32_w]
                  rfl
                 refine pure_ (i := 4) (N := some 55) (v := ?_) (a' := ?_) (m_ 21 30) rfl rfl (any_of HT_.out (by kernel_rfl)) (fun _ _ _ h => h) (Or.inl ⟨by rfl, ?_⟩) ?_ ?_
                 rotate_left
                 ·intro w'
                  go_simp
                  with_reducible rfl
                 rotate_left
                 ·simp only [Act.put, sI_, s0_, s1_, i64_w, i32_w]
                  rfl
                 refine take_ (i := 0) (N := some 51) (v := ?_) (a' := ?_) (m_ 21 31) rfl rfl (take_ofW HT_.out HW_.out (by kernel_rfl)) (fun _ _ _ h => h) (Or.inl ⟨by rfl, ?_⟩) hHeld ?_ ?_
                 rotate_left
                 ·rintro w' ⟨s0, s1, s2⟩
                  go_simp
                  with_reducible rfl
                 rotate_left
                 ·simp only [Act.put, sI_, s0_, s1_, i64_w, i32_w]
                  rfl
                 refine take_ (i := 5) (N := some 56) (v := ?_) (a' := ?_) (m_ 21 63) rfl rfl (take_ofW HT_.out HW_.out (by kernel_rfl)) (fun _ _ _ h => h) (Or.inl ⟨by rfl, ?_⟩) hHeld ?_ ?_
                 rotate_left
                 ·rintro w' ⟨s0, s1, s2⟩
                  go_simp
                  with_reducible rfl
                 rotate_left
                 ·simp only [Act.put, sI_, s0_, s1_, i64_w, i32_w]
                  rfl
                 refine pure_ (i := 6) (N := some 57) (v := ?_) (a' := ?_) (m_ 21 127) rfl rfl (any_of HT_.out (by kernel_rfl)) (fun _ _ _ h => h) (Or.inl ⟨by rfl, ?_⟩) ?_ ?_
                 rotate_left
                 ·intro w'
                  go_simp
                  with_reducible rfl
                 rotate_left
                 ·simp only [Act.put, sI_, s0_, s1_, i64_w, i32_w]
                  rfl
                 refine one_ (i := 7) (N := some 58) (m_ 21 255) rfl rfl (one_of HT_.out (by kernel_rfl)) (by decide) (fun K hK => ?_)
                 refine goes_ Tryd.func93 (by kernel_rfl) rfl #[.agg #[.int .i64 a0_0, .bool false, .slice A0_2 l0_2.length c0_2], .int .i64 (Int.tmod (wrap64 (x4_2 + x6_4)) a0_0)] (by rfl) rfl rfl (by (try simp only [List.map_toArray, List.map_cons, List.map_nil]); (rfl)) ?_
                 with_reducible refine (spec_l2Is.calls k4 a0_0 false _ _ l0_2 (Int.tmod (wrap64 (x4_2 + x6_4)) a0_0) false _ ?side1 ?side2 A40.out).mono ?_
                 (case side1 => repeat (exact (Kd.C_below HR0_2.out HB.out)))
                 (case side2 => exact HC0_2.out)
                 rintro e w51 ⟨rfl, hb⟩
                 refine ⟨_, rfl, ?_⟩
                 replace HO_3 := A_.mk (Kd.R_below HO_3.out hb)
                 replace BK154 := A_.mk (blk_below BK154.out hb)
                 replace HB := A_.mk (below_step HB.out hb)
                 (try clear hb)
                 skip
                 skip
                 skip
                 refine hK.out _ _ ⟨(blk_cell BK154.out 0).trans rfl, (blk_cell BK154.out 1).trans rfl, (blk_cell BK154.out 2).trans rfl⟩ (fun hHeld => ?_)
                 clear hK K
                 refine norm_ (a' := ?_) ?_ ?_
                 rotate_left
                 ·show Act.put _ (some 58) _ = _
                  simp only [Act.put, sI_, s0_, s1_, i64_w, i32_w]
                  rfl
                 refine pure_ (i := 8) (N := some 59) (v := ?_) (a' := ?_) (m_ 21 511) rfl rfl (any_of HT_.out (by kernel_rfl)) (fun _ _ _ h => h) (Or.inl ⟨by rfl, ?_⟩) ?_ ?_
                 rotate_left
                 ·intro w'
                  go_simp
                  with_reducible rfl
                 rotate_left
                 ·simp only [Act.put, sI_, s0_, s1_, i64_w, i32_w]
                  rfl
                 refine pure_ (i := 9) (N := some 60) (v := ?_) (a' := ?_) (m_ 21 1023) rfl rfl (any_of HT_.out (by kernel_rfl)) (fun _ _ _ h => h) (Or.inl ⟨by rfl, ?_⟩) ?_ ?_
                 rotate_left
                 ·intro w'
                  go_simp
                  with_reducible rfl
                 rotate_left
                 ·simp only [Act.put, sI_, s0_, s1_, i64_w, i32_w]
                  rfl
                 refine pure_ (i := 10) (N := some 61) (v := ?_) (a' := ?_) (m_ 21 2047) rfl rfl (any_of HT_.out (by kernel_rfl)) (fun _ _ _ h => h) (Or.inl ⟨by rfl, ?_⟩) ?_ ?_
                 rotate_left
                 ·intro w'
                  go_simp
                  with_reducible rfl
                 rotate_left
                 ·simp only [Act.put, sI_, s0_, s1_, i64_w, i32_w]
                  rfl
                 refine take_ (i := 11) (N := some 62) (v := ?_) (a' := ?_) (m_ 21 4095) rfl rfl (take_ofW HT_.out HW_.out (by kernel_rfl)) (fun _ _ _ h => h) (Or.inl ⟨by rfl, ?_⟩) hHeld ?_ ?_
                 rotate_left
                 ·rintro w' ⟨s0, s1, s2⟩
                  go_simp
                  with_reducible rfl
                 rotate_left
                 ·simp only [Act.put, sI_, s0_, s1_, i64_w, i32_w]
                  rfl
                 refine pure_ (i := 12) (N := some 63) (v := ?_) (a' := ?_) (m_ 21 8191) rfl rfl (any_of HT_.out (by kernel_rfl)) (fun _ _ _ h => h) (Or.inl ⟨by rfl, ?_⟩) ?_ ?_
                 rotate_left
                 ·intro w'
                  go_simp
                  with_reducible rfl
                 rotate_left
                 ·simp only [Act.put, sI_, s0_, s1_, i64_w, i32_w]
                  rfl
                 refine pure_ (i := 13) (N := some 64) (v := ?_) (a' := ?_) (m_ 21 16383) rfl rfl (any_of HT_.out (by kernel_rfl)) (fun _ _ _ h => h) (Or.inl ⟨by rfl, ?_⟩) ?_ ?_
                 rotate_left
                 ·intro w'
                  go_simp
                  with_reducible rfl
                 rotate_left
                 ·simp only [Act.put, sI_, s0_, s1_, i64_w, i32_w]
                  rfl
                 refine pure_ (i := 14) (N := some 65) (v := ?_) (a' := ?_) (m_ 21 32767) rfl rfl (any_of HT_.out (by kernel_rfl)) (fun _ _ _ h => h) (Or.inl ⟨by rfl, ?_⟩) ?_ ?_
                 rotate_left
                 ·intro w'
                  go_simp
                  with_reducible rfl
                 rotate_left
                 ·simp only [Act.put, sI_, s0_, s1_, i64_w, i32_w]
                  rfl
                 refine pure_ (i := 15) (N := some 66) (v := ?_) (a' := ?_) (m_ 21 65535) rfl rfl (any_of HT_.out (by kernel_rfl)) (fun _ _ _ h => h) (Or.inl ⟨by rfl, ?_⟩) ?_ ?_
                 rotate_left
                 ·intro w'
                  go_simp
                  with_reducible rfl
                 rotate_left
                 ·simp only [Act.put, sI_, s0_, s1_, i64_w, i32_w]
                  rfl
                 refine pure_ (i := 16) (N := some 67) (v := ?_) (a' := ?_) (m_ 21 131071) rfl rfl (any_of HT_.out (by kernel_rfl)) (fun _ _ _ h => h) (Or.inl ⟨by rfl, ?_⟩) ?_ ?_
                 rotate_left
                 ·intro w'
                  go_simp
                  with_reducible rfl
                 rotate_left
                 ·simp only [Act.put, sI_, s0_, s1_, i64_w, i32_w]
                  rfl
                 refine take_ (i := 17) (N := some 68) (v := ?_) (a' := ?_) (m_ 21 262143) rfl rfl (take_ofW HT_.out HW_.out (by kernel_rfl)) (fun _ _ _ h => h) (Or.inl ⟨by rfl, ?_⟩) hHeld ?_ ?_
                 rotate_left
                 ·rintro w' ⟨s0, s1, s2⟩
                  go_simp
                  with_reducible rfl
                 rotate_left
                 ·simp only [Act.put, sI_, s0_, s1_, i64_w, i32_w]
                  rfl
                 refine pure_ (i := 18) (N := some 69) (v := ?_) (a' := ?_) (m_ 21 524287) rfl rfl (any_of HT_.out (by kernel_rfl)) (fun _ _ _ h => h) (Or.inl ⟨by rfl, ?_⟩) ?_ ?_
                 rotate_left
                 ·intro w'
                  go_simp
                  with_reducible rfl
                 rotate_left
                 ·simp only [Act.put, sI_, s0_, s1_, i64_w, i32_w]
                  rfl
                 refine pure_ (i := 19) (N := some 70) (v := ?_) (a' := ?_) (m_ 21 1048575) rfl rfl (any_of HT_.out (by kernel_rfl)) (fun _ _ _ h => h) (Or.inl ⟨by rfl, ?_⟩) ?_ ?_
                 rotate_left
                 ·intro w'
                  go_simp
                  with_reducible rfl
                 rotate_left
                 ·simp only [Act.put, sI_, s0_, s1_, i64_w, i32_w]
                  rfl
                 refine pure_ (i := 20) (N := some 71) (v := ?_) (a' := ?_) (m_ 21 2097151) rfl rfl (any_of HT_.out (by kernel_rfl)) (fun _ _ _ h => h) (Or.inl ⟨by rfl, ?_⟩) ?_ ?_
                 rotate_left
                 ·intro w'
                  go_simp
                  with_reducible rfl
                 rotate_left
                 ·simp only [Act.put, sI_, s0_, s1_, i64_w, i32_w]
                  rfl
                 refine done_ (done_of HT_.out (by kernel_rfl)) ?_
                 try go_wp2
                 go_roundg k4
                 case measure => have := HJ1.out; have := HK2.out; have := HJ14.out; have := HK4.out; omega
                 case rel => exact ⟨(wrap64 (x6_4 + 1)), (by rfl), H', ⟨by have := HJ1.out; have := HK2.out; have := HJ14.out; have := HK4.out; omega⟩, ⟨by (with_reducible repeat (apply Kd.R_alloc)); exact HO_3.out⟩, ⟨by (with_reducible repeat (refine blk_drewN ?_ _)); exact BK154.out⟩, ⟨by repeat ((with_reducible (exact HB.out)))⟩⟩
                ·rw [if_neg c49] at H
                 have c49b0 : decide ((wrap64 (x4_2 + x6_4)) < a0_0) = false := decide_eq_false c49
                 clear c49
                 by_cases c52 : x3_2.length < 8796093022208
                 ·rw [if_pos c52] at H
                  have LMc52 := A_.mk c52
                  clear c52
                  obtain ⟨y167, hy167⟩ : ∃ y_ : List (S26), y_ = (x3_2 ++ [(⟨x4_2, x6_4⟩ : S26)]) := ⟨_, rfl⟩
                  replace H : (spec_l2Runs.l0 k4 y167 (wrap64 (x4_2 + 1)) a0_0 false l0_2) = some r := by (rw [hy167]; with_reducible exact H)
                  have Ny167 := A_.mk hy167
                  clear hy167
                  have H' := A_.mk H
                  clear H
                  try go_wp2
                  replace HO_3 := A_.mk (Kd.R_drew HO_3.out)
                  replace BK154 := A_.mk (blk_drew BK154.out)
                  replace HB := A_.mk (below_drew1 HB.out)
                  refine start_ (n := 21) (S := fun w' => w'.cell? ⟨gb154, 0, none⟩ = some (.int .i64 a0_0) ∧ w'.cell? ⟨gb154, 1, none⟩ = some (.bool false) ∧ w'.cell? ⟨gb154, 2, none⟩ = some (.slice A0_2 l0_2.length c0_2)) (ds := []) (m_ 21 0) (by kernel_rfl) rfl rfl ⟨(blk_cell BK154.out 0).trans rfl, (blk_cell BK154.out 1).trans rfl, (blk_cell BK154.out 2).trans rfl⟩ (fun hHeld => ?_); refine with_tabW spec_l2Runs.tab10 spec_l2Runs.bits10 (fun HT_ HW_ => ?_)
                  generalize wr.drew = w53 at HO_3 BK154 HB hHeld ⊢
                  refine pure_ (i := 1) (N := some 52) (v := ?_) (a' := ?_) (m_ 21 2) rfl rfl (any_of HT_.out (by kernel_rfl)) (fun _ _ _ h => h) (Or.inl ⟨by rfl, ?_⟩) ?_ ?_
                  rotate_left
                  ·intro w'
                   go_simp
                   with_reducible rfl
                  rotate_left
                  ·simp only [Act.put, sI_, s0_, s1_, i64_w, i32_w]
                   rfl
                  refine pure_ (i := 2) (N := some 53) (v := ?_) (a' := ?_) (m_ 21 6) rfl rfl (any_of HT_.out (by kernel_rfl)) (fun _ _ _ h => h) (Or.inl ⟨by rfl, ?_⟩) ?_ ?_
                  rotate_left
                  ·intro w'
                   go_simp
                   with_reducible rfl
                  rotate_left
                  ·simp only [Act.put, sI_, s0_, s1_, i64_w, i32_w]
                   rfl
                  refine pure_ (i := 3) (N := some 54) (v := ?_) (a' := ?_) (m_ 21 14) rfl rfl (any_of HT_.out (by kernel_rfl)) (fun _ _ _ h => h) (Or.inl ⟨by rfl, ?_⟩) ?_ ?_
                  rotate_left
                  ·intro w'
                   go_simp
                   with_reducible rfl
                  rotate_left
                  ·simp only [Act.put, sI_, s0_, s1_, i64_w, i32_w]
                   rfl
                  refine pure_ (i := 4) (N := some 55) (v := ?_) (a' := ?_) (m_ 21 30) rfl rfl (any_of HT_.out (by kernel_rfl)) (fun _ _ _ h => h) (Or.inl ⟨by rfl, ?_⟩) ?_ ?_
                  rotate_left
                  ·intro w'
                   go_simp
                   with_reducible rfl
                  rotate_left
                  ·simp only [Act.put, sI_, s0_, s1_, i64_w, i32_w]
                   rfl
                  refine take_ (i := 0) (N := some 51) (v := ?_) (a' := ?_) (m_ 21 31) rfl rfl (take_ofW HT_.out HW_.out (by kernel_rfl)) (fun _ _ _ h => h) (Or.inl ⟨by rfl, ?_⟩) hHeld ?_ ?_
                  rotate_left
                  ·rintro w' ⟨s0, s1, s2⟩
                   go_simp
                   with_reducible rfl
                  rotate_left
                  ·simp only [Act.put, sI_, s0_, s1_, i64_w, i32_w]
                   rfl
                  refine take_ (i := 5) (N := some 56) (v := ?_) (a' := ?_) (m_ 21 63) rfl rfl (take_ofW HT_.out HW_.out (by kernel_rfl)) (fun _ _ _ h => h) (Or.inl ⟨by rfl, ?_⟩) hHeld ?_ ?_
                  rotate_left
                  ·rintro w' ⟨s0, s1, s2⟩
                   go_simp
                   with_reducible rfl
                  rotate_left
                  ·simp only [Act.put, sI_, s0_, s1_, i64_w, i32_w]
                   rfl
                  refine pure_ (i := 6) (N := some 57) (v := ?_) (a' := ?_) (m_ 21 127) rfl rfl (any_of HT_.out (by kernel_rfl)) (fun _ _ _ h => h) (Or.inl ⟨by rfl, ?_⟩) ?_ ?_
                  rotate_left
                  ·intro w'
                   go_simp
                   with_reducible rfl
                  rotate_left
                  ·simp only [Act.put, sI_, s0_, s1_, i64_w, i32_w]
                   rfl
                  refine one_ (i := 7) (N := some 58) (m_ 21 255) rfl rfl (one_of HT_.out (by kernel_rfl)) (by decide) (fun K hK => ?_)
                  refine goes_ Tryd.func93 (by kernel_rfl) rfl #[.agg #[.int .i64 a0_0, .bool false, .slice A0_2 l0_2.length c0_2], .int .i64 (Int.tmod (wrap64 (x4_2 + x6_4)) a0_0)] (by rfl) rfl rfl (by (try simp only [List.map_toArray, List.map_cons, List.map_nil]); (rfl)) ?_
                  with_reducible refine (spec_l2Is.calls k4 a0_0 false _ _ l0_2 (Int.tmod (wrap64 (x4_2 + x6_4)) a0_0) false _ ?side1 ?side2 A40.out).mono ?_
                  (case side1 => repeat (exact (Kd.C_below HR0_2.out HB.out)))
                  (case side2 => exact HC0_2.out)
                  rintro e w54 ⟨rfl, hb⟩
                  refine ⟨_, rfl, ?_⟩
                  replace HO_3 := A_.mk (Kd.R_below HO_3.out hb)
                  replace BK154 := A_.mk (blk_below BK154.out hb)
                  replace HB := A_.mk (below_step HB.out hb)
                  (try clear hb)
                  skip
                  skip
                  skip
                  refine hK.out _ _ ⟨(blk_cell BK154.out 0).trans rfl, (blk_cell BK154.out 1).trans rfl, (blk_cell BK154.out 2).trans rfl⟩ (fun hHeld => ?_)
                  clear hK K
                  refine norm_ (a' := ?_) ?_ ?_
                  rotate_left
                  ·show Act.put _ (some 58) _ = _
                   simp only [Act.put, sI_, s0_, s1_, i64_w, i32_w]
                   rfl
                  refine pure_ (i := 8) (N := some 59) (v := ?_) (a' := ?_) (m_ 21 511) rfl rfl (any_of HT_.out (by kernel_rfl)) (fun _ _ _ h => h) (Or.inl ⟨by rfl, ?_⟩) ?_ ?_
                  rotate_left
                  ·intro w'
                   go_simp
                   with_reducible rfl
                  rotate_left
                  ·simp only [Act.put, sI_, s0_, s1_, i64_w, i32_w]
                   rfl
                  refine pure_ (i := 9) (N := some 60) (v := ?_) (a' := ?_) (m_ 21 1023) rfl rfl (any_of HT_.out (by kernel_rfl)) (fun _ _ _ h => h) (Or.inl ⟨by rfl, ?_⟩) ?_ ?_
                  rotate_left
                  ·intro w'
                   go_simp
                   with_reducible rfl
                  rotate_left
                  ·simp only [Act.put, sI_, s0_, s1_, i64_w, i32_w]
                   rfl
                  refine pure_ (i := 10) (N := some 61) (v := ?_) (a' := ?_) (m_ 21 2047) rfl rfl (any_of HT_.out (by kernel_rfl)) (fun _ _ _ h => h) (Or.inl ⟨by rfl, ?_⟩) ?_ ?_
                  rotate_left
                  ·intro w'
                   go_simp
                   with_reducible rfl
                  rotate_left
                  ·simp only [Act.put, sI_, s0_, s1_, i64_w, i32_w]
                   rfl
                  refine take_ (i := 11) (N := some 62) (v := ?_) (a' := ?_) (m_ 21 4095) rfl rfl (take_ofW HT_.out HW_.out (by kernel_rfl)) (fun _ _ _ h => h) (Or.inl ⟨by rfl, ?_⟩) hHeld ?_ ?_
                  rotate_left
                  ·rintro w' ⟨s0, s1, s2⟩
                   go_simp
                   with_reducible rfl
                  rotate_left
                  ·simp only [Act.put, sI_, s0_, s1_, i64_w, i32_w]
                   rfl
                  refine pure_ (i := 12) (N := some 63) (v := ?_) (a' := ?_) (m_ 21 8191) rfl rfl (any_of HT_.out (by kernel_rfl)) (fun _ _ _ h => h) (Or.inl ⟨by rfl, ?_⟩) ?_ ?_
                  rotate_left
                  ·intro w'
                   go_simp
                   with_reducible rfl
                  rotate_left
                  ·simp only [Act.put, sI_, s0_, s1_, i64_w, i32_w]
                   rfl
                  refine pure_ (i := 13) (N := some 64) (v := ?_) (a' := ?_) (m_ 21 16383) rfl rfl (any_of HT_.out (by kernel_rfl)) (fun _ _ _ h => h) (Or.inl ⟨by rfl, ?_⟩) ?_ ?_
                  rotate_left
                  ·intro w'
                   go_simp
                   with_reducible rfl
                  rotate_left
                  ·simp only [Act.put, sI_, s0_, s1_, i64_w, i32_w]
                   rfl
                  refine pure_ (i := 14) (N := some 65) (v := ?_) (a' := ?_) (m_ 21 32767) rfl rfl (any_of HT_.out (by kernel_rfl)) (fun _ _ _ h => h) (Or.inl ⟨by rfl, ?_⟩) ?_ ?_
                  rotate_left
                  ·intro w'
                   go_simp
                   with_reducible rfl
                  rotate_left
                  ·simp only [Act.put, sI_, s0_, s1_, i64_w, i32_w]
                   rfl
                  refine pure_ (i := 15) (N := some 66) (v := ?_) (a' := ?_) (m_ 21 65535) rfl rfl (any_of HT_.out (by kernel_rfl)) (fun _ _ _ h => h) (Or.inl ⟨by rfl, ?_⟩) ?_ ?_
                  rotate_left
                  ·intro w'
                   go_simp
                   with_reducible rfl
                  rotate_left
                  ·simp only [Act.put, sI_, s0_, s1_, i64_w, i32_w]
                   rfl
                  refine pure_ (i := 16) (N := some 67) (v := ?_) (a' := ?_) (m_ 21 131071) rfl rfl (any_of HT_.out (by kernel_rfl)) (fun _ _ _ h => h) (Or.inl ⟨by rfl, ?_⟩) ?_ ?_
                  rotate_left
                  ·intro w'
                   go_simp
                   with_reducible rfl
                  rotate_left
                  ·simp only [Act.put, sI_, s0_, s1_, i64_w, i32_w]
                   rfl
                  refine take_ (i := 17) (N := some 68) (v := ?_) (a' := ?_) (m_ 21 262143) rfl rfl (take_ofW HT_.out HW_.out (by kernel_rfl)) (fun _ _ _ h => h) (Or.inl ⟨by rfl, ?_⟩) hHeld ?_ ?_
                  rotate_left
                  ·rintro w' ⟨s0, s1, s2⟩
                   go_simp
                   with_reducible rfl
                  rotate_left
                  ·simp only [Act.put, sI_, s0_, s1_, i64_w, i32_w]
                   rfl
                  refine pure_ (i := 18) (N := some 69) (v := ?_) (a' := ?_) (m_ 21 524287) rfl rfl (any_of HT_.out (by kernel_rfl)) (fun _ _ _ h => h) (Or.inl ⟨by rfl, ?_⟩) ?_ ?_
                  rotate_left
                  ·intro w'
                   go_simp
                   with_reducible rfl
                  rotate_left
                  ·simp only [Act.put, sI_, s0_, s1_, i64_w, i32_w]
                   rfl
                  refine pure_ (i := 19) (N := some 70) (v := ?_) (a' := ?_) (m_ 21 1048575) rfl rfl (any_of HT_.out (by kernel_rfl)) (fun _ _ _ h => h) (Or.inl ⟨by rfl, ?_⟩) ?_ ?_
                  rotate_left
                  ·intro w'
                   go_simp
                   with_reducible rfl
                  rotate_left
                  ·simp only [Act.put, sI_, s0_, s1_, i64_w, i32_w]
                   rfl
                  refine pure_ (i := 20) (N := some 71) (v := ?_) (a' := ?_) (m_ 21 2097151) rfl rfl (any_of HT_.out (by kernel_rfl)) (fun _ _ _ h => h) (Or.inl ⟨by rfl, ?_⟩) ?_ ?_
                  rotate_left
                  ·intro w'
                   go_simp
                   with_reducible rfl
                  rotate_left
                  ·simp only [Act.put, sI_, s0_, s1_, i64_w, i32_w]
                   rfl
                  refine done_ (done_of HT_.out (by kernel_rfl)) ?_
                  try go_wp2_with ((with_reducible refine gate_builtin (b := .append) (xs := #[.tmp 74, .tmp 78]) rfl ?_); (try (refine gate_guard (by rfl) ?_; dsimp only)); at_builtin; refine Kd.R_append k26 (w0 := w) w.heap.size rfl (.tmp 74) (.tmp 78) 47 26 (.agg #[(.int .i64 0), (.int .i64 0)]) 16 rfl Tryd.underlying47 info26 rfl (by decide) (by omega) u3 x3_2 (⟨x4_2, x6_4⟩ : S26) [.int .i64 x4_2, .int .i64 x6_4] (fun _ => True) (fun _ => False) rfl rfl ?aP (fun _ hk => hk.elim) ?aF ?aO ?aB ?aS ?aL ?_; (case aP => exact k26_mkM _ _ _ (⟨x4_2, x6_4⟩ : S26)); (case aB => exact HB.out); (case aF => exact (fun _ _ => trivial)); (case aO => exact HO_3.out); (case aS => exact (below_size HB.out)); (case aL => have := LMc52.out; omega); intro v168 w55 ho hb hg hat; rw [← Ny167.out] at ho; replace BK154 := A_.mk (blk_grown BK154.out hg (Kd.R_ne HO_3.out BK154.out (by decide))); replace HB := A_.mk (hb); have HO169 := A_.mk (ho); clear HO_3; clear ho hb hg hat)
                  go_roundg k4
                  case measure => have := HJ1.out; have := HK2.out; have := HJ14.out; have := HK4.out; omega
                  case rel => exact ⟨(y167), (wrap64 (x4_2 + 1)), (by rfl), H', ⟨by have := HJ1.out; have := HK2.out; have := HJ14.out; have := HK4.out; omega⟩, ⟨by (with_reducible repeat (apply Kd.R_alloc)); exact HO169.out⟩, ⟨by (with_reducible repeat (refine blk_drewN ?_ _)); exact BK154.out⟩, ⟨by repeat ((with_reducible (exact HB.out)))⟩⟩
                 ·rw [if_neg c52] at H
                  exact absurd H (by simp)
      ·rw [if_neg c13] at H
       have c13b0 : decide (x4_2 < a0_0) = false := decide_eq_false c13
       clear c13
       obtain rfl := Option.some.inj H
       have hcz56_0 : wr.cell? ⟨gb154, 0, none⟩ = some (.int .i64 a0_0) := (blk_cell BK154.out 0).trans rfl
       have hcz56_1 : wr.cell? ⟨gb154, 1, none⟩ = some (.bool a0_1) := (blk_cell BK154.out 1).trans rfl
       have hcz56_2 : wr.cell? ⟨gb154, 2, none⟩ = some (.slice A0_2 l0_2.length c0_2) := (blk_cell BK154.out 2).trans rfl
       have hfz56_0 := blk_frozen BK154.out 0
       have hfz56_1 := blk_frozen BK154.out 1
       have hfz56_2 := blk_frozen BK154.out 2
       go_wp2
       go_ret
       exact ⟨_, by rfl, by (with_reducible repeat (apply Kd.R_alloc)); exact HO_3.out, by repeat ((with_reducible (exact HB.out)))⟩

end Go.Proofs.YtihifglmnjocfaaDoor.PFnExactFinalRows
