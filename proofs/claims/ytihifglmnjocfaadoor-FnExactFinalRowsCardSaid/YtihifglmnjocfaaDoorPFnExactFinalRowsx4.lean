/- Given functions as plain Lean functions, and that their calls answer these. -/
import Derived.Test.YtihifglmnjocfaaDoorPFnExactFinalRowsx0
import Derived.Test.YtihifglmnjocfaaDoorPFnExactFinalRowsx1
import Derived.Test.YtihifglmnjocfaaDoorPFnExactFinalRowsx2
import Derived.Test.YtihifglmnjocfaaDoorPFnExactFinalRowsx3
namespace Go.Proofs.YtihifglmnjocfaaDoor.PFnExactFinalRows
open Go.RowKit Go.Proofs.YtihifglmnjocfaaDoorW.PrintWords Go.Proofs.YtihifglmnjocfaaDoorW.PrintLast Go.Proofs.YtihifglmnjocfaaDoorW.PrintMore
attribute [local go_sem] max2_int min2_int max_two min_two max_three min_three max_four min_four
set_option maxHeartbeats 8000000
set_option maxRecDepth 100000
set_option linter.unusedVariables false
set_option linter.unusedSimpArgs false

/-! ### spec_l4Blocks: function 50 -/
def spec_l4Blocks.l0 : Nat → List Int → List Int → Int → Int → Bool → List Int → Option ((List (S26)))
 | 0, _, _, _, _, _, _ => none
 | k + 1, x3, x4, x5, x171000, x171001, x171002 => if x5 < x171000 then ((spec_l1Has.f k x4 x5).bind fun t177 => (if t177 = true then (spec_l4Blocks.l0 k x3 x4 (wrap64 (x5 + 1)) x171000 x171001 x171002) else (if x3.length < 17592186044416 then (spec_l4Blocks.l0 k (x3 ++ [x5]) x4 (wrap64 (x5 + 1)) x171000 x171001 x171002) else (none)))) else ((spec_l2Made.f x171000 x171001 x171002 x3).bind fun bt181 => ((spec_l2Runs.f k bt181.1 bt181.2.1 bt181.2.2).bind fun t186 => (some t186)))
def spec_l4Blocks.f (k : Nat) (a0_0 : Int) (a0_1 : Bool) (l0_2 : List Int) : Option ((List (S26))) := (spec_l2Lonely.f k a0_0 a0_1 l0_2).bind fun t174 => (spec_l4Blocks.l0 k (([] : List Int)) t174 0 a0_0 a0_1 l0_2)
theorem spec_l4Blocks.mono_l : ∀ k, (∀ y0 y1 y2 y3 y4 y5, LeO (spec_l4Blocks.l0 k y0 y1 y2 y3 y4 y5) (spec_l4Blocks.l0 (k + 1) y0 y1 y2 y3 y4 y5))
 | 0 => fun _ _ _ _ _ _ r h => by simp [spec_l4Blocks.l0] at h
 | k + 1 => by
  have ih0 := spec_l4Blocks.mono_l k
  ·intro y0 y1 y2 y3 y4 y5
   unfold spec_l4Blocks.l0
   repeat' first
   | (with_reducible exact ih0 _ _ _ _ _ _)
   | (with_reducible exact spec_l1Has.mono _ _ _)
   | (with_reducible exact spec_l2Lonely.mono _ _ _ _)
   | (with_reducible exact spec_l2Runs.mono _ _ _ _)
   | (with_reducible exact LeO.refl _)
   | (with_reducible exact LeO.none _)
   | (with_reducible refine LeO.ite ?_ ?_)
   | (with_reducible refine LeO.bind ?_ (fun _ => ?_))
   | exact ih0 _ _ _ _ _ _
   | exact spec_l1Has.mono _ _ _
   | exact spec_l2Lonely.mono _ _ _ _
   | exact spec_l2Runs.mono _ _ _ _
   | exact LeO.none _
   | refine LeO.ite ?_ ?_
   | refine LeO.bind ?_ (fun _ => ?_)
theorem spec_l4Blocks.mono : ∀ a0 a1 a2 k, LeO (spec_l4Blocks.f k a0 a1 a2) (spec_l4Blocks.f (k + 1) a0 a1 a2) := by
 intro a0 a1 a2 k
 have ih0 := spec_l4Blocks.mono_l k
 unfold spec_l4Blocks.f
 repeat' first
   | (with_reducible exact ih0 _ _ _ _ _ _)
   | (with_reducible exact spec_l1Has.mono _ _ _)
   | (with_reducible exact spec_l2Lonely.mono _ _ _ _)
   | (with_reducible exact spec_l2Runs.mono _ _ _ _)
   | (with_reducible exact LeO.refl _)
   | (with_reducible exact LeO.none _)
   | (with_reducible refine LeO.ite ?_ ?_)
   | (with_reducible refine LeO.bind ?_ (fun _ => ?_))
   | exact ih0 _ _ _ _ _ _
   | exact spec_l1Has.mono _ _ _
   | exact spec_l2Lonely.mono _ _ _ _
   | exact spec_l2Runs.mono _ _ _ _
   | exact LeO.none _
   | refine LeO.ite ?_ ?_
   | refine LeO.bind ?_ (fun _ => ?_)
theorem spec_l4Blocks.calls (k : Nat) (a0_0 : Int) (a0_1 : Bool) (A0_2 : Option Addr) (c0_2 : Nat) (l0_2 : List Int) (r : List (S26)) (w : World) (hr0_2 : Kd.C (Kd.int .i64) w A0_2 l0_2.length l0_2) (hc0_2 : l0_2.length ≤ c0_2) (h : spec_l4Blocks.f k a0_0 a0_1 l0_2 = some r) :
  Calls Tryd.prog 50 #[.agg #[.int .i64 a0_0, .bool a0_1, .slice A0_2 l0_2.length c0_2]] w fun e w' => ∃ v0_ : Value, e = .returned (v0_) ∧ Kd.R k26 26 w' w.heap.size (fun _ => True) v0_ r ∧ Below w.heap.size w w' := by
 have hu29 := Tryd.underlying29
 have HR0_2 := A_.mk hr0_2
 have HC0_2 := A_.mk hc0_2
 clear hr0_2 hc0_2
 have HB := A_.mk (Below.refl w.heap.size w)
 have H : ((spec_l2Lonely.f k a0_0 a0_1 l0_2).bind fun t174 => (spec_l4Blocks.l0 k (([] : List Int)) t174 0 a0_0 a0_1 l0_2)) = some r := h
 clear h
 obtain ⟨y171, hy171⟩ : ∃ y_ : List Int, y_ = (([] : List Int)) := ⟨_, rfl⟩
 replace H : ((spec_l2Lonely.f k a0_0 a0_1 l0_2).bind fun t174 => (spec_l4Blocks.l0 k y171 t174 0 a0_0 a0_1 l0_2)) = some r := by (rw [hy171]; with_reducible exact H)
 have Ny171 := A_.mk hy171
 clear hy171
 replace H := Option.bind_eq_some_iff.mp H
 obtain ⟨t174, A20, H⟩ := H
 replace H : (spec_l4Blocks.l0 k y171 t174 0 a0_0 a0_1 l0_2) = some r := H
 have A2 := A_.mk A20
 clear A20
 have H' := A_.mk H
 clear H
 go_enter Tryd.func50, Tryd.ntmps50
 go_wp2_with (first | ((with_reducible refine gate_dst (N := 1) rfl ?_); refine box_event ?hg (N := 1) ?hd (cs := #[.int .i64 a0_0, .bool a0_1, .slice A0_2 l0_2.length c0_2]) (t := 29) ?hr ?_; (case hd => rfl); (case hg => rfl); (case hr => (go_simp; done)); intro gb170 hg w3 hbox hb; replace HB := A_.mk (below_step (by repeat ((with_reducible (exact HB.out)))) hb); have BK170 := A_.mk (hbox); clear hb hbox hg) | ((with_reducible refine gate_dst (N := 6) rfl ?_); refine Kd.R_lit (Kd.int .i64) _ 3 ?hg (N := 6) ?hd (xs := ([] : List Int)) (inner := []) (ok := fun _ => True) (okp := fun _ => True) ?hr ?hp (fun _ hk => hk) trivial (Below.refl _ _) (Nat.le_refl _) (by simp) ?_; (case hd => rfl); (case hg => rfl); (case hr => (go_simp; done)); (case hp => exact (Reps.none _ _)); intro v172 w4 ho5 hb hg_ hnew_; clear hg_ hnew_; (rw [← Ny171.out] at ho5); have HO173 := A_.mk (Kd.R_lower ho5 (below_size (by repeat ((with_reducible (exact HB.out)))))); replace BK170 := A_.mk (blk_below (g := gb170) (o := .cells #[.int .i64 a0_0, .bool a0_1, .slice A0_2 l0_2.length c0_2] 29 (0, 0)) (by (with_reducible repeat (refine blk_drewN ?_ _)); exact BK170.out) hb); replace HB := A_.mk (below_step (by repeat ((with_reducible (exact HB.out)))) hb); clear hb ho5; have hcz6_0 : w4.cell? ⟨gb170, 0, none⟩ = some (.int .i64 a0_0) := (blk_cell BK170.out 0).trans rfl; have hcz6_1 : w4.cell? ⟨gb170, 1, none⟩ = some (.bool a0_1) := (blk_cell BK170.out 1).trans rfl; have hcz6_2 : w4.cell? ⟨gb170, 2, none⟩ = some (.slice A0_2 l0_2.length c0_2) := (blk_cell BK170.out 2).trans rfl; have hfz6_0 := blk_frozen BK170.out 0; have hfz6_1 := blk_frozen BK170.out 1; have hfz6_2 := blk_frozen BK170.out 2) | ((with_reducible refine gate_callee (f := 71) rfl ?_); refine goesL_ (some 8) rfl rfl Tryd.func71 (by kernel_rfl) rfl #[.agg #[.int .i64 a0_0, .bool a0_1, .slice A0_2 l0_2.length c0_2]] rfl (by (try simp only [List.map_toArray, List.map_cons, List.map_nil]); (rfl)) ?_; (with_reducible refine (spec_l2Lonely.calls k a0_0 a0_1 _ _ l0_2 t174 _ ?side1 ?side2 A2.out).mono ?_); (case side1 => repeat (exact (Kd.C_below HR0_2.out HB.out))); (case side2 => exact HC0_2.out); rintro e w7 ⟨v175, rfl, ho0, hb⟩; refine ⟨_, rfl, ?_⟩; have HO176 := A_.mk (Kd.R_lower (Kd.R_new' ho0 (Kd.R_lt (by (with_reducible repeat (apply Kd.R_alloc)); exact HO173.out))) (below_size (by repeat ((with_reducible (exact HB.out)))))); replace HO173 := A_.mk (Kd.R_elder' (by (with_reducible repeat (apply Kd.R_alloc)); exact HO173.out) (Kd.R_base ho0) hb); replace BK170 := A_.mk (blk_below (g := gb170) (o := .cells #[.int .i64 a0_0, .bool a0_1, .slice A0_2 l0_2.length c0_2] 29 (0, 0)) (by (with_reducible repeat (refine blk_drewN ?_ _)); exact BK170.out) hb); replace HB := A_.mk (below_step (by repeat ((with_reducible (exact HB.out)))) hb); (try clear hb); (try clear ho0)))
 go_loopg [3, 5] k (fun kq v3 v5 w' => ∃ (x3_1 : List Int) (x5_1 : Int), v5 = .int .i64 x5_1 ∧ A_ (spec_l4Blocks.l0 kq x3_1 t174 x5_1 a0_0 a0_1 l0_2 = some r) ∧ A_ (kq ≤ k) ∧ A_ (Kd.R (Kd.int .i64) 3 w' w.heap.size (fun k_ => some k_ ≠ (v175 : Value).ownBlock) v3 x3_1) ∧ A_ (Kd.R (Kd.int .i64) 3 w' w.heap.size (fun k_ => some k_ ≠ (v3 : Value).ownBlock) v175 t174) ∧ A_ (w'.heap[gb170]? = some (.cells #[.int .i64 a0_0, .bool a0_1, (.slice A0_2 l0_2.length c0_2)] 29 (0, 0))) ∧ A_ (Below w.heap.size w w'))
 case atStart => exact ⟨(y171), (0), (by rfl), H', ⟨Nat.le_refl _⟩, ⟨by (with_reducible repeat (apply Kd.R_alloc)); exact Kd.R_mono HO173.out (fun _ hk => hk.2)⟩, ⟨by (with_reducible repeat (apply Kd.R_alloc)); exact Kd.R_mono HO176.out (fun _ hk => hk.2)⟩, ⟨by (with_reducible repeat (refine blk_drewN ?_ _)); exact BK170.out⟩, ⟨by repeat ((with_reducible (exact HB.out)))⟩⟩
 case round =>
  clear H'
  try clear p2
  try clear c5
  try clear p6
  try clear c7
  try clear hcz6_0
  try clear hcz6_1
  try clear hcz6_2
  try clear hfz6_0
  try clear hfz6_1
  try clear hfz6_2
  obtain ⟨x3_1, x5_1, rfl, HA, HK1, HO_3, HO_4, BK170, HB⟩ := hrel
  cases gk with
  | zero => exact absurd HA.out (by simp [spec_l4Blocks.l0])
  | succ k1 =>
   have H := HA.out
   clear HA
   simp only [spec_l4Blocks.l0] at H
   by_cases c8 : x5_1 < a0_0
   ·rw [if_pos c8] at H
    have c8b0 : decide (x5_1 < a0_0) = true := decide_eq_true c8
    clear c8
    replace H := Option.bind_eq_some_iff.mp H
    obtain ⟨t177, A90, H⟩ := H
    replace H : (if t177 = true then (spec_l4Blocks.l0 k1 x3_1 t174 (wrap64 (x5_1 + 1)) a0_0 a0_1 l0_2) else (if x3_1.length < 17592186044416 then (spec_l4Blocks.l0 k1 (x3_1 ++ [x5_1]) t174 (wrap64 (x5_1 + 1)) a0_0 a0_1 l0_2) else (none))) = some r := H
    have A9 := A_.mk A90
    clear A90
    by_cases c10 : t177 = true
    ·subst c10
     have H1 : (spec_l4Blocks.l0 k1 x3_1 t174 (wrap64 (x5_1 + 1)) a0_0 a0_1 l0_2) = some r := by rw [if_pos rfl] at H; exact H
     clear H
     have H := H1
     clear H1
     have H' := A_.mk H
     clear H
     have hcz11_0 : wr.cell? ⟨gb170, 0, none⟩ = some (.int .i64 a0_0) := (blk_cell BK170.out 0).trans rfl
     have hcz11_1 : wr.cell? ⟨gb170, 1, none⟩ = some (.bool a0_1) := (blk_cell BK170.out 1).trans rfl
     have hcz11_2 : wr.cell? ⟨gb170, 2, none⟩ = some (.slice A0_2 l0_2.length c0_2) := (blk_cell BK170.out 2).trans rfl
     have hfz11_0 := blk_frozen BK170.out 0
     have hfz11_1 := blk_frozen BK170.out 1
     have hfz11_2 := blk_frozen BK170.out 2
     obtain ⟨Ao12, co12, eo12⟩ := Kd.R_slice HO_4.out
     subst eo12
     go_wp2_with (((with_reducible refine gate_callee (f := 45) rfl ?_); refine goesL_ (some 17) rfl rfl Tryd.func45 (by kernel_rfl) rfl #[.slice Ao12 t174.length co12, .int .i64 x5_1] rfl (by (try simp only [List.map_toArray, List.map_cons, List.map_nil]); (rfl)) ?_; (with_reducible refine (spec_l1Has.calls k1 _ _ t174 x5_1 true _ ?side1 ?side2 A9.out).mono ?_); (case side1 => repeat (exact (Kd.R_reads' HO_4.out).2.2)); (case side2 => exact (Kd.R_reads' HO_4.out).2.1); rintro e w' ⟨rfl, ⟨nd, rfl⟩⟩; refine ⟨_, rfl, ?_⟩))
     go_roundg k1
     case measure => have := HK1.out; omega
     case rel => exact ⟨(x3_1), (wrap64 (x5_1 + 1)), (by rfl), H', ⟨by have := HK1.out; omega⟩, ⟨by (with_reducible repeat (apply Kd.R_drewN)); exact HO_3.out⟩, ⟨by (with_reducible repeat (apply Kd.R_drewN)); exact HO_4.out⟩, ⟨by (with_reducible repeat (refine blk_drewN ?_ _)); exact BK170.out⟩, ⟨by repeat ((with_reducible first | exact HB.out | apply pw_below_drewN))⟩⟩
    ·replace c10 := Bool.eq_false_iff.mpr c10
     subst c10
     have H1 : (if x3_1.length < 17592186044416 then (spec_l4Blocks.l0 k1 (x3_1 ++ [x5_1]) t174 (wrap64 (x5_1 + 1)) a0_0 a0_1 l0_2) else (none)) = some r := by rw [if_neg (show ¬ (false = true) by decide)] at H; exact H
     clear H
     have H := H1
     clear H1
     by_cases c13 : x3_1.length < 17592186044416
     ·rw [if_pos c13] at H
      have LMc13 := A_.mk c13
      clear c13
      obtain ⟨y178, hy178⟩ : ∃ y_ : List Int, y_ = (x3_1 ++ [x5_1]) := ⟨_, rfl⟩
      replace H : (spec_l4Blocks.l0 k1 y178 t174 (wrap64 (x5_1 + 1)) a0_0 a0_1 l0_2) = some r := by (rw [hy178]; with_reducible exact H)
      have Ny178 := A_.mk hy178
      clear hy178
      have H' := A_.mk H
      clear H
      have hcz14_0 : wr.cell? ⟨gb170, 0, none⟩ = some (.int .i64 a0_0) := (blk_cell BK170.out 0).trans rfl
      have hcz14_1 : wr.cell? ⟨gb170, 1, none⟩ = some (.bool a0_1) := (blk_cell BK170.out 1).trans rfl
      have hcz14_2 : wr.cell? ⟨gb170, 2, none⟩ = some (.slice A0_2 l0_2.length c0_2) := (blk_cell BK170.out 2).trans rfl
      have hfz14_0 := blk_frozen BK170.out 0
      have hfz14_1 := blk_frozen BK170.out 1
      have hfz14_2 := blk_frozen BK170.out 2
      obtain ⟨Ao15, co15, eo15⟩ := Kd.R_slice HO_4.out
      subst eo15
      go_wp2_with (first | ((with_reducible refine gate_callee (f := 45) rfl ?_); refine goesL_ (some 17) rfl rfl Tryd.func45 (by kernel_rfl) rfl #[.slice Ao15 t174.length co15, .int .i64 x5_1] rfl (by (try simp only [List.map_toArray, List.map_cons, List.map_nil]); (rfl)) ?_; (with_reducible refine (spec_l1Has.calls k1 _ _ t174 x5_1 false _ ?side1 ?side2 A9.out).mono ?_); (case side1 => repeat (exact (Kd.R_reads' HO_4.out).2.2)); (case side2 => exact (Kd.R_reads' HO_4.out).2.1); rintro e w' ⟨rfl, ⟨nd, rfl⟩⟩; refine ⟨_, rfl, ?_⟩) | ((with_reducible refine gate_builtin (b := .append) (xs := #[.tmp 19, .tmp 21]) rfl ?_); at_builtin; refine Kd.R_append (Kd.int .i64) (w0 := w) w.heap.size rfl (.tmp 19) (.tmp 21) 22 3 (.int .i64 0) 8 rfl Tryd.underlying22 info3 rfl (by decide) (by omega) u3 x3_1 x5_1 [.int .i64 x5_1] (fun k_ => some k_ ≠ (.slice Ao15 t174.length co15 : Value).ownBlock) (fun _ => False) rfl rfl ?aP (fun _ hk => hk.elim) ?aF ?aO ?aB ?aS ?aL ?_; (case aP => exact rfl); (case aB => exact (by repeat ((with_reducible first | exact HB.out | apply pw_below_drewN)))); (case aF => exact (fun k_ hk => Kd.fresh' (Kd.R_lt (by (with_reducible repeat (apply Kd.R_drewN)); exact HO_4.out)) k_ hk)); (case aO => exact (by (with_reducible repeat (apply Kd.R_drewN)); exact HO_3.out)); (case aS => exact (below_size (by repeat ((with_reducible first | exact HB.out | apply pw_below_drewN))))); (case aL => have := LMc13.out; omega); intro v179 w16 ho hb hg hat; rw [← Ny178.out] at ho; replace HO_4 := A_.mk (Kd.R_after (ok := (fun _ => True)) (by (with_reducible repeat (apply Kd.R_drewN)); exact Kd.R_mono HO_4.out (fun _ hk => ⟨trivial, hk⟩)) hg hat); replace BK170 := A_.mk (blk_grown (g := gb170) (o := .cells #[.int .i64 a0_0, .bool a0_1, .slice A0_2 l0_2.length c0_2] 29 (0, 0)) (by (with_reducible repeat (refine blk_drewN ?_ _)); exact BK170.out) hg (Kd.R_ne HO_3.out BK170.out (by decide))); replace HB := A_.mk (hb); have HO180 := A_.mk (ho); clear HO_3; clear ho hb hg hat))
      go_roundg k1
      case measure => have := HK1.out; omega
      case rel => exact ⟨(y178), (wrap64 (x5_1 + 1)), (by rfl), H', ⟨by have := HK1.out; omega⟩, ⟨by (with_reducible repeat (apply Kd.R_alloc)); exact HO180.out⟩, ⟨by (with_reducible repeat (apply Kd.R_alloc)); exact Kd.R_mono HO_4.out (fun _ hk => hk.2)⟩, ⟨by (with_reducible repeat (refine blk_drewN ?_ _)); exact BK170.out⟩, ⟨by repeat ((with_reducible (exact HB.out)))⟩⟩
     ·rw [if_neg c13] at H
      exact absurd H (by simp)
   ·rw [if_neg c8] at H
    have c8b0 : decide (x5_1 < a0_0) = false := decide_eq_false c8
    clear c8
    replace H := Option.bind_eq_some_iff.mp H
    obtain ⟨⟨t181, t182, t183⟩, A170, H⟩ := H
    replace H : ((spec_l2Runs.f k1 t181 t182 t183).bind fun t186 => (some t186)) = some r := H
    have A17 := A_.mk A170
    clear A170
    replace H := Option.bind_eq_some_iff.mp H
    obtain ⟨t186, A180, H⟩ := H
    replace H : (some t186) = some r := H
    have A18 := A_.mk A180
    clear A180
    obtain rfl := Option.some.inj H
    have hcz19_0 : wr.cell? ⟨gb170, 0, none⟩ = some (.int .i64 a0_0) := (blk_cell BK170.out 0).trans rfl
    have hcz19_1 : wr.cell? ⟨gb170, 1, none⟩ = some (.bool a0_1) := (blk_cell BK170.out 1).trans rfl
    have hcz19_2 : wr.cell? ⟨gb170, 2, none⟩ = some (.slice A0_2 l0_2.length c0_2) := (blk_cell BK170.out 2).trans rfl
    have hfz19_0 := blk_frozen BK170.out 0
    have hfz19_1 := blk_frozen BK170.out 1
    have hfz19_2 := blk_frozen BK170.out 2
    obtain ⟨Ao20, co20, eo20⟩ := Kd.R_slice HO_3.out
    subst eo20
    go_wp2_with (first | ((with_reducible refine gate_callee (f := 35) rfl ?_); refine goesL_ (some 25) rfl rfl Tryd.func35 (by kernel_rfl) rfl #[.agg #[.int .i64 a0_0, .bool a0_1, .slice A0_2 l0_2.length c0_2], .slice Ao20 x3_1.length co20] rfl (by (try simp only [List.map_toArray, List.map_cons, List.map_nil]); (rfl)) ?_; (with_reducible refine (spec_l2Made.calls a0_0 a0_1 _ _ l0_2 (fun k_ => some k_ = (.slice Ao20 x3_1.length co20 : Value).ownBlock) _ _ x3_1 t181 t182 t183 _ ?side1 ?side2 ?side3 A17.out).mono ?_); (case side1 => repeat (exact (Kd.C_below HR0_2.out HB.out))); (case side2 => exact HC0_2.out); (case side3 => exact Kd.R_V (Kd.R_tight rfl (Kd.R_types (HO_3.out) BK170.out (by decide)))); rintro e w21 ⟨v184, rfl, ho0, hb⟩; refine ⟨_, rfl, ?_⟩; have HO185 := A_.mk (Kd.V_lower (Kd.V_mono (ok' := fun k_ => some k_ ≠ (v175 : Value).ownBlock ∧ k_ ≠ gb170) ho0 (fun k_ hk_ => ⟨Or.elim hk_ (fun hs_ => ((Kd.R_types (HO_3.out) BK170.out (by decide)).1 k_ hs_.symm).1) (fun hn_ => (Kd.fresh' (Kd.R_lt (by (with_reducible repeat (apply Kd.R_alloc)); exact HO_4.out)) k_ hn_)), Or.elim hk_ (fun hs_ => ((Kd.R_types (HO_3.out) BK170.out (by decide)).1 k_ hs_.symm).2) (fun hn_ => (Kd.freshB (g := gb170) (o := .cells #[.int .i64 a0_0, .bool a0_1, .slice A0_2 l0_2.length c0_2] 29 (0, 0)) (by (with_reducible repeat (refine blk_drewN ?_ _)); exact BK170.out) k_ hn_))⟩)) (below_size (by repeat ((with_reducible (exact HB.out)))))); replace HO_3 := A_.mk (Kd.R_below (by (with_reducible repeat (apply Kd.R_alloc)); exact HO_3.out) hb); replace HO_4 := A_.mk (Kd.R_below (by (with_reducible repeat (apply Kd.R_alloc)); exact HO_4.out) hb); replace BK170 := A_.mk (blk_below (g := gb170) (o := .cells #[.int .i64 a0_0, .bool a0_1, .slice A0_2 l0_2.length c0_2] 29 (0, 0)) (by (with_reducible repeat (refine blk_drewN ?_ _)); exact BK170.out) hb); replace HB := A_.mk (below_step (by repeat ((with_reducible (exact HB.out)))) hb); (try clear hb); (try clear ho0); obtain ⟨Ao22, co22, eo22⟩ := Kd.V_slice HO185.out; subst eo22) | ((with_reducible refine gate_callee (f := 72) rfl ?_); refine goesL_ (some 26) rfl rfl Tryd.func72 (by kernel_rfl) rfl #[.agg #[.int .i64 t181, .bool t182, .slice Ao22 t183.length co22]] rfl (by (try simp only [List.map_toArray, List.map_cons, List.map_nil]); (rfl)) ?_; (with_reducible refine (spec_l2Runs.calls k1 t181 t182 _ _ t183 t186 _ ?side1 ?side2 A18.out).mono ?_); (case side1 => repeat (exact (Kd.V_reads' HO185.out).2.2)); (case side2 => exact (Kd.V_reads' HO185.out).2.1); rintro e w23 ⟨v187, rfl, ho0, hb⟩; refine ⟨_, rfl, ?_⟩; replace HO_3 := A_.mk (Kd.R_below (by (with_reducible repeat (apply Kd.R_alloc)); exact HO_3.out) hb); replace HO_4 := A_.mk (Kd.R_below (by (with_reducible repeat (apply Kd.R_alloc)); exact HO_4.out) hb); replace HO185 := A_.mk (Kd.V_elder' (by (with_reducible repeat (apply Kd.V_alloc)); exact HO185.out) (Kd.R_base ho0) hb); have HO188 := A_.mk (Kd.R_lower ho0 (below_size (by repeat ((with_reducible (exact HB.out)))))); replace BK170 := A_.mk (blk_below (g := gb170) (o := .cells #[.int .i64 a0_0, .bool a0_1, .slice A0_2 l0_2.length c0_2] 29 (0, 0)) (by (with_reducible repeat (refine blk_drewN ?_ _)); exact BK170.out) hb); replace HB := A_.mk (below_step (by repeat ((with_reducible (exact HB.out)))) hb); (try clear hb); (try clear ho0)))
    go_ret
    exact ⟨_, by rfl, by (with_reducible repeat (apply Kd.R_alloc)); exact HO188.out, by repeat ((with_reducible (exact HB.out)))⟩

/-! ### spec_l1Own: function 53 -/
def spec_l1Own.f (l0 : List Int) : Option (List Int) := (some (([] : List Int) : List Int)).bind fun y189 => (if y189.length + l0.length < 17592186044416 then (some (y189 ++ l0)) else (none))
theorem spec_l1Own.calls (A0 : Option Addr) (c0 : Nat) (l0 : List Int) (r : List Int) (w : World) (hr0 : Kd.C (Kd.int .i64) w A0 l0.length l0) (hc0 : l0.length ≤ c0) (h : spec_l1Own.f l0 = some r) :
  Calls Tryd.prog 53 #[.slice A0 l0.length c0] w fun e w' => ∃ v0_ : Value, e = .returned (v0_) ∧ Kd.R (Kd.int .i64) 3 w' w.heap.size (fun _ => True) v0_ r ∧ Below w.heap.size w w' := by
 have HR0 := A_.mk hr0
 have HC0 := A_.mk hc0
 clear hr0 hc0
 have HB := A_.mk (Below.refl w.heap.size w)
 have H : ((some (([] : List Int) : List Int)).bind fun y189 => (if y189.length + l0.length < 17592186044416 then (some (y189 ++ l0)) else (none))) = some r := h
 clear h
 obtain ⟨y189, hy189⟩ : ∃ y_ : List Int, y_ = (([] : List Int)) := ⟨_, rfl⟩
 replace H : (if y189.length + l0.length < 17592186044416 then (some (y189 ++ l0)) else (none)) = some r := by (have H2_ := (Option.bind_some _ _).symm.trans H; rw [hy189]; with_reducible exact H2_)
 have Ny189 := A_.mk hy189
 clear hy189
 by_cases c2 : y189.length + l0.length < 17592186044416
 ·rw [if_pos c2] at H
  have LMc2 := A_.mk c2
  clear c2
  obtain ⟨y192, hy192⟩ : ∃ y_ : List Int, y_ = (y189 ++ l0) := ⟨_, rfl⟩
  replace H : (some y192) = some r := by (rw [hy192]; with_reducible exact H)
  have Ny192 := A_.mk hy192
  clear hy192
  obtain rfl := Option.some.inj H
  go_enter Tryd.func53, Tryd.ntmps53
  go_wp2_with (first | ((with_reducible refine gate_dst (N := 3) rfl ?_); refine Kd.R_lit (Kd.int .i64) _ 3 ?hg (N := 3) ?hd (xs := ([] : List Int)) (inner := []) (ok := fun _ => True) (okp := fun _ => True) ?hr ?hp (fun _ hk => hk) trivial (Below.refl _ _) (Nat.le_refl _) (by simp) ?_; (case hd => rfl); (case hg => rfl); (case hr => (go_simp; done)); (case hp => exact (Reps.none _ _)); intro v190 w3 ho4 hb hg_ hnew_; clear hg_ hnew_; (rw [← Ny189.out] at ho4); have HO191 := A_.mk (Kd.R_lower ho4 (below_size (by repeat ((with_reducible (exact HB.out)))))); replace HB := A_.mk (below_step (by repeat ((with_reducible (exact HB.out)))) hb); clear hb ho4) | ((with_reducible refine gate_builtin (b := .append) (xs := #[.tmp 3, .tmp 4]) rfl ?_); at_builtin; refine Kd.R_append_rows (Kd.int .i64) (w0 := w) w.heap.size rfl (.tmp 3) (.tmp 4) 22 3 (.int .i64 0) 8 rfl Tryd.underlying22 info3 rfl (by decide) (by omega) v190 y189 l0 _ _ _ (fun _ => True) (fun _ => False) rfl rfl ?aO ?aR (fun _ _ h => h) (fun _ h => h.elim) ?aF ?aB ?aS ?aL ?_; (case aR => repeat (exact (Kd.C_below HR0.out HB.out))); (case aB => exact (by repeat ((with_reducible (exact HB.out))))); (case aF => exact (fun _ _ => trivial)); (case aO => exact (by (with_reducible repeat (apply Kd.R_alloc)); exact HO191.out)); (case aS => exact (below_size (by repeat ((with_reducible (exact HB.out)))))); (case aL => have := LMc2.out; omega); intro v193 w5 ho hb hg hat; rw [← Ny192.out] at ho; replace HB := A_.mk (hb); have HO194 := A_.mk (ho); clear HO191; clear ho hb hg hat))
  go_ret
  exact ⟨_, by rfl, by (with_reducible repeat (apply Kd.R_alloc)); exact HO194.out, by repeat ((with_reducible (exact HB.out)))⟩
 ·rw [if_neg c2] at H
  exact absurd H (by simp)

end Go.Proofs.YtihifglmnjocfaaDoor.PFnExactFinalRows
