/- Given functions as plain Lean functions, and that their calls answer these. -/
import Derived.Test.YtihifglmnjocfaaDoorPFnExactChanceOfFinalx0
import Derived.Test.YtihifglmnjocfaaDoorPFnExactChanceOfFinalx1
import Derived.Test.YtihifglmnjocfaaDoorPFnExactChanceOfFinalx10
namespace Go.Proofs.YtihifglmnjocfaaDoor.PFnExactChanceOfFinal
open Go.RowKit Go.Proofs.YtihifglmnjocfaaDoorW.PrintWords Go.Proofs.YtihifglmnjocfaaDoorW.PrintLast Go.Proofs.YtihifglmnjocfaaDoorW.PrintMore
attribute [local go_sem] max2_int min2_int max_two min_two max_three min_three max_four min_four
set_option maxHeartbeats 8000000
set_option maxRecDepth 100000
set_option linter.unusedVariables false
set_option linter.unusedSimpArgs false

attribute [local go_sem high] eqA63
/-! ### impl_IsRow: function 62 -/
def impl_IsRow.l0 : Nat → List Int → Int → Int → Int → Bool → List Int → Option (Bool)
 | 0, _, _, _, _, _, _ => none
 | k + 1, x6, x7, x8, x306000, x306001, x306002 => if x8 < x7 then (if 0 ≤ x8 then (if x8 < (x6.length : Int) then ((impl_Row_bench.f x306000 x306001 x306002).bind fun bt310 => ((impl_bench_has.f k bt310.1 bt310.2 (([rd x6 x8] : List Int))).bind fun t315 => (if t315 = true then (if x8 > 0 then (if 0 ≤ (wrap64 (x8 - 1)) then (if (wrap64 (x8 - 1)) < (x306002.length : Int) then (if (rd x306002 (wrap64 (x8 - 1))) ≥ (rd x6 x8) then (some false) else (impl_IsRow.l0 k x6 x7 (wrap64 (x8 + 1)) x306000 x306001 x306002)) else (none)) else (none)) else (impl_IsRow.l0 k x6 x7 (wrap64 (x8 + 1)) x306000 x306001 x306002)) else (some false)))) else (none)) else (none)) else ((impl_Row_bench.f x306000 x306001 x306002).bind fun bt306 => ((impl_bench_valid.f bt306.1 bt306.2).bind fun t308 => (some t308)))
def impl_IsRow.f (k : Nat) (a0_0 : Int) (a0_1 : Bool) (l0_2 : List Int) : Option (Bool) := impl_IsRow.l0 k l0_2 (l0_2.length : Int) 0 a0_0 a0_1 l0_2
theorem impl_IsRow.mono_l : ∀ k, (∀ y0 y1 y2 y3 y4 y5, LeO (impl_IsRow.l0 k y0 y1 y2 y3 y4 y5) (impl_IsRow.l0 (k + 1) y0 y1 y2 y3 y4 y5))
 | 0 => fun _ _ _ _ _ _ r h => by simp [impl_IsRow.l0] at h
 | k + 1 => by
  have ih0 := impl_IsRow.mono_l k
  ·intro y0 y1 y2 y3 y4 y5
   unfold impl_IsRow.l0
   repeat' first
   | (with_reducible exact ih0 _ _ _ _ _ _)
   | (with_reducible exact impl_bench_has.mono _ _ _ _)
   | (with_reducible exact LeO.refl _)
   | (with_reducible exact LeO.none _)
   | (with_reducible refine LeO.ite ?_ ?_)
   | (with_reducible refine LeO.bind ?_ (fun _ => ?_))
   | exact ih0 _ _ _ _ _ _
   | exact impl_bench_has.mono _ _ _ _
   | exact LeO.none _
   | refine LeO.ite ?_ ?_
   | refine LeO.bind ?_ (fun _ => ?_)
theorem impl_IsRow.mono : ∀ a0 a1 a2 k, LeO (impl_IsRow.f k a0 a1 a2) (impl_IsRow.f (k + 1) a0 a1 a2) := by
 intro a0 a1 a2 k
 have ih0 := impl_IsRow.mono_l k
 unfold impl_IsRow.f
 repeat' first
   | (with_reducible exact ih0 _ _ _ _ _ _)
   | (with_reducible exact impl_bench_has.mono _ _ _ _)
   | (with_reducible exact LeO.refl _)
   | (with_reducible exact LeO.none _)
   | (with_reducible refine LeO.ite ?_ ?_)
   | (with_reducible refine LeO.bind ?_ (fun _ => ?_))
   | exact ih0 _ _ _ _ _ _
   | exact impl_bench_has.mono _ _ _ _
   | exact LeO.none _
   | refine LeO.ite ?_ ?_
   | refine LeO.bind ?_ (fun _ => ?_)
theorem impl_IsRow.calls (k : Nat) (a0_0 : Int) (a0_1 : Bool) (A0_2 : Option Addr) (c0_2 : Nat) (l0_2 : List Int) (r : Bool) (w : World) (hr0_2 : Kd.C (Kd.int .i64) w A0_2 l0_2.length l0_2) (hc0_2 : l0_2.length ≤ c0_2) (h : impl_IsRow.f k a0_0 a0_1 l0_2 = some r) :
  Calls Tryd.prog 62 #[.agg #[.int .i64 a0_0, .bool a0_1, .slice A0_2 l0_2.length c0_2]] w fun e w' => e = .returned (.bool r) ∧ Below w.heap.size w w' := by
 have hu29 := Tryd.underlying29
 have HR0_2 := A_.mk hr0_2
 have HC0_2 := A_.mk hc0_2
 clear hr0_2 hc0_2
 have HB := A_.mk (Below.refl w.heap.size w)
 have H : (impl_IsRow.l0 k l0_2 (l0_2.length : Int) 0 a0_0 a0_1 l0_2) = some r := h
 clear h
 have H' := A_.mk H
 clear H
 go_enter Tryd.func62, Tryd.ntmps62
 go_wp2_with ((with_reducible refine gate_dst (N := 1) rfl ?_); refine box_event ?hg (N := 1) ?hd (cs := #[.int .i64 a0_0, .bool a0_1, .slice A0_2 l0_2.length c0_2]) (t := 29) ?hr ?_; (case hd => rfl); (case hg => rfl); (case hr => (go_simp; done)); intro gb305 hg w2 hbox hb; replace HB := A_.mk (below_step HB.out hb); have BK305 := A_.mk (hbox); clear hb hbox hg; have hcz3_0 : w2.cell? ⟨gb305, 0, none⟩ = some (.int .i64 a0_0) := (blk_cell BK305.out 0).trans rfl; have hcz3_1 : w2.cell? ⟨gb305, 1, none⟩ = some (.bool a0_1) := (blk_cell BK305.out 1).trans rfl; have hcz3_2 : w2.cell? ⟨gb305, 2, none⟩ = some (.slice A0_2 l0_2.length c0_2) := (blk_cell BK305.out 2).trans rfl; have hfz3_0 := blk_frozen BK305.out 0; have hfz3_1 := blk_frozen BK305.out 1; have hfz3_2 := blk_frozen BK305.out 2)
 go_loopg [8] k (fun kq v8 w' => ∃ (x8_1 : Int), v8 = .int .i64 x8_1 ∧ A_ (impl_IsRow.l0 kq l0_2 (l0_2.length : Int) x8_1 a0_0 a0_1 l0_2 = some r) ∧ A_ (kq ≤ k) ∧ A_ (w'.heap[gb305]? = some (.cells #[.int .i64 a0_0, .bool a0_1, (.slice A0_2 l0_2.length c0_2)] 29 (0, 0))) ∧ A_ (Below w.heap.size w w'))
 case atStart => exact ⟨(0), (by rfl), H', ⟨Nat.le_refl _⟩, ⟨by (with_reducible repeat (refine blk_drewN ?_ _)); exact BK305.out⟩, ⟨by repeat ((with_reducible (exact HB.out)))⟩⟩
 case round =>
  clear H'
  try clear p2
  try clear hcz3_0
  try clear hcz3_1
  try clear hcz3_2
  try clear hfz3_0
  try clear hfz3_1
  try clear hfz3_2
  obtain ⟨x8_1, rfl, HA, HK1, BK305, HB⟩ := hrel
  cases gk with
  | zero => exact absurd HA.out (by simp [impl_IsRow.l0])
  | succ k1 =>
   have H := HA.out
   clear HA
   simp only [impl_IsRow.l0] at H
   by_cases c4 : x8_1 < (l0_2.length : Int)
   ·rw [if_pos c4] at H
    have c4b0 : decide (x8_1 < (l0_2.length : Int)) = true := decide_eq_true c4
    clear c4
    by_cases c5 : 0 ≤ x8_1
    ·rw [if_pos c5] at H
     have c5b0 : decide (0 ≤ x8_1) = true := decide_eq_true c5
     clear c5
     by_cases c6 : x8_1 < (l0_2.length : Int)
     ·rw [if_pos c6] at H
      have c6b0 : decide (x8_1 < (l0_2.length : Int)) = true := decide_eq_true c6
      clear c6
      replace H := Option.bind_eq_some_iff.mp H
      obtain ⟨⟨t310, t311⟩, A70, H⟩ := H
      replace H : ((impl_bench_has.f k1 t310 t311 (([rd l0_2 x8_1] : List Int))).bind fun t315 => (if t315 = true then (if x8_1 > 0 then (if 0 ≤ (wrap64 (x8_1 - 1)) then (if (wrap64 (x8_1 - 1)) < (l0_2.length : Int) then (if (rd l0_2 (wrap64 (x8_1 - 1))) ≥ (rd l0_2 x8_1) then (some false) else (impl_IsRow.l0 k1 l0_2 (l0_2.length : Int) (wrap64 (x8_1 + 1)) a0_0 a0_1 l0_2)) else (none)) else (none)) else (impl_IsRow.l0 k1 l0_2 (l0_2.length : Int) (wrap64 (x8_1 + 1)) a0_0 a0_1 l0_2)) else (some false))) = some r := H
      have A7 := A_.mk A70
      clear A70
      obtain ⟨y312, hy312⟩ : ∃ y_ : List Int, y_ = (([rd l0_2 x8_1] : List Int)) := ⟨_, rfl⟩
      replace H : ((impl_bench_has.f k1 t310 t311 y312).bind fun t315 => (if t315 = true then (if x8_1 > 0 then (if 0 ≤ (wrap64 (x8_1 - 1)) then (if (wrap64 (x8_1 - 1)) < (l0_2.length : Int) then (if (rd l0_2 (wrap64 (x8_1 - 1))) ≥ (rd l0_2 x8_1) then (some false) else (impl_IsRow.l0 k1 l0_2 (l0_2.length : Int) (wrap64 (x8_1 + 1)) a0_0 a0_1 l0_2)) else (none)) else (none)) else (impl_IsRow.l0 k1 l0_2 (l0_2.length : Int) (wrap64 (x8_1 + 1)) a0_0 a0_1 l0_2)) else (some false))) = some r := by (rw [hy312]; with_reducible exact H)
      have Ny312 := A_.mk hy312
      clear hy312
      replace H := Option.bind_eq_some_iff.mp H
      obtain ⟨t315, A80, H⟩ := H
      replace H : (if t315 = true then (if x8_1 > 0 then (if 0 ≤ (wrap64 (x8_1 - 1)) then (if (wrap64 (x8_1 - 1)) < (l0_2.length : Int) then (if (rd l0_2 (wrap64 (x8_1 - 1))) ≥ (rd l0_2 x8_1) then (some false) else (impl_IsRow.l0 k1 l0_2 (l0_2.length : Int) (wrap64 (x8_1 + 1)) a0_0 a0_1 l0_2)) else (none)) else (none)) else (impl_IsRow.l0 k1 l0_2 (l0_2.length : Int) (wrap64 (x8_1 + 1)) a0_0 a0_1 l0_2)) else (some false)) = some r := H
      have A8 := A_.mk A80
      clear A80
      by_cases c9 : t315 = true
      ·subst c9
       have H1 : (if x8_1 > 0 then (if 0 ≤ (wrap64 (x8_1 - 1)) then (if (wrap64 (x8_1 - 1)) < (l0_2.length : Int) then (if (rd l0_2 (wrap64 (x8_1 - 1))) ≥ (rd l0_2 x8_1) then (some false) else (impl_IsRow.l0 k1 l0_2 (l0_2.length : Int) (wrap64 (x8_1 + 1)) a0_0 a0_1 l0_2)) else (none)) else (none)) else (impl_IsRow.l0 k1 l0_2 (l0_2.length : Int) (wrap64 (x8_1 + 1)) a0_0 a0_1 l0_2)) = some r := by rw [if_pos rfl] at H; exact H
       clear H
       have H := H1
       clear H1
       by_cases c10 : x8_1 > 0
       ·rw [if_pos c10] at H
        have c10b0 : decide (0 < x8_1) = true := decide_eq_true c10
        clear c10
        obtain ⟨ji11, hji11⟩ : ∃ j_ : Int, (wrap64 (x8_1 - 1)) = j_ := ⟨_, rfl⟩
        replace H : (if 0 ≤ (ji11) then (if (ji11) < (l0_2.length : Int) then (if (rd l0_2 (ji11)) ≥ (rd l0_2 x8_1) then (some false) else (impl_IsRow.l0 k1 l0_2 (l0_2.length : Int) (wrap64 (x8_1 + 1)) a0_0 a0_1 l0_2)) else (none)) else (none)) = some r := by (rw [hji11] at H; exact H)
        skip
        skip
        have hji11w : (IntKind.i64.wrap (x8_1 - 1)) = ji11 := (i64_w _).trans hji11
        by_cases c12 : 0 ≤ (ji11)
        ·rw [if_pos c12] at H
         have c12b0 : decide (0 ≤ (ji11)) = true := decide_eq_true c12
         clear c12
         by_cases c13 : (ji11) < (l0_2.length : Int)
         ·rw [if_pos c13] at H
          have c13b0 : decide ((ji11) < (l0_2.length : Int)) = true := decide_eq_true c13
          clear c13
          by_cases c14 : (rd l0_2 (ji11)) ≥ (rd l0_2 x8_1)
          ·rw [if_pos c14] at H
           have c14b0 : decide ((rd l0_2 x8_1) ≤ (rd l0_2 (ji11))) = true := decide_eq_true c14
           clear c14
           obtain rfl := Option.some.inj H
           have p309 : 0 ≤ (x8_1 : Int) := of_decide_eq_true (by (with_reducible assumption))
           have q309 : x8_1 < (l0_2.length : Int) := of_decide_eq_true (by (with_reducible assumption))
           obtain ⟨ad309, e309, hx309_0⟩ := Kd.at_int HR0_2.out x8_1 p309 q309
           cases e309
           replace hx309_0 := (HB.out.cell (World.block_lt_of_cell? w _ hx309_0)).trans hx309_0
           replace p309 := eq_true p309
           replace q309 := eq_true q309
           have hcz15_0 : wr.cell? ⟨gb305, 0, none⟩ = some (.int .i64 a0_0) := (blk_cell BK305.out 0).trans rfl
           have hcz15_1 : wr.cell? ⟨gb305, 1, none⟩ = some (.bool a0_1) := (blk_cell BK305.out 1).trans rfl
           have hcz15_2 : wr.cell? ⟨gb305, 2, none⟩ = some (.slice (some ad309) l0_2.length c0_2) := (blk_cell BK305.out 2).trans rfl
           have hfz15_0 := blk_frozen BK305.out 0
           have hfz15_1 := blk_frozen BK305.out 1
           have hfz15_2 := blk_frozen BK305.out 2
           go_wp2_with (first | ((with_reducible refine gate_callee (f := 37) rfl ?_); refine goesL_ (some 14) rfl rfl Tryd.func37 (by kernel_rfl) rfl #[.agg #[.int .i64 a0_0, .bool a0_1, .slice (some ad309) l0_2.length c0_2]] rfl (by (try simp only [List.map_toArray, List.map_cons, List.map_nil]); (rfl)) ?_; (with_reducible refine (impl_Row_bench.calls a0_0 a0_1 _ _ l0_2 t310 t311 _ ?side1 ?side2 A7.out).mono ?_); (case side1 => repeat (exact (Kd.C_below HR0_2.out HB.out))); (case side2 => exact HC0_2.out); rintro e w16 ⟨rfl, hb⟩; refine ⟨_, rfl, ?_⟩; replace BK305 := A_.mk (blk_below BK305.out hb); replace HB := A_.mk (below_step HB.out hb); (try clear hb)) | ((with_reducible refine gate_dst (N := 16) rfl ?_); refine Kd.R_lit (Kd.int .i64) _ 3 ?hg (N := 16) ?hd (xs := ([rd l0_2 x8_1] : List Int)) (inner := [.int .i64 (rd l0_2 x8_1)]) (ok := fun _ => True) (okp := fun _ => True) ?hr ?hp (fun _ hk => hk) trivial (Below.refl _ _) (Nat.le_refl _) (by simp) ?_; (case hd => rfl); (case hg => rfl); (case hr => (go_simp; done)); (case hp => exact (Reps.one (show Kd.M (Kd.int .i64) _ _ _ (rd l0_2 x8_1) [.int .i64 (rd l0_2 x8_1)] from rfl) (Reps.none _ _))); intro v313 w17 ho18 hb hg_ hnew_; clear hg_ hnew_; (rw [← Ny312.out] at ho18); have HO314 := A_.mk (Kd.R_lower ho18 (below_size HB.out)); replace BK305 := A_.mk (blk_below BK305.out hb); replace HB := A_.mk (below_step HB.out hb); clear hb ho18; obtain ⟨Ao19, co19, eo19⟩ := Kd.R_slice HO314.out; subst eo19) | ((with_reducible refine gate_callee (f := 47) rfl ?_); refine goesL_ (some 17) rfl rfl Tryd.func47 (by kernel_rfl) rfl #[.agg #[.int .i64 t310, .bool t311], .slice Ao19 y312.length co19] rfl (by (try simp only [List.map_toArray, List.map_cons, List.map_nil]); (rfl)) ?_; (with_reducible refine (impl_bench_has.calls k1 t310 t311 _ _ y312 true _ ?side1 ?side2 A8.out).mono ?_); (case side1 => repeat (exact (Kd.R_reads' HO314.out).2.2)); (case side2 => exact (Kd.R_reads' HO314.out).2.1); rintro e w20 ⟨rfl, hb⟩; refine ⟨_, rfl, ?_⟩; replace HO314 := A_.mk (Kd.R_below HO314.out hb); replace BK305 := A_.mk (blk_below BK305.out hb); replace HB := A_.mk (below_step HB.out hb); (try clear hb); have hcz21_0 : w20.cell? ⟨gb305, 0, none⟩ = some (.int .i64 a0_0) := (blk_cell BK305.out 0).trans rfl; have hcz21_1 : w20.cell? ⟨gb305, 1, none⟩ = some (.bool a0_1) := (blk_cell BK305.out 1).trans rfl; have hcz21_2 : w20.cell? ⟨gb305, 2, none⟩ = some (.slice (some ad309) l0_2.length c0_2) := (blk_cell BK305.out 2).trans rfl; have hfz21_0 := blk_frozen BK305.out 0; have hfz21_1 := blk_frozen BK305.out 1; have hfz21_2 := blk_frozen BK305.out 2; have p316 : 0 ≤ ((ji11) : Int) := of_decide_eq_true (by (with_reducible assumption)); have q316 : (ji11) < (l0_2.length : Int) := of_decide_eq_true (by (with_reducible assumption)); obtain ⟨ad316, e316, hx316_0⟩ := Kd.at_int HR0_2.out (ji11) p316 q316; obtain rfl : ad309 = ad316 := (by injection e316); replace hx316_0 := (HB.out.cell (World.block_lt_of_cell? w _ hx316_0)).trans hx316_0; replace p316 := eq_true p316; replace q316 := eq_true q316))
           go_ret
           exact ⟨by rfl, by repeat ((with_reducible (exact HB.out)))⟩
          ·rw [if_neg c14] at H
           have c14b0 : decide ((rd l0_2 x8_1) ≤ (rd l0_2 (ji11))) = false := decide_eq_false c14
           clear c14
           have H' := A_.mk H
           clear H
           have p309 : 0 ≤ (x8_1 : Int) := of_decide_eq_true (by (with_reducible assumption))
           have q309 : x8_1 < (l0_2.length : Int) := of_decide_eq_true (by (with_reducible assumption))
           obtain ⟨ad309, e309, hx309_0⟩ := Kd.at_int HR0_2.out x8_1 p309 q309
           cases e309
           replace hx309_0 := (HB.out.cell (World.block_lt_of_cell? w _ hx309_0)).trans hx309_0
           replace p309 := eq_true p309
           replace q309 := eq_true q309
           have hcz22_0 : wr.cell? ⟨gb305, 0, none⟩ = some (.int .i64 a0_0) := (blk_cell BK305.out 0).trans rfl
           have hcz22_1 : wr.cell? ⟨gb305, 1, none⟩ = some (.bool a0_1) := (blk_cell BK305.out 1).trans rfl
           have hcz22_2 : wr.cell? ⟨gb305, 2, none⟩ = some (.slice (some ad309) l0_2.length c0_2) := (blk_cell BK305.out 2).trans rfl
           have hfz22_0 := blk_frozen BK305.out 0
           have hfz22_1 := blk_frozen BK305.out 1
           have hfz22_2 := blk_frozen BK305.out 2
           go_wp2_with (first | ((with_reducible refine gate_callee (f := 37) rfl ?_); refine goesL_ (some 14) rfl rfl Tryd.func37 (by kernel_rfl) rfl #[.agg #[.int .i64 a0_0, .bool a0_1, .slice (some ad309) l0_2.length c0_2]] rfl (by (try simp only [List.map_toArray, List.map_cons, List.map_nil]); (rfl)) ?_; (with_reducible refine (impl_Row_bench.calls a0_0 a0_1 _ _ l0_2 t310 t311 _ ?side1 ?side2 A7.out).mono ?_); (case side1 => repeat (exact (Kd.C_below HR0_2.out HB.out))); (case side2 => exact HC0_2.out); rintro e w23 ⟨rfl, hb⟩; refine ⟨_, rfl, ?_⟩; replace BK305 := A_.mk (blk_below BK305.out hb); replace HB := A_.mk (below_step HB.out hb); (try clear hb)) | ((with_reducible refine gate_dst (N := 16) rfl ?_); refine Kd.R_lit (Kd.int .i64) _ 3 ?hg (N := 16) ?hd (xs := ([rd l0_2 x8_1] : List Int)) (inner := [.int .i64 (rd l0_2 x8_1)]) (ok := fun _ => True) (okp := fun _ => True) ?hr ?hp (fun _ hk => hk) trivial (Below.refl _ _) (Nat.le_refl _) (by simp) ?_; (case hd => rfl); (case hg => rfl); (case hr => (go_simp; done)); (case hp => exact (Reps.one (show Kd.M (Kd.int .i64) _ _ _ (rd l0_2 x8_1) [.int .i64 (rd l0_2 x8_1)] from rfl) (Reps.none _ _))); intro v313 w24 ho25 hb hg_ hnew_; clear hg_ hnew_; (rw [← Ny312.out] at ho25); have HO314 := A_.mk (Kd.R_lower ho25 (below_size HB.out)); replace BK305 := A_.mk (blk_below BK305.out hb); replace HB := A_.mk (below_step HB.out hb); clear hb ho25; obtain ⟨Ao26, co26, eo26⟩ := Kd.R_slice HO314.out; subst eo26) | ((with_reducible refine gate_callee (f := 47) rfl ?_); refine goesL_ (some 17) rfl rfl Tryd.func47 (by kernel_rfl) rfl #[.agg #[.int .i64 t310, .bool t311], .slice Ao26 y312.length co26] rfl (by (try simp only [List.map_toArray, List.map_cons, List.map_nil]); (rfl)) ?_; (with_reducible refine (impl_bench_has.calls k1 t310 t311 _ _ y312 true _ ?side1 ?side2 A8.out).mono ?_); (case side1 => repeat (exact (Kd.R_reads' HO314.out).2.2)); (case side2 => exact (Kd.R_reads' HO314.out).2.1); rintro e w27 ⟨rfl, hb⟩; refine ⟨_, rfl, ?_⟩; replace HO314 := A_.mk (Kd.R_below HO314.out hb); replace BK305 := A_.mk (blk_below BK305.out hb); replace HB := A_.mk (below_step HB.out hb); (try clear hb); have hcz28_0 : w27.cell? ⟨gb305, 0, none⟩ = some (.int .i64 a0_0) := (blk_cell BK305.out 0).trans rfl; have hcz28_1 : w27.cell? ⟨gb305, 1, none⟩ = some (.bool a0_1) := (blk_cell BK305.out 1).trans rfl; have hcz28_2 : w27.cell? ⟨gb305, 2, none⟩ = some (.slice (some ad309) l0_2.length c0_2) := (blk_cell BK305.out 2).trans rfl; have hfz28_0 := blk_frozen BK305.out 0; have hfz28_1 := blk_frozen BK305.out 1; have hfz28_2 := blk_frozen BK305.out 2; have p316 : 0 ≤ ((ji11) : Int) := of_decide_eq_true (by (with_reducible assumption)); have q316 : (ji11) < (l0_2.length : Int) := of_decide_eq_true (by (with_reducible assumption)); obtain ⟨ad316, e316, hx316_0⟩ := Kd.at_int HR0_2.out (ji11) p316 q316; obtain rfl : ad309 = ad316 := (by injection e316); replace hx316_0 := (HB.out.cell (World.block_lt_of_cell? w _ hx316_0)).trans hx316_0; replace p316 := eq_true p316; replace q316 := eq_true q316))
           (go_roundg k1)
           case measure => have := HK1.out; omega
           case rel => exact ⟨(wrap64 (x8_1 + 1)), (by rfl), H', ⟨by have := HK1.out; omega⟩, ⟨by (with_reducible repeat (refine blk_drewN ?_ _)); exact BK305.out⟩, ⟨by repeat ((with_reducible (exact HB.out)))⟩⟩
         ·rw [if_neg c13] at H
          exact absurd H (by simp)
        ·rw [if_neg c12] at H
         exact absurd H (by simp)
       ·rw [if_neg c10] at H
        have c10b0 : decide (0 < x8_1) = false := decide_eq_false c10
        clear c10
        have H' := A_.mk H
        clear H
        have p309 : 0 ≤ (x8_1 : Int) := of_decide_eq_true (by (with_reducible assumption))
        have q309 : x8_1 < (l0_2.length : Int) := of_decide_eq_true (by (with_reducible assumption))
        obtain ⟨ad309, e309, hx309_0⟩ := Kd.at_int HR0_2.out x8_1 p309 q309
        cases e309
        replace hx309_0 := (HB.out.cell (World.block_lt_of_cell? w _ hx309_0)).trans hx309_0
        replace p309 := eq_true p309
        replace q309 := eq_true q309
        have hcz29_0 : wr.cell? ⟨gb305, 0, none⟩ = some (.int .i64 a0_0) := (blk_cell BK305.out 0).trans rfl
        have hcz29_1 : wr.cell? ⟨gb305, 1, none⟩ = some (.bool a0_1) := (blk_cell BK305.out 1).trans rfl
        have hcz29_2 : wr.cell? ⟨gb305, 2, none⟩ = some (.slice (some ad309) l0_2.length c0_2) := (blk_cell BK305.out 2).trans rfl
        have hfz29_0 := blk_frozen BK305.out 0
        have hfz29_1 := blk_frozen BK305.out 1
        have hfz29_2 := blk_frozen BK305.out 2
        go_wp2_with (first | ((with_reducible refine gate_callee (f := 37) rfl ?_); refine goesL_ (some 14) rfl rfl Tryd.func37 (by kernel_rfl) rfl #[.agg #[.int .i64 a0_0, .bool a0_1, .slice (some ad309) l0_2.length c0_2]] rfl (by (try simp only [List.map_toArray, List.map_cons, List.map_nil]); (rfl)) ?_; (with_reducible refine (impl_Row_bench.calls a0_0 a0_1 _ _ l0_2 t310 t311 _ ?side1 ?side2 A7.out).mono ?_); (case side1 => repeat (exact (Kd.C_below HR0_2.out HB.out))); (case side2 => exact HC0_2.out); rintro e w30 ⟨rfl, hb⟩; refine ⟨_, rfl, ?_⟩; replace BK305 := A_.mk (blk_below BK305.out hb); replace HB := A_.mk (below_step HB.out hb); (try clear hb)) | ((with_reducible refine gate_dst (N := 16) rfl ?_); refine Kd.R_lit (Kd.int .i64) _ 3 ?hg (N := 16) ?hd (xs := ([rd l0_2 x8_1] : List Int)) (inner := [.int .i64 (rd l0_2 x8_1)]) (ok := fun _ => True) (okp := fun _ => True) ?hr ?hp (fun _ hk => hk) trivial (Below.refl _ _) (Nat.le_refl _) (by simp) ?_; (case hd => rfl); (case hg => rfl); (case hr => (go_simp; done)); (case hp => exact (Reps.one (show Kd.M (Kd.int .i64) _ _ _ (rd l0_2 x8_1) [.int .i64 (rd l0_2 x8_1)] from rfl) (Reps.none _ _))); intro v313 w31 ho32 hb hg_ hnew_; clear hg_ hnew_; (rw [← Ny312.out] at ho32); have HO314 := A_.mk (Kd.R_lower ho32 (below_size HB.out)); replace BK305 := A_.mk (blk_below BK305.out hb); replace HB := A_.mk (below_step HB.out hb); clear hb ho32; obtain ⟨Ao33, co33, eo33⟩ := Kd.R_slice HO314.out; subst eo33) | ((with_reducible refine gate_callee (f := 47) rfl ?_); refine goesL_ (some 17) rfl rfl Tryd.func47 (by kernel_rfl) rfl #[.agg #[.int .i64 t310, .bool t311], .slice Ao33 y312.length co33] rfl (by (try simp only [List.map_toArray, List.map_cons, List.map_nil]); (rfl)) ?_; (with_reducible refine (impl_bench_has.calls k1 t310 t311 _ _ y312 true _ ?side1 ?side2 A8.out).mono ?_); (case side1 => repeat (exact (Kd.R_reads' HO314.out).2.2)); (case side2 => exact (Kd.R_reads' HO314.out).2.1); rintro e w34 ⟨rfl, hb⟩; refine ⟨_, rfl, ?_⟩; replace HO314 := A_.mk (Kd.R_below HO314.out hb); replace BK305 := A_.mk (blk_below BK305.out hb); replace HB := A_.mk (below_step HB.out hb); (try clear hb)))
        go_roundg k1
        case measure => have := HK1.out; omega
        case rel => exact ⟨(wrap64 (x8_1 + 1)), (by rfl), H', ⟨by have := HK1.out; omega⟩, ⟨by (with_reducible repeat (refine blk_drewN ?_ _)); exact BK305.out⟩, ⟨by repeat ((with_reducible (exact HB.out)))⟩⟩
      ·replace c9 := Bool.eq_false_iff.mpr c9
       subst c9
       have H1 : (some false) = some r := by rw [if_neg (show ¬ (false = true) by decide)] at H; exact H
       clear H
       have H := H1
       clear H1
       obtain rfl := Option.some.inj H
       have p309 : 0 ≤ (x8_1 : Int) := of_decide_eq_true (by (with_reducible assumption))
       have q309 : x8_1 < (l0_2.length : Int) := of_decide_eq_true (by (with_reducible assumption))
       obtain ⟨ad309, e309, hx309_0⟩ := Kd.at_int HR0_2.out x8_1 p309 q309
       cases e309
       replace hx309_0 := (HB.out.cell (World.block_lt_of_cell? w _ hx309_0)).trans hx309_0
       replace p309 := eq_true p309
       replace q309 := eq_true q309
       have hcz35_0 : wr.cell? ⟨gb305, 0, none⟩ = some (.int .i64 a0_0) := (blk_cell BK305.out 0).trans rfl
       have hcz35_1 : wr.cell? ⟨gb305, 1, none⟩ = some (.bool a0_1) := (blk_cell BK305.out 1).trans rfl
       have hcz35_2 : wr.cell? ⟨gb305, 2, none⟩ = some (.slice (some ad309) l0_2.length c0_2) := (blk_cell BK305.out 2).trans rfl
       have hfz35_0 := blk_frozen BK305.out 0
       have hfz35_1 := blk_frozen BK305.out 1
       have hfz35_2 := blk_frozen BK305.out 2
       go_wp2_with (first | ((with_reducible refine gate_callee (f := 37) rfl ?_); refine goesL_ (some 14) rfl rfl Tryd.func37 (by kernel_rfl) rfl #[.agg #[.int .i64 a0_0, .bool a0_1, .slice (some ad309) l0_2.length c0_2]] rfl (by (try simp only [List.map_toArray, List.map_cons, List.map_nil]); (rfl)) ?_; (with_reducible refine (impl_Row_bench.calls a0_0 a0_1 _ _ l0_2 t310 t311 _ ?side1 ?side2 A7.out).mono ?_); (case side1 => repeat (exact (Kd.C_below HR0_2.out HB.out))); (case side2 => exact HC0_2.out); rintro e w36 ⟨rfl, hb⟩; refine ⟨_, rfl, ?_⟩; replace BK305 := A_.mk (blk_below BK305.out hb); replace HB := A_.mk (below_step HB.out hb); (try clear hb)) | ((with_reducible refine gate_dst (N := 16) rfl ?_); refine Kd.R_lit (Kd.int .i64) _ 3 ?hg (N := 16) ?hd (xs := ([rd l0_2 x8_1] : List Int)) (inner := [.int .i64 (rd l0_2 x8_1)]) (ok := fun _ => True) (okp := fun _ => True) ?hr ?hp (fun _ hk => hk) trivial (Below.refl _ _) (Nat.le_refl _) (by simp) ?_; (case hd => rfl); (case hg => rfl); (case hr => (go_simp; done)); (case hp => exact (Reps.one (show Kd.M (Kd.int .i64) _ _ _ (rd l0_2 x8_1) [.int .i64 (rd l0_2 x8_1)] from rfl) (Reps.none _ _))); intro v313 w37 ho38 hb hg_ hnew_; clear hg_ hnew_; (rw [← Ny312.out] at ho38); have HO314 := A_.mk (Kd.R_lower ho38 (below_size HB.out)); replace BK305 := A_.mk (blk_below BK305.out hb); replace HB := A_.mk (below_step HB.out hb); clear hb ho38; obtain ⟨Ao39, co39, eo39⟩ := Kd.R_slice HO314.out; subst eo39) | ((with_reducible refine gate_callee (f := 47) rfl ?_); refine goesL_ (some 17) rfl rfl Tryd.func47 (by kernel_rfl) rfl #[.agg #[.int .i64 t310, .bool t311], .slice Ao39 y312.length co39] rfl (by (try simp only [List.map_toArray, List.map_cons, List.map_nil]); (rfl)) ?_; (with_reducible refine (impl_bench_has.calls k1 t310 t311 _ _ y312 false _ ?side1 ?side2 A8.out).mono ?_); (case side1 => repeat (exact (Kd.R_reads' HO314.out).2.2)); (case side2 => exact (Kd.R_reads' HO314.out).2.1); rintro e w40 ⟨rfl, hb⟩; refine ⟨_, rfl, ?_⟩; replace HO314 := A_.mk (Kd.R_below HO314.out hb); replace BK305 := A_.mk (blk_below BK305.out hb); replace HB := A_.mk (below_step HB.out hb); (try clear hb)))
       go_ret
       exact ⟨by rfl, by repeat ((with_reducible (exact HB.out)))⟩
     ·rw [if_neg c6] at H
      exact absurd H (by simp)
    ·rw [if_neg c5] at H
     exact absurd H (by simp)
   ·rw [if_neg c4] at H
    have c4b0 : decide (x8_1 < (l0_2.length : Int)) = false := decide_eq_false c4
    clear c4
    replace H := Option.bind_eq_some_iff.mp H
    obtain ⟨⟨t306, t307⟩, A410, H⟩ := H
    replace H : ((impl_bench_valid.f t306 t307).bind fun t308 => (some t308)) = some r := H
    have A41 := A_.mk A410
    clear A410
    replace H := Option.bind_eq_some_iff.mp H
    obtain ⟨t308, A420, H⟩ := H
    replace H : (some t308) = some r := H
    have A42 := A_.mk A420
    clear A420
    obtain rfl := Option.some.inj H
    have hcz43_0 : wr.cell? ⟨gb305, 0, none⟩ = some (.int .i64 a0_0) := (blk_cell BK305.out 0).trans rfl
    have hcz43_1 : wr.cell? ⟨gb305, 1, none⟩ = some (.bool a0_1) := (blk_cell BK305.out 1).trans rfl
    have hcz43_2 : wr.cell? ⟨gb305, 2, none⟩ = some (.slice A0_2 l0_2.length c0_2) := (blk_cell BK305.out 2).trans rfl
    have hfz43_0 := blk_frozen BK305.out 0
    have hfz43_1 := blk_frozen BK305.out 1
    have hfz43_2 := blk_frozen BK305.out 2
    go_wp2_with (first | ((with_reducible refine gate_callee (f := 37) rfl ?_); refine goesL_ (some 35) rfl rfl Tryd.func37 (by kernel_rfl) rfl #[.agg #[.int .i64 a0_0, .bool a0_1, .slice A0_2 l0_2.length c0_2]] rfl (by (try simp only [List.map_toArray, List.map_cons, List.map_nil]); (rfl)) ?_; (with_reducible refine (impl_Row_bench.calls a0_0 a0_1 _ _ l0_2 t306 t307 _ ?side1 ?side2 A41.out).mono ?_); (case side1 => repeat (exact (Kd.C_below HR0_2.out HB.out))); (case side2 => exact HC0_2.out); rintro e w44 ⟨rfl, hb⟩; refine ⟨_, rfl, ?_⟩; replace BK305 := A_.mk (blk_below BK305.out hb); replace HB := A_.mk (below_step HB.out hb); (try clear hb)) | ((with_reducible refine gate_callee (f := 76) rfl ?_); refine goesL_ (some 36) rfl rfl Tryd.func76 (by kernel_rfl) rfl #[.agg #[.int .i64 t306, .bool t307]] rfl (by (try simp only [List.map_toArray, List.map_cons, List.map_nil]); (rfl)) ?_; (with_reducible refine (impl_bench_valid.calls t306 t307 t308 _ A42.out).mono ?_); rintro e w45 ⟨rfl, hb⟩; refine ⟨_, rfl, ?_⟩; replace BK305 := A_.mk (blk_below BK305.out hb); replace HB := A_.mk (below_step HB.out hb); (try clear hb)))
    go_ret
    exact ⟨by rfl, by repeat ((with_reducible (exact HB.out)))⟩

/-! ### impl_isFilled: function 36 -/
def impl_isFilled.f (k : Nat) (a0_0 : Int) (a0_1 : Bool) (l0_2 : List Int) : Option (Bool) := (impl_IsRow.f k a0_0 a0_1 l0_2).bind fun t318 => (if t318 = true then (some (decide (a0_0 ≤ 12))) else (some false))
theorem impl_isFilled.mono : ∀ a0 a1 a2 k, LeO (impl_isFilled.f k a0 a1 a2) (impl_isFilled.f (k + 1) a0 a1 a2) := by
 intro a0 a1 a2 k
 unfold impl_isFilled.f
 repeat' first
   | (with_reducible exact impl_IsRow.mono _ _ _ _)
   | (with_reducible exact LeO.refl _)
   | (with_reducible exact LeO.none _)
   | (with_reducible refine LeO.ite ?_ ?_)
   | (with_reducible refine LeO.bind ?_ (fun _ => ?_))
   | exact impl_IsRow.mono _ _ _ _
   | exact LeO.none _
   | refine LeO.ite ?_ ?_
   | refine LeO.bind ?_ (fun _ => ?_)
theorem impl_isFilled.calls (k : Nat) (a0_0 : Int) (a0_1 : Bool) (A0_2 : Option Addr) (c0_2 : Nat) (l0_2 : List Int) (r : Bool) (w : World) (hr0_2 : Kd.C (Kd.int .i64) w A0_2 l0_2.length l0_2) (hc0_2 : l0_2.length ≤ c0_2) (h : impl_isFilled.f k a0_0 a0_1 l0_2 = some r) :
  Calls Tryd.prog 36 #[.agg #[.int .i64 a0_0, .bool a0_1, .slice A0_2 l0_2.length c0_2]] w fun e w' => e = .returned (.bool r) ∧ Below w.heap.size w w' := by
 have hu29 := Tryd.underlying29
 have HR0_2 := A_.mk hr0_2
 have HC0_2 := A_.mk hc0_2
 clear hr0_2 hc0_2
 have HB := A_.mk (Below.refl w.heap.size w)
 have H : ((impl_IsRow.f k a0_0 a0_1 l0_2).bind fun t318 => (if t318 = true then (some (decide (a0_0 ≤ 12))) else (some false))) = some r := h
 clear h
 replace H := Option.bind_eq_some_iff.mp H
 obtain ⟨t318, A20, H⟩ := H
 replace H : (if t318 = true then (some (decide (a0_0 ≤ 12))) else (some false)) = some r := H
 have A2 := A_.mk A20
 clear A20
 by_cases c3 : t318 = true
 ·subst c3
  have H1 : (some (decide (a0_0 ≤ 12))) = some r := by rw [if_pos rfl] at H; exact H
  clear H
  have H := H1
  clear H1
  obtain rfl := Option.some.inj H
  go_enter Tryd.func36, Tryd.ntmps36
  go_wp2_with (first | ((with_reducible refine gate_dst (N := 1) rfl ?_); refine box_event ?hg (N := 1) ?hd (cs := #[.int .i64 a0_0, .bool a0_1, .slice A0_2 l0_2.length c0_2]) (t := 29) ?hr ?_; (case hd => rfl); (case hg => rfl); (case hr => (go_simp; done)); intro gb317 hg w4 hbox hb; have BK317 := A_.mk (hbox); have GW317 := A_.mk ((by rw [hg]; exact (below_size HB.out) : w.heap.size ≤ gb317)); have GE317 := A_.mk ((by rw [hg]; exact (below_size HB.out) : w.heap.size ≤ gb317)); replace HB := A_.mk (below_step HB.out hb); clear hb hbox hg; have hcz5_0 : w4.cell? ⟨gb317, 0, none⟩ = some (.int .i64 a0_0) := (blk_cell BK317.out 0).trans rfl; have hcz5_1 : w4.cell? ⟨gb317, 1, none⟩ = some (.bool a0_1) := (blk_cell BK317.out 1).trans rfl; have hcz5_2 : w4.cell? ⟨gb317, 2, none⟩ = some (.slice A0_2 l0_2.length c0_2) := (blk_cell BK317.out 2).trans rfl; have hfz5_0 := blk_frozen BK317.out 0; have hfz5_1 := blk_frozen BK317.out 1; have hfz5_2 := blk_frozen BK317.out 2) | ((with_reducible refine gate_callee (f := 62) rfl ?_); refine goesL_ (some 4) rfl rfl Tryd.func62 (by kernel_rfl) rfl #[.agg #[.int .i64 a0_0, .bool a0_1, .slice A0_2 l0_2.length c0_2]] rfl (by (try simp only [List.map_toArray, List.map_cons, List.map_nil]); (rfl)) ?_; (with_reducible refine (impl_IsRow.calls k a0_0 a0_1 _ _ l0_2 true _ ?side1 ?side2 A2.out).mono ?_); (case side1 => repeat (exact (Kd.C_below HR0_2.out HB.out))); (case side2 => exact HC0_2.out); rintro e w6 ⟨rfl, hb⟩; refine ⟨_, rfl, ?_⟩; replace BK317 := A_.mk (blk_below BK317.out hb); replace HB := A_.mk (below_step HB.out hb); (try clear hb); have hcz7_0 : w6.cell? ⟨gb317, 0, none⟩ = some (.int .i64 a0_0) := (blk_cell BK317.out 0).trans rfl; have hcz7_1 : w6.cell? ⟨gb317, 1, none⟩ = some (.bool a0_1) := (blk_cell BK317.out 1).trans rfl; have hcz7_2 : w6.cell? ⟨gb317, 2, none⟩ = some (.slice A0_2 l0_2.length c0_2) := (blk_cell BK317.out 2).trans rfl; have hfz7_0 := blk_frozen BK317.out 0; have hfz7_1 := blk_frozen BK317.out 1; have hfz7_2 := blk_frozen BK317.out 2))
  go_ret
  exact ⟨by rfl, by repeat ((with_reducible (exact HB.out)))⟩
 ·replace c3 := Bool.eq_false_iff.mpr c3
  subst c3
  have H1 : (some false) = some r := by rw [if_neg (show ¬ (false = true) by decide)] at H; exact H
  clear H
  have H := H1
  clear H1
  obtain rfl := Option.some.inj H
  go_enter Tryd.func36, Tryd.ntmps36
  go_wp2_with (first | ((with_reducible refine gate_dst (N := 1) rfl ?_); refine box_event ?hg (N := 1) ?hd (cs := #[.int .i64 a0_0, .bool a0_1, .slice A0_2 l0_2.length c0_2]) (t := 29) ?hr ?_; (case hd => rfl); (case hg => rfl); (case hr => (go_simp; done)); intro gb317 hg w8 hbox hb; have BK317 := A_.mk (hbox); have GW317 := A_.mk ((by rw [hg]; exact (below_size HB.out) : w.heap.size ≤ gb317)); have GE317 := A_.mk ((by rw [hg]; exact (below_size HB.out) : w.heap.size ≤ gb317)); replace HB := A_.mk (below_step HB.out hb); clear hb hbox hg; have hcz9_0 : w8.cell? ⟨gb317, 0, none⟩ = some (.int .i64 a0_0) := (blk_cell BK317.out 0).trans rfl; have hcz9_1 : w8.cell? ⟨gb317, 1, none⟩ = some (.bool a0_1) := (blk_cell BK317.out 1).trans rfl; have hcz9_2 : w8.cell? ⟨gb317, 2, none⟩ = some (.slice A0_2 l0_2.length c0_2) := (blk_cell BK317.out 2).trans rfl; have hfz9_0 := blk_frozen BK317.out 0; have hfz9_1 := blk_frozen BK317.out 1; have hfz9_2 := blk_frozen BK317.out 2) | ((with_reducible refine gate_callee (f := 62) rfl ?_); refine goesL_ (some 4) rfl rfl Tryd.func62 (by kernel_rfl) rfl #[.agg #[.int .i64 a0_0, .bool a0_1, .slice A0_2 l0_2.length c0_2]] rfl (by (try simp only [List.map_toArray, List.map_cons, List.map_nil]); (rfl)) ?_; (with_reducible refine (impl_IsRow.calls k a0_0 a0_1 _ _ l0_2 false _ ?side1 ?side2 A2.out).mono ?_); (case side1 => repeat (exact (Kd.C_below HR0_2.out HB.out))); (case side2 => exact HC0_2.out); rintro e w10 ⟨rfl, hb⟩; refine ⟨_, rfl, ?_⟩; replace BK317 := A_.mk (blk_below BK317.out hb); replace HB := A_.mk (below_step HB.out hb); (try clear hb)))
  go_ret
  exact ⟨by rfl, by repeat ((with_reducible (exact HB.out)))⟩

/-! ### impl_areFilled: function 28 -/
def impl_areFilled.f (k : Nat) (a0_0 : Int) (a0_1 : Bool) (l0_2 : List Int) (a1_0 : Int) (a1_1 : Bool) (l1_2 : List Int) : Option (Bool) := (impl_isFilled.f k a0_0 a0_1 l0_2).bind fun t321 => (if t321 = true then ((impl_isFilled.f k a1_0 a1_1 l1_2).bind fun t322 => (if t322 = true then ((impl_Row_bench.f a0_0 a0_1 l0_2).bind fun bt323 => ((impl_Row_bench.f a1_0 a1_1 l1_2).bind fun bt325 => (some (bt323.1 == bt325.1 && (bt323.2 == bt325.2))))) else (some false))) else (some false))
theorem impl_areFilled.mono : ∀ a0 a1 a2 a3 a4 a5 k, LeO (impl_areFilled.f k a0 a1 a2 a3 a4 a5) (impl_areFilled.f (k + 1) a0 a1 a2 a3 a4 a5) := by
 intro a0 a1 a2 a3 a4 a5 k
 unfold impl_areFilled.f
 repeat' first
   | (with_reducible exact impl_isFilled.mono _ _ _ _)
   | (with_reducible exact LeO.refl _)
   | (with_reducible exact LeO.none _)
   | (with_reducible refine LeO.ite ?_ ?_)
   | (with_reducible refine LeO.bind ?_ (fun _ => ?_))
   | exact impl_isFilled.mono _ _ _ _
   | exact LeO.none _
   | refine LeO.ite ?_ ?_
   | refine LeO.bind ?_ (fun _ => ?_)
def impl_areFilled.T1 : Bool × List (List Nat × List Nat) := (true, [([], []), ([0], [0]), ([1, 1], [1]), ([2], [2]), ([3, 2, 2], [2, 3]), ([2, 4], [2, 4]), ([5, 4], [5]), ([6], [6]), ([7, 6, 6], [6, 7]), ([6], [6]), ([9, 8, 6], [6, 9]), ([8, 10, 6], [6, 8, 10]), ([6, 11], [6, 11]), ([12, 10, 0, 1, 2, 3, 4, 5, 6, 7, 8, 9, 10, 11, 12], [12])])
def impl_areFilled.B1 : List Nat := [0, 1, 3, 7, 15, 31, 63, 127, 255, 127, 1023, 2047, 4095, 8191]
theorem impl_areFilled.tab1 : rtab .any (opsOf Tryd.f28 1) = impl_areFilled.T1 := by kernel_rfl
theorem impl_areFilled.bits1 : waitsOk impl_areFilled.T1.2 impl_areFilled.B1 = true := by kernel_rfl
theorem impl_areFilled.calls (k : Nat) (a0_0 : Int) (a0_1 : Bool) (A0_2 : Option Addr) (c0_2 : Nat) (l0_2 : List Int) (a1_0 : Int) (a1_1 : Bool) (A1_2 : Option Addr) (c1_2 : Nat) (l1_2 : List Int) (r : Bool) (w : World) (hr0_2 : Kd.C (Kd.int .i64) w A0_2 l0_2.length l0_2) (hc0_2 : l0_2.length ≤ c0_2) (hr1_2 : Kd.C (Kd.int .i64) w A1_2 l1_2.length l1_2) (hc1_2 : l1_2.length ≤ c1_2) (h : impl_areFilled.f k a0_0 a0_1 l0_2 a1_0 a1_1 l1_2 = some r) :
  Calls Tryd.prog 28 #[.agg #[.int .i64 a0_0, .bool a0_1, .slice A0_2 l0_2.length c0_2], .agg #[.int .i64 a1_0, .bool a1_1, .slice A1_2 l1_2.length c1_2]] w fun e w' => e = .returned (.bool r) ∧ Below w.heap.size w w' := by
 have hu29 := Tryd.underlying29
 have HR0_2 := A_.mk hr0_2
 have HC0_2 := A_.mk hc0_2
 clear hr0_2 hc0_2
 have HR1_2 := A_.mk hr1_2
 have HC1_2 := A_.mk hc1_2
 clear hr1_2 hc1_2
 have HB := A_.mk (Below.refl w.heap.size w)
 have H : ((impl_isFilled.f k a0_0 a0_1 l0_2).bind fun t321 => (if t321 = true then ((impl_isFilled.f k a1_0 a1_1 l1_2).bind fun t322 => (if t322 = true then ((impl_Row_bench.f a0_0 a0_1 l0_2).bind fun bt323 => ((impl_Row_bench.f a1_0 a1_1 l1_2).bind fun bt325 => (some (bt323.1 == bt325.1 && (bt323.2 == bt325.2))))) else (some false))) else (some false))) = some r := h
 clear h
 replace H := Option.bind_eq_some_iff.mp H
 obtain ⟨t321, A30, H⟩ := H
 replace H : (if t321 = true then ((impl_isFilled.f k a1_0 a1_1 l1_2).bind fun t322 => (if t322 = true then ((impl_Row_bench.f a0_0 a0_1 l0_2).bind fun bt323 => ((impl_Row_bench.f a1_0 a1_1 l1_2).bind fun bt325 => (some (bt323.1 == bt325.1 && (bt323.2 == bt325.2))))) else (some false))) else (some false)) = some r := H
 have A3 := A_.mk A30
 clear A30
 by_cases c4 : t321 = true
 ·subst c4
  have H1 : ((impl_isFilled.f k a1_0 a1_1 l1_2).bind fun t322 => (if t322 = true then ((impl_Row_bench.f a0_0 a0_1 l0_2).bind fun bt323 => ((impl_Row_bench.f a1_0 a1_1 l1_2).bind fun bt325 => (some (bt323.1 == bt325.1 && (bt323.2 == bt325.2))))) else (some false))) = some r := by rw [if_pos rfl] at H; exact H
  clear H
  have H := H1
  clear H1
  replace H := Option.bind_eq_some_iff.mp H
  obtain ⟨t322, A50, H⟩ := H
  replace H : (if t322 = true then ((impl_Row_bench.f a0_0 a0_1 l0_2).bind fun bt323 => ((impl_Row_bench.f a1_0 a1_1 l1_2).bind fun bt325 => (some (bt323.1 == bt325.1 && (bt323.2 == bt325.2))))) else (some false)) = some r := H
  have A5 := A_.mk A50
  clear A50
  by_cases c6 : t322 = true
  ·subst c6
   have H1 : ((impl_Row_bench.f a0_0 a0_1 l0_2).bind fun bt323 => ((impl_Row_bench.f a1_0 a1_1 l1_2).bind fun bt325 => (some (bt323.1 == bt325.1 && (bt323.2 == bt325.2))))) = some r := by rw [if_pos rfl] at H; exact H
   clear H
   have H := H1
   clear H1
   replace H := Option.bind_eq_some_iff.mp H
   obtain ⟨⟨t323, t324⟩, A70, H⟩ := H
   replace H : ((impl_Row_bench.f a1_0 a1_1 l1_2).bind fun bt325 => (some (t323 == bt325.1 && (t324 == bt325.2)))) = some r := H
   have A7 := A_.mk A70
   clear A70
   replace H := Option.bind_eq_some_iff.mp H
   obtain ⟨⟨t325, t326⟩, A80, H⟩ := H
   replace H : (some (t323 == t325 && (t324 == t326))) = some r := H
   have A8 := A_.mk A80
   clear A80
   obtain rfl := Option.some.inj H
   go_enter Tryd.func28, Tryd.ntmps28
   try go_wp2_with (first | ((with_reducible refine gate_dst (N := 2) rfl ?_); refine box_event ?hg (N := 2) ?hd (cs := #[.int .i64 a0_0, .bool a0_1, .slice A0_2 l0_2.length c0_2]) (t := 29) ?hr ?_; (case hd => rfl); (case hg => rfl); (case hr => (go_simp; done)); intro gb319 hg w9 hbox hb; have BK319 := A_.mk (hbox); have GW319 := A_.mk ((by rw [hg]; exact (below_size HB.out) : w.heap.size ≤ gb319)); have GE319 := A_.mk ((by rw [hg]; exact (below_size HB.out) : w.heap.size ≤ gb319)); replace HB := A_.mk (below_step HB.out hb); clear hb hbox hg) | ((with_reducible refine gate_dst (N := 3) rfl ?_); refine box_event ?hg (N := 3) ?hd (cs := #[.int .i64 a1_0, .bool a1_1, .slice A1_2 l1_2.length c1_2]) (t := 29) ?hr ?_; (case hd => rfl); (case hg => rfl); (case hr => (go_simp; done)); intro gb320 hg w10 hbox hb; have BK320 := A_.mk (hbox); have GW320 := A_.mk ((by rw [hg]; exact (below_size HB.out) : w.heap.size ≤ gb320)); have GE320 := A_.mk ((by rw [hg]; exact (below_size HB.out) : w.heap.size ≤ gb320)); replace HB := A_.mk (below_step HB.out hb); have NB319_320 := A_.mk ((by rw [hg]; exact Nat.ne_of_lt (blk_lt BK319.out) : gb319 ≠ gb320)); have NB320_319 := A_.mk ((by rw [hg]; exact Nat.ne_of_gt (blk_lt BK319.out) : gb320 ≠ gb319)); replace BK319 := A_.mk (blk_below BK319.out hb); clear hb hbox hg))
   replace BK319 := A_.mk (blk_drew BK319.out)
   replace BK320 := A_.mk (blk_drew BK320.out)
   replace HB := A_.mk (below_drew1 HB.out)
   refine start_ (n := 14) (S := fun w' => w'.cell? ⟨gb319, 0, none⟩ = some (.int .i64 a0_0) ∧ w'.cell? ⟨gb319, 1, none⟩ = some (.bool a0_1) ∧ w'.cell? ⟨gb319, 2, none⟩ = some (.slice A0_2 l0_2.length c0_2) ∧ w'.cell? ⟨gb320, 0, none⟩ = some (.int .i64 a1_0) ∧ w'.cell? ⟨gb320, 1, none⟩ = some (.bool a1_1) ∧ w'.cell? ⟨gb320, 2, none⟩ = some (.slice A1_2 l1_2.length c1_2)) (ds := []) (m_ 14 0) (by kernel_rfl) rfl rfl ⟨(blk_cell BK319.out 0).trans rfl, (blk_cell BK319.out 1).trans rfl, (blk_cell BK319.out 2).trans rfl, (blk_cell BK320.out 0).trans rfl, (blk_cell BK320.out 1).trans rfl, (blk_cell BK320.out 2).trans rfl⟩ (fun hHeld => ?_); refine with_tabW impl_areFilled.tab1 impl_areFilled.bits1 (fun HT_ HW_ => ?_)
   generalize w10.drew = w11 at BK319 BK320 HB hHeld ⊢
   refine take_ (i := 0) (N := some 5) (v := ?_) (a' := ?_) (m_ 14 1) rfl rfl (take_ofW HT_.out HW_.out (by kernel_rfl)) (fun _ _ _ h => h) (Or.inl ⟨by rfl, ?_⟩) hHeld ?_ ?_
   rotate_left
   ·rintro w' ⟨s0, s1, s2, s3, s4, s5⟩
    go_simp
    with_reducible rfl
   rotate_left
   ·simp only [Act.put, sI_, s0_, s1_, i64_w, i32_w]
    rfl
   refine one_ (i := 1) (N := some 6) (m_ 14 3) rfl rfl (one_of HT_.out (by kernel_rfl)) (by decide) (fun K hK => ?_)
   refine goes_ Tryd.func36 (by kernel_rfl) rfl #[.agg #[.int .i64 a0_0, .bool a0_1, .slice A0_2 l0_2.length c0_2]] (by rfl) rfl rfl (by (try simp only [List.map_toArray, List.map_cons, List.map_nil]); (rfl)) ?_
   with_reducible refine (impl_isFilled.calls k a0_0 a0_1 _ _ l0_2 true _ ?side1 ?side2 A3.out).mono ?_
   (case side1 => repeat (exact (Kd.C_below HR0_2.out HB.out)))
   (case side2 => exact HC0_2.out)
   rintro e w12 ⟨rfl, hb⟩
   refine ⟨_, rfl, ?_⟩
   replace BK319 := A_.mk (blk_below BK319.out hb)
   replace BK320 := A_.mk (blk_below BK320.out hb)
   replace HB := A_.mk (below_step HB.out hb)
   (try clear hb)
   skip
   skip
   skip
   refine hK.out _ _ ⟨(blk_cell BK319.out 0).trans rfl, (blk_cell BK319.out 1).trans rfl, (blk_cell BK319.out 2).trans rfl, (blk_cell BK320.out 0).trans rfl, (blk_cell BK320.out 1).trans rfl, (blk_cell BK320.out 2).trans rfl⟩ (fun hHeld => ?_)
   clear hK K
   refine norm_ (a' := ?_) ?_ ?_
   rotate_left
   ·show Act.put _ (some 6) _ = _
    simp only [Act.put, sI_, s0_, s1_, i64_w, i32_w]
    rfl
   refine pure_ (i := 2) (N := some 7) (v := ?_) (a' := ?_) (m_ 14 7) rfl rfl (any_of HT_.out (by kernel_rfl)) (fun _ _ _ h => h) (Or.inl ⟨by rfl, ?_⟩) ?_ ?_
   rotate_left
   ·intro w'
    go_simp
    with_reducible rfl
   rotate_left
   ·simp only [Act.put, sI_, s0_, s1_, i64_w, i32_w]
    rfl
   refine take_ (i := 3) (N := some 8) (v := ?_) (a' := ?_) (m_ 14 15) rfl rfl (take_ofW HT_.out HW_.out (by kernel_rfl)) (fun _ _ _ h => h) (Or.inl ⟨by rfl, ?_⟩) hHeld ?_ ?_
   rotate_left
   ·rintro w' ⟨s0, s1, s2, s3, s4, s5⟩
    go_simp
    with_reducible rfl
   rotate_left
   ·simp only [Act.put, sI_, s0_, s1_, i64_w, i32_w]
    rfl
   refine one_ (i := 4) (N := some 9) (m_ 14 31) rfl rfl (one_of HT_.out (by kernel_rfl)) (by decide) (fun K hK => ?_)
   refine goes_ Tryd.func36 (by kernel_rfl) rfl #[.agg #[.int .i64 a1_0, .bool a1_1, .slice A1_2 l1_2.length c1_2]] (by rfl) rfl rfl (by (try simp only [List.map_toArray, List.map_cons, List.map_nil]); (rfl)) ?_
   with_reducible refine (impl_isFilled.calls k a1_0 a1_1 _ _ l1_2 true _ ?side1 ?side2 A5.out).mono ?_
   (case side1 => repeat (exact (Kd.C_below HR1_2.out HB.out)))
   (case side2 => exact HC1_2.out)
   rintro e w13 ⟨rfl, hb⟩
   refine ⟨_, rfl, ?_⟩
   replace BK319 := A_.mk (blk_below BK319.out hb)
   replace BK320 := A_.mk (blk_below BK320.out hb)
   replace HB := A_.mk (below_step HB.out hb)
   (try clear hb)
   skip
   skip
   skip
   refine hK.out _ _ ⟨(blk_cell BK319.out 0).trans rfl, (blk_cell BK319.out 1).trans rfl, (blk_cell BK319.out 2).trans rfl, (blk_cell BK320.out 0).trans rfl, (blk_cell BK320.out 1).trans rfl, (blk_cell BK320.out 2).trans rfl⟩ (fun hHeld => ?_)
   clear hK K
   refine norm_ (a' := ?_) ?_ ?_
   rotate_left
   ·show Act.put _ (some 9) _ = _
    simp only [Act.put, sI_, s0_, s1_, i64_w, i32_w]
    rfl
   refine pure_ (i := 5) (N := some 10) (v := ?_) (a' := ?_) (m_ 14 63) rfl rfl (any_of HT_.out (by kernel_rfl)) (fun _ _ _ h => h) (Or.inl ⟨by rfl, ?_⟩) ?_ ?_
   rotate_left
   ·intro w'
    go_simp
    with_reducible rfl
   rotate_left
   ·simp only [Act.put, sI_, s0_, s1_, i64_w, i32_w]
    rfl
   refine pure_ (i := 6) (N := some 11) (v := ?_) (a' := ?_) (m_ 14 127) rfl rfl (any_of HT_.out (by kernel_rfl)) (fun _ _ _ h => h) (Or.inl ⟨by rfl, ?_⟩) ?_ ?_
   rotate_left
   ·intro w'
    go_simp
    with_reducible rfl
   rotate_left
   ·simp only [Act.put, sI_, s0_, s1_, i64_w, i32_w]
    rfl
   refine take_ (i := 7) (N := some 12) (v := ?_) (a' := ?_) (m_ 14 255) rfl rfl (take_ofW HT_.out HW_.out (by kernel_rfl)) (fun _ _ _ h => h) (Or.inl ⟨by rfl, ?_⟩) hHeld ?_ ?_
   rotate_left
   ·rintro w' ⟨s0, s1, s2, s3, s4, s5⟩
    go_simp
    with_reducible rfl
   rotate_left
   ·simp only [Act.put, sI_, s0_, s1_, i64_w, i32_w]
    rfl
   refine take_ (i := 9) (N := some 14) (v := ?_) (a' := ?_) (m_ 14 767) rfl rfl (take_ofW HT_.out HW_.out (by kernel_rfl)) (fun _ _ _ h => h) (Or.inl ⟨by rfl, ?_⟩) hHeld ?_ ?_
   rotate_left
   ·rintro w' ⟨s0, s1, s2, s3, s4, s5⟩
    go_simp
    with_reducible rfl
   rotate_left
   ·simp only [Act.put, sI_, s0_, s1_, i64_w, i32_w]
    rfl
   refine one_ (i := 8) (N := some 13) (m_ 14 1023) rfl rfl (one_of HT_.out (by kernel_rfl)) (by decide) (fun K hK => ?_)
   refine goes_ Tryd.func37 (by kernel_rfl) rfl #[.agg #[.int .i64 a0_0, .bool a0_1, .slice A0_2 l0_2.length c0_2]] (by rfl) rfl rfl (by (try simp only [List.map_toArray, List.map_cons, List.map_nil]); (rfl)) ?_
   with_reducible refine (impl_Row_bench.calls a0_0 a0_1 _ _ l0_2 t323 t324 _ ?side1 ?side2 A7.out).mono ?_
   (case side1 => repeat (exact (Kd.C_below HR0_2.out HB.out)))
   (case side2 => exact HC0_2.out)
   rintro e w14 ⟨rfl, hb⟩
   refine ⟨_, rfl, ?_⟩
   replace BK319 := A_.mk (blk_below BK319.out hb)
   replace BK320 := A_.mk (blk_below BK320.out hb)
   replace HB := A_.mk (below_step HB.out hb)
   (try clear hb)
   skip
   skip
   skip
   refine hK.out _ _ ⟨(blk_cell BK319.out 0).trans rfl, (blk_cell BK319.out 1).trans rfl, (blk_cell BK319.out 2).trans rfl, (blk_cell BK320.out 0).trans rfl, (blk_cell BK320.out 1).trans rfl, (blk_cell BK320.out 2).trans rfl⟩ (fun hHeld => ?_)
   clear hK K
   refine norm_ (a' := ?_) ?_ ?_
   rotate_left
   ·show Act.put _ (some 13) _ = _
    simp only [Act.put, sI_, s0_, s1_, i64_w, i32_w]
    rfl
   refine one_ (i := 10) (N := some 15) (m_ 14 2047) rfl rfl (one_of HT_.out (by kernel_rfl)) (by decide) (fun K hK => ?_)
   refine goes_ Tryd.func37 (by kernel_rfl) rfl #[.agg #[.int .i64 a1_0, .bool a1_1, .slice A1_2 l1_2.length c1_2]] (by rfl) rfl rfl (by (try simp only [List.map_toArray, List.map_cons, List.map_nil]); (rfl)) ?_
   with_reducible refine (impl_Row_bench.calls a1_0 a1_1 _ _ l1_2 t325 t326 _ ?side1 ?side2 A8.out).mono ?_
   (case side1 => repeat (exact (Kd.C_below HR1_2.out HB.out)))
   (case side2 => exact HC1_2.out)
   rintro e w15 ⟨rfl, hb⟩
   refine ⟨_, rfl, ?_⟩
   replace BK319 := A_.mk (blk_below BK319.out hb)
   replace BK320 := A_.mk (blk_below BK320.out hb)
   replace HB := A_.mk (below_step HB.out hb)
   (try clear hb)
   skip
   skip
   skip
   refine hK.out _ _ ⟨(blk_cell BK319.out 0).trans rfl, (blk_cell BK319.out 1).trans rfl, (blk_cell BK319.out 2).trans rfl, (blk_cell BK320.out 0).trans rfl, (blk_cell BK320.out 1).trans rfl, (blk_cell BK320.out 2).trans rfl⟩ (fun hHeld => ?_)
   clear hK K
   refine norm_ (a' := ?_) ?_ ?_
   rotate_left
   ·show Act.put _ (some 15) _ = _
    simp only [Act.put, sI_, s0_, s1_, i64_w, i32_w]
    rfl
   refine pure_ (i := 11) (N := some 16) (v := ?_) (a' := ?_) (m_ 14 4095) rfl rfl (any_of HT_.out (by kernel_rfl)) (fun _ _ _ h => h) (Or.inl ⟨by rfl, ?_⟩) ?_ ?_
   rotate_left
   ·intro w'
    go_simp
    with_reducible rfl
   rotate_left
   ·simp only [Act.put, sI_, s0_, s1_, i64_w, i32_w]
    rfl
   refine pure_ (i := 12) (N := some 17) (v := ?_) (a' := ?_) (m_ 14 8191) rfl rfl (any_of HT_.out (by kernel_rfl)) (fun _ _ _ h => h) (Or.inl ⟨by rfl, ?_⟩) ?_ ?_
   rotate_left
   ·intro w'
    go_simp
    with_reducible rfl
   rotate_left
   ·simp only [Act.put, sI_, s0_, s1_, i64_w, i32_w]
    rfl
   refine pure_ (i := 13) (N := some 4) (v := ?_) (a' := ?_) (m_ 14 16383) rfl rfl (any_of HT_.out (by kernel_rfl)) (fun _ _ _ h => h) (Or.inl ⟨by rfl, ?_⟩) ?_ ?_
   rotate_left
   ·intro w'
    go_simp
    with_reducible rfl
   rotate_left
   ·simp only [Act.put, sI_, s0_, s1_, i64_w, i32_w]
    rfl
   refine done_ (done_of HT_.out (by kernel_rfl)) ?_
   try go_wp2
   go_ret
   exact ⟨by rfl, by repeat ((with_reducible (exact HB.out)))⟩
  ·replace c6 := Bool.eq_false_iff.mpr c6
   subst c6
   have H1 : (some false) = some r := by rw [if_neg (show ¬ (false = true) by decide)] at H; exact H
   clear H
   have H := H1
   clear H1
   obtain rfl := Option.some.inj H
   go_enter Tryd.func28, Tryd.ntmps28
   try go_wp2_with (first | ((with_reducible refine gate_dst (N := 2) rfl ?_); refine box_event ?hg (N := 2) ?hd (cs := #[.int .i64 a0_0, .bool a0_1, .slice A0_2 l0_2.length c0_2]) (t := 29) ?hr ?_; (case hd => rfl); (case hg => rfl); (case hr => (go_simp; done)); intro gb319 hg w16 hbox hb; have BK319 := A_.mk (hbox); have GW319 := A_.mk ((by rw [hg]; exact (below_size HB.out) : w.heap.size ≤ gb319)); have GE319 := A_.mk ((by rw [hg]; exact (below_size HB.out) : w.heap.size ≤ gb319)); replace HB := A_.mk (below_step HB.out hb); clear hb hbox hg) | ((with_reducible refine gate_dst (N := 3) rfl ?_); refine box_event ?hg (N := 3) ?hd (cs := #[.int .i64 a1_0, .bool a1_1, .slice A1_2 l1_2.length c1_2]) (t := 29) ?hr ?_; (case hd => rfl); (case hg => rfl); (case hr => (go_simp; done)); intro gb320 hg w17 hbox hb; have BK320 := A_.mk (hbox); have GW320 := A_.mk ((by rw [hg]; exact (below_size HB.out) : w.heap.size ≤ gb320)); have GE320 := A_.mk ((by rw [hg]; exact (below_size HB.out) : w.heap.size ≤ gb320)); replace HB := A_.mk (below_step HB.out hb); have NB319_320 := A_.mk ((by rw [hg]; exact Nat.ne_of_lt (blk_lt BK319.out) : gb319 ≠ gb320)); have NB320_319 := A_.mk ((by rw [hg]; exact Nat.ne_of_gt (blk_lt BK319.out) : gb320 ≠ gb319)); replace BK319 := A_.mk (blk_below BK319.out hb); clear hb hbox hg))
   replace BK319 := A_.mk (blk_drew BK319.out)
   replace BK320 := A_.mk (blk_drew BK320.out)
   replace HB := A_.mk (below_drew1 HB.out)
   refine start_ (n := 14) (S := fun w' => w'.cell? ⟨gb319, 0, none⟩ = some (.int .i64 a0_0) ∧ w'.cell? ⟨gb319, 1, none⟩ = some (.bool a0_1) ∧ w'.cell? ⟨gb319, 2, none⟩ = some (.slice A0_2 l0_2.length c0_2) ∧ w'.cell? ⟨gb320, 0, none⟩ = some (.int .i64 a1_0) ∧ w'.cell? ⟨gb320, 1, none⟩ = some (.bool a1_1) ∧ w'.cell? ⟨gb320, 2, none⟩ = some (.slice A1_2 l1_2.length c1_2)) (ds := []) (m_ 14 0) (by kernel_rfl) rfl rfl ⟨(blk_cell BK319.out 0).trans rfl, (blk_cell BK319.out 1).trans rfl, (blk_cell BK319.out 2).trans rfl, (blk_cell BK320.out 0).trans rfl, (blk_cell BK320.out 1).trans rfl, (blk_cell BK320.out 2).trans rfl⟩ (fun hHeld => ?_); refine with_tabW impl_areFilled.tab1 impl_areFilled.bits1 (fun HT_ HW_ => ?_)
   generalize w17.drew = w18 at BK319 BK320 HB hHeld ⊢
   refine take_ (i := 0) (N := some 5) (v := ?_) (a' := ?_) (m_ 14 1) rfl rfl (take_ofW HT_.out HW_.out (by kernel_rfl)) (fun _ _ _ h => h) (Or.inl ⟨by rfl, ?_⟩) hHeld ?_ ?_
   rotate_left
   ·rintro w' ⟨s0, s1, s2, s3, s4, s5⟩
    go_simp
    with_reducible rfl
   rotate_left
   ·simp only [Act.put, sI_, s0_, s1_, i64_w, i32_w]
    rfl
   refine one_ (i := 1) (N := some 6) (m_ 14 3) rfl rfl (one_of HT_.out (by kernel_rfl)) (by decide) (fun K hK => ?_)
   refine goes_ Tryd.func36 (by kernel_rfl) rfl #[.agg #[.int .i64 a0_0, .bool a0_1, .slice A0_2 l0_2.length c0_2]] (by rfl) rfl rfl (by (try simp only [List.map_toArray, List.map_cons, List.map_nil]); (rfl)) ?_
   with_reducible refine (impl_isFilled.calls k a0_0 a0_1 _ _ l0_2 true _ ?side1 ?side2 A3.out).mono ?_
   (case side1 => repeat (exact (Kd.C_below HR0_2.out HB.out)))
   (case side2 => exact HC0_2.out)
   rintro e w19 ⟨rfl, hb⟩
   refine ⟨_, rfl, ?_⟩
   replace BK319 := A_.mk (blk_below BK319.out hb)
   replace BK320 := A_.mk (blk_below BK320.out hb)
   replace HB := A_.mk (below_step HB.out hb)
   (try clear hb)
   skip
   skip
   skip
   refine hK.out _ _ ⟨(blk_cell BK319.out 0).trans rfl, (blk_cell BK319.out 1).trans rfl, (blk_cell BK319.out 2).trans rfl, (blk_cell BK320.out 0).trans rfl, (blk_cell BK320.out 1).trans rfl, (blk_cell BK320.out 2).trans rfl⟩ (fun hHeld => ?_)
   clear hK K
   refine norm_ (a' := ?_) ?_ ?_
   rotate_left
   ·show Act.put _ (some 6) _ = _
    simp only [Act.put, sI_, s0_, s1_, i64_w, i32_w]
    rfl
   refine pure_ (i := 2) (N := some 7) (v := ?_) (a' := ?_) (m_ 14 7) rfl rfl (any_of HT_.out (by kernel_rfl)) (fun _ _ _ h => h) (Or.inl ⟨by rfl, ?_⟩) ?_ ?_
   rotate_left
   ·intro w'
    go_simp
    with_reducible rfl
   rotate_left
   ·simp only [Act.put, sI_, s0_, s1_, i64_w, i32_w]
    rfl
   refine take_ (i := 3) (N := some 8) (v := ?_) (a' := ?_) (m_ 14 15) rfl rfl (take_ofW HT_.out HW_.out (by kernel_rfl)) (fun _ _ _ h => h) (Or.inl ⟨by rfl, ?_⟩) hHeld ?_ ?_
   rotate_left
   ·rintro w' ⟨s0, s1, s2, s3, s4, s5⟩
    go_simp
    with_reducible rfl
   rotate_left
   ·simp only [Act.put, sI_, s0_, s1_, i64_w, i32_w]
    rfl
   refine one_ (i := 4) (N := some 9) (m_ 14 31) rfl rfl (one_of HT_.out (by kernel_rfl)) (by decide) (fun K hK => ?_)
   refine goes_ Tryd.func36 (by kernel_rfl) rfl #[.agg #[.int .i64 a1_0, .bool a1_1, .slice A1_2 l1_2.length c1_2]] (by rfl) rfl rfl (by (try simp only [List.map_toArray, List.map_cons, List.map_nil]); (rfl)) ?_
   with_reducible refine (impl_isFilled.calls k a1_0 a1_1 _ _ l1_2 false _ ?side1 ?side2 A5.out).mono ?_
   (case side1 => repeat (exact (Kd.C_below HR1_2.out HB.out)))
   (case side2 => exact HC1_2.out)
   rintro e w20 ⟨rfl, hb⟩
   refine ⟨_, rfl, ?_⟩
   replace BK319 := A_.mk (blk_below BK319.out hb)
   replace BK320 := A_.mk (blk_below BK320.out hb)
   replace HB := A_.mk (below_step HB.out hb)
   (try clear hb)
   skip
   skip
   skip
   refine hK.out _ _ ⟨(blk_cell BK319.out 0).trans rfl, (blk_cell BK319.out 1).trans rfl, (blk_cell BK319.out 2).trans rfl, (blk_cell BK320.out 0).trans rfl, (blk_cell BK320.out 1).trans rfl, (blk_cell BK320.out 2).trans rfl⟩ (fun hHeld => ?_)
   clear hK K
   refine norm_ (a' := ?_) ?_ ?_
   rotate_left
   ·show Act.put _ (some 9) _ = _
    simp only [Act.put, sI_, s0_, s1_, i64_w, i32_w]
    rfl
   refine pure_ (i := 5) (N := some 10) (v := ?_) (a' := ?_) (m_ 14 63) rfl rfl (any_of HT_.out (by kernel_rfl)) (fun _ _ _ h => h) (Or.inl ⟨by rfl, ?_⟩) ?_ ?_
   rotate_left
   ·intro w'
    go_simp
    with_reducible rfl
   rotate_left
   ·simp only [Act.put, sI_, s0_, s1_, i64_w, i32_w]
    rfl
   refine pure_ (i := 6) (N := some 11) (v := ?_) (a' := ?_) (m_ 14 127) rfl rfl (any_of HT_.out (by kernel_rfl)) (fun _ _ _ h => h) (Or.inl ⟨by rfl, ?_⟩) ?_ ?_
   rotate_left
   ·intro w'
    go_simp
    with_reducible rfl
   rotate_left
   ·simp only [Act.put, sI_, s0_, s1_, i64_w, i32_w]
    rfl
   refine pure_ (i := 7) (N := some 12) (v := undef) (a' := ?_) (m_ 14 255) rfl rfl (any_of HT_.out (by kernel_rfl)) (fun _ _ _ h => h) (Or.inr ⟨by rfl, rfl⟩) ?_ ?_
   rotate_left
   ·simp only [Act.put, sI_, s0_, s1_, i64_w, i32_w]
    rfl
   refine pure_ (i := 8) (N := some 13) (v := undef) (a' := ?_) (m_ 14 511) rfl rfl (any_of HT_.out (by kernel_rfl)) (fun _ _ _ h => h) (Or.inr ⟨by rfl, rfl⟩) ?_ ?_
   rotate_left
   ·simp only [Act.put, sI_, s0_, s1_, i64_w, i32_w]
    rfl
   refine pure_ (i := 9) (N := some 14) (v := undef) (a' := ?_) (m_ 14 1023) rfl rfl (any_of HT_.out (by kernel_rfl)) (fun _ _ _ h => h) (Or.inr ⟨by rfl, rfl⟩) ?_ ?_
   rotate_left
   ·simp only [Act.put, sI_, s0_, s1_, i64_w, i32_w]
    rfl
   refine pure_ (i := 10) (N := some 15) (v := undef) (a' := ?_) (m_ 14 2047) rfl rfl (any_of HT_.out (by kernel_rfl)) (fun _ _ _ h => h) (Or.inr ⟨by rfl, rfl⟩) ?_ ?_
   rotate_left
   ·simp only [Act.put, sI_, s0_, s1_, i64_w, i32_w]
    rfl
   refine pure_ (i := 11) (N := some 16) (v := undef) (a' := ?_) (m_ 14 4095) rfl rfl (any_of HT_.out (by kernel_rfl)) (fun _ _ _ h => h) (Or.inr ⟨by rfl, rfl⟩) ?_ ?_
   rotate_left
   ·simp only [Act.put, sI_, s0_, s1_, i64_w, i32_w]
    rfl
   refine pure_ (i := 12) (N := some 17) (v := ?_) (a' := ?_) (m_ 14 8191) rfl rfl (any_of HT_.out (by kernel_rfl)) (fun _ _ _ h => h) (Or.inl ⟨by rfl, ?_⟩) ?_ ?_
   rotate_left
   ·intro w'
    go_simp
    with_reducible rfl
   rotate_left
   ·simp only [Act.put, sI_, s0_, s1_, i64_w, i32_w]
    rfl
   refine pure_ (i := 13) (N := some 4) (v := ?_) (a' := ?_) (m_ 14 16383) rfl rfl (any_of HT_.out (by kernel_rfl)) (fun _ _ _ h => h) (Or.inl ⟨by rfl, ?_⟩) ?_ ?_
   rotate_left
   ·intro w'
    go_simp
    with_reducible rfl
   rotate_left
   ·simp only [Act.put, sI_, s0_, s1_, i64_w, i32_w]
    rfl
   refine done_ (done_of HT_.out (by kernel_rfl)) ?_
   try go_wp2
   go_ret
   exact ⟨by rfl, by repeat ((with_reducible (exact HB.out)))⟩
 ·replace c4 := Bool.eq_false_iff.mpr c4
  subst c4
  have H1 : (some false) = some r := by rw [if_neg (show ¬ (false = true) by decide)] at H; exact H
  clear H
  have H := H1
  clear H1
  obtain rfl := Option.some.inj H
  go_enter Tryd.func28, Tryd.ntmps28
  try go_wp2_with (first | ((with_reducible refine gate_dst (N := 2) rfl ?_); refine box_event ?hg (N := 2) ?hd (cs := #[.int .i64 a0_0, .bool a0_1, .slice A0_2 l0_2.length c0_2]) (t := 29) ?hr ?_; (case hd => rfl); (case hg => rfl); (case hr => (go_simp; done)); intro gb319 hg w21 hbox hb; have BK319 := A_.mk (hbox); have GW319 := A_.mk ((by rw [hg]; exact (below_size HB.out) : w.heap.size ≤ gb319)); have GE319 := A_.mk ((by rw [hg]; exact (below_size HB.out) : w.heap.size ≤ gb319)); replace HB := A_.mk (below_step HB.out hb); clear hb hbox hg) | ((with_reducible refine gate_dst (N := 3) rfl ?_); refine box_event ?hg (N := 3) ?hd (cs := #[.int .i64 a1_0, .bool a1_1, .slice A1_2 l1_2.length c1_2]) (t := 29) ?hr ?_; (case hd => rfl); (case hg => rfl); (case hr => (go_simp; done)); intro gb320 hg w22 hbox hb; have BK320 := A_.mk (hbox); have GW320 := A_.mk ((by rw [hg]; exact (below_size HB.out) : w.heap.size ≤ gb320)); have GE320 := A_.mk ((by rw [hg]; exact (below_size HB.out) : w.heap.size ≤ gb320)); replace HB := A_.mk (below_step HB.out hb); have NB319_320 := A_.mk ((by rw [hg]; exact Nat.ne_of_lt (blk_lt BK319.out) : gb319 ≠ gb320)); have NB320_319 := A_.mk ((by rw [hg]; exact Nat.ne_of_gt (blk_lt BK319.out) : gb320 ≠ gb319)); replace BK319 := A_.mk (blk_below BK319.out hb); clear hb hbox hg))
  replace BK319 := A_.mk (blk_drew BK319.out)
  replace BK320 := A_.mk (blk_drew BK320.out)
  replace HB := A_.mk (below_drew1 HB.out)
  refine start_ (n := 14) (S := fun w' => w'.cell? ⟨gb319, 0, none⟩ = some (.int .i64 a0_0) ∧ w'.cell? ⟨gb319, 1, none⟩ = some (.bool a0_1) ∧ w'.cell? ⟨gb319, 2, none⟩ = some (.slice A0_2 l0_2.length c0_2)) (ds := []) (m_ 14 0) (by kernel_rfl) rfl rfl ⟨(blk_cell BK319.out 0).trans rfl, (blk_cell BK319.out 1).trans rfl, (blk_cell BK319.out 2).trans rfl⟩ (fun hHeld => ?_); refine with_tabW impl_areFilled.tab1 impl_areFilled.bits1 (fun HT_ HW_ => ?_)
  generalize w22.drew = w23 at BK319 BK320 HB hHeld ⊢
  refine take_ (i := 0) (N := some 5) (v := ?_) (a' := ?_) (m_ 14 1) rfl rfl (take_ofW HT_.out HW_.out (by kernel_rfl)) (fun _ _ _ h => h) (Or.inl ⟨by rfl, ?_⟩) hHeld ?_ ?_
  rotate_left
  ·rintro w' ⟨s0, s1, s2⟩
   go_simp
   with_reducible rfl
  rotate_left
  ·simp only [Act.put, sI_, s0_, s1_, i64_w, i32_w]
   rfl
  refine one_ (i := 1) (N := some 6) (m_ 14 3) rfl rfl (one_of HT_.out (by kernel_rfl)) (by decide) (fun K hK => ?_)
  refine goes_ Tryd.func36 (by kernel_rfl) rfl #[.agg #[.int .i64 a0_0, .bool a0_1, .slice A0_2 l0_2.length c0_2]] (by rfl) rfl rfl (by (try simp only [List.map_toArray, List.map_cons, List.map_nil]); (rfl)) ?_
  with_reducible refine (impl_isFilled.calls k a0_0 a0_1 _ _ l0_2 false _ ?side1 ?side2 A3.out).mono ?_
  (case side1 => repeat (exact (Kd.C_below HR0_2.out HB.out)))
  (case side2 => exact HC0_2.out)
  rintro e w24 ⟨rfl, hb⟩
  refine ⟨_, rfl, ?_⟩
  replace BK319 := A_.mk (blk_below BK319.out hb)
  replace BK320 := A_.mk (blk_below BK320.out hb)
  replace HB := A_.mk (below_step HB.out hb)
  (try clear hb)
  skip
  skip
  skip
  refine hK.out _ _ ⟨(blk_cell BK319.out 0).trans rfl, (blk_cell BK319.out 1).trans rfl, (blk_cell BK319.out 2).trans rfl⟩ (fun hHeld => ?_)
  clear hK K
  refine norm_ (a' := ?_) ?_ ?_
  rotate_left
  ·show Act.put _ (some 6) _ = _
   simp only [Act.put, sI_, s0_, s1_, i64_w, i32_w]
   rfl
  refine pure_ (i := 2) (N := some 7) (v := ?_) (a' := ?_) (m_ 14 7) rfl rfl (any_of HT_.out (by kernel_rfl)) (fun _ _ _ h => h) (Or.inl ⟨by rfl, ?_⟩) ?_ ?_
  rotate_left
  ·intro w'
   go_simp
   with_reducible rfl
  rotate_left
  ·simp only [Act.put, sI_, s0_, s1_, i64_w, i32_w]
   rfl
  refine pure_ (i := 3) (N := some 8) (v := undef) (a' := ?_) (m_ 14 15) rfl rfl (any_of HT_.out (by kernel_rfl)) (fun _ _ _ h => h) (Or.inr ⟨by rfl, rfl⟩) ?_ ?_
  rotate_left
  ·simp only [Act.put, sI_, s0_, s1_, i64_w, i32_w]
   rfl
  refine pure_ (i := 4) (N := some 9) (v := undef) (a' := ?_) (m_ 14 31) rfl rfl (any_of HT_.out (by kernel_rfl)) (fun _ _ _ h => h) (Or.inr ⟨by rfl, rfl⟩) ?_ ?_
  rotate_left
  ·simp only [Act.put, sI_, s0_, s1_, i64_w, i32_w]
   rfl
  refine pure_ (i := 5) (N := some 10) (v := ?_) (a' := ?_) (m_ 14 63) rfl rfl (any_of HT_.out (by kernel_rfl)) (fun _ _ _ h => h) (Or.inl ⟨by rfl, ?_⟩) ?_ ?_
  rotate_left
  ·intro w'
   go_simp
   with_reducible rfl
  rotate_left
  ·simp only [Act.put, sI_, s0_, s1_, i64_w, i32_w]
   rfl
  refine pure_ (i := 6) (N := some 11) (v := ?_) (a' := ?_) (m_ 14 127) rfl rfl (any_of HT_.out (by kernel_rfl)) (fun _ _ _ h => h) (Or.inl ⟨by rfl, ?_⟩) ?_ ?_
  rotate_left
  ·intro w'
   go_simp
   with_reducible rfl
  rotate_left
  ·simp only [Act.put, sI_, s0_, s1_, i64_w, i32_w]
   rfl
  refine pure_ (i := 7) (N := some 12) (v := undef) (a' := ?_) (m_ 14 255) rfl rfl (any_of HT_.out (by kernel_rfl)) (fun _ _ _ h => h) (Or.inr ⟨by rfl, rfl⟩) ?_ ?_
  rotate_left
  ·simp only [Act.put, sI_, s0_, s1_, i64_w, i32_w]
   rfl
  refine pure_ (i := 8) (N := some 13) (v := undef) (a' := ?_) (m_ 14 511) rfl rfl (any_of HT_.out (by kernel_rfl)) (fun _ _ _ h => h) (Or.inr ⟨by rfl, rfl⟩) ?_ ?_
  rotate_left
  ·simp only [Act.put, sI_, s0_, s1_, i64_w, i32_w]
   rfl
  refine pure_ (i := 9) (N := some 14) (v := undef) (a' := ?_) (m_ 14 1023) rfl rfl (any_of HT_.out (by kernel_rfl)) (fun _ _ _ h => h) (Or.inr ⟨by rfl, rfl⟩) ?_ ?_
  rotate_left
  ·simp only [Act.put, sI_, s0_, s1_, i64_w, i32_w]
   rfl
  refine pure_ (i := 10) (N := some 15) (v := undef) (a' := ?_) (m_ 14 2047) rfl rfl (any_of HT_.out (by kernel_rfl)) (fun _ _ _ h => h) (Or.inr ⟨by rfl, rfl⟩) ?_ ?_
  rotate_left
  ·simp only [Act.put, sI_, s0_, s1_, i64_w, i32_w]
   rfl
  refine pure_ (i := 11) (N := some 16) (v := undef) (a' := ?_) (m_ 14 4095) rfl rfl (any_of HT_.out (by kernel_rfl)) (fun _ _ _ h => h) (Or.inr ⟨by rfl, rfl⟩) ?_ ?_
  rotate_left
  ·simp only [Act.put, sI_, s0_, s1_, i64_w, i32_w]
   rfl
  refine pure_ (i := 12) (N := some 17) (v := ?_) (a' := ?_) (m_ 14 8191) rfl rfl (any_of HT_.out (by kernel_rfl)) (fun _ _ _ h => h) (Or.inl ⟨by rfl, ?_⟩) ?_ ?_
  rotate_left
  ·intro w'
   go_simp
   with_reducible rfl
  rotate_left
  ·simp only [Act.put, sI_, s0_, s1_, i64_w, i32_w]
   rfl
  refine pure_ (i := 13) (N := some 4) (v := ?_) (a' := ?_) (m_ 14 16383) rfl rfl (any_of HT_.out (by kernel_rfl)) (fun _ _ _ h => h) (Or.inl ⟨by rfl, ?_⟩) ?_ ?_
  rotate_left
  ·intro w'
   go_simp
   with_reducible rfl
  rotate_left
  ·simp only [Act.put, sI_, s0_, s1_, i64_w, i32_w]
   rfl
  refine done_ (done_of HT_.out (by kernel_rfl)) ?_
  try go_wp2
  go_ret
  exact ⟨by rfl, by repeat ((with_reducible (exact HB.out)))⟩

end Go.Proofs.YtihifglmnjocfaaDoor.PFnExactChanceOfFinal
