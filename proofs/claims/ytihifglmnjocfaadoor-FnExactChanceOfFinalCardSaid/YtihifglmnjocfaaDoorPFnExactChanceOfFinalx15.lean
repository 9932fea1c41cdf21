/- Given functions as plain Lean functions, and that their calls answer these. -/
import Derived.Test.YtihifglmnjocfaaDoorPFnExactChanceOfFinalx0
namespace Go.Proofs.YtihifglmnjocfaaDoor.PFnExactChanceOfFinal
open Go.RowKit Go.Proofs.YtihifglmnjocfaaDoorW.PrintWords Go.Proofs.YtihifglmnjocfaaDoorW.PrintLast Go.Proofs.YtihifglmnjocfaaDoorW.PrintMore
attribute [local go_sem] max2_int min2_int max_two min_two max_three min_three max_four min_four
set_option maxHeartbeats 8000000
set_option maxRecDepth 100000
set_option linter.unusedVariables false
set_option linter.unusedSimpArgs false

/-! ### laws_eqIntA2: function 11 -/
def laws_eqIntA2.l0 : Nat → Int → Int → Int → Int → Int → Option (Bool)
 | 0, _, _, _, _, _ => none
 | k + 1, x5, x358000, x358001, x359000, x359001 => if x5 < 2 then (if x5 = 0 then (if x358000 = x359000 then (laws_eqIntA2.l0 k (wrap64 (x5 + 1)) x358000 x358001 x359000 x359001) else (some false)) else (if x5 = 1 then (if x358001 = x359001 then (laws_eqIntA2.l0 k (wrap64 (x5 + 1)) x358000 x358001 x359000 x359001) else (some false)) else (none))) else (some true)
def laws_eqIntA2.f (k : Nat) (a0_0 : Int) (a0_1 : Int) (a1_0 : Int) (a1_1 : Int) : Option (Bool) := laws_eqIntA2.l0 k 0 a0_0 a0_1 a1_0 a1_1
theorem laws_eqIntA2.mono_l : ∀ k, (∀ y0 y1 y2 y3 y4, LeO (laws_eqIntA2.l0 k y0 y1 y2 y3 y4) (laws_eqIntA2.l0 (k + 1) y0 y1 y2 y3 y4))
 | 0 => fun _ _ _ _ _ r h => by simp [laws_eqIntA2.l0] at h
 | k + 1 => by
  have ih0 := laws_eqIntA2.mono_l k
  ·intro y0 y1 y2 y3 y4
   unfold laws_eqIntA2.l0
   repeat' first
   | (with_reducible exact ih0 _ _ _ _ _)
   | (with_reducible exact LeO.refl _)
   | (with_reducible exact LeO.none _)
   | (with_reducible refine LeO.ite ?_ ?_)
   | (with_reducible refine LeO.bind ?_ (fun _ => ?_))
   | exact ih0 _ _ _ _ _
   | exact LeO.none _
   | refine LeO.ite ?_ ?_
   | refine LeO.bind ?_ (fun _ => ?_)
theorem laws_eqIntA2.mono : ∀ a0 a1 a2 a3 k, LeO (laws_eqIntA2.f k a0 a1 a2 a3) (laws_eqIntA2.f (k + 1) a0 a1 a2 a3) := by
 intro a0 a1 a2 a3 k
 have ih0 := laws_eqIntA2.mono_l k
 unfold laws_eqIntA2.f
 repeat' first
   | (with_reducible exact ih0 _ _ _ _ _)
   | (with_reducible exact LeO.refl _)
   | (with_reducible exact LeO.none _)
   | (with_reducible refine LeO.ite ?_ ?_)
   | (with_reducible refine LeO.bind ?_ (fun _ => ?_))
   | exact ih0 _ _ _ _ _
   | exact LeO.none _
   | refine LeO.ite ?_ ?_
   | refine LeO.bind ?_ (fun _ => ?_)
theorem laws_eqIntA2.calls (k : Nat) (a0_0 : Int) (a0_1 : Int) (a1_0 : Int) (a1_1 : Int) (r : Bool) (w : World) (h : laws_eqIntA2.f k a0_0 a0_1 a1_0 a1_1 = some r) :
  Calls Tryd.prog 11 #[.agg #[.int .i64 a0_0, .int .i64 a0_1], .agg #[.int .i64 a1_0, .int .i64 a1_1]] w fun e w' => e = .returned (.bool r) ∧ Below w.heap.size w w' := by
 have hu26 := Tryd.underlying26
 have HB := A_.mk (Below.refl w.heap.size w)
 have H : (laws_eqIntA2.l0 k 0 a0_0 a0_1 a1_0 a1_1) = some r := h
 clear h
 have H' := A_.mk H
 clear H
 go_enter Tryd.func11, Tryd.ntmps11
 go_wp2_with (first | ((with_reducible refine gate_dst (N := 2) rfl ?_); refine box_event ?hg (N := 2) ?hd (cs := #[.int .i64 a0_0, .int .i64 a0_1]) (t := 26) ?hr ?_; (case hd => rfl); (case hg => rfl); (case hr => (go_simp; done)); intro gb357 hg w3 hbox hb; have BK357 := A_.mk (hbox); have GW357 := A_.mk ((by rw [hg]; exact (below_size HB.out) : w.heap.size ≤ gb357)); have GE357 := A_.mk ((by rw [hg]; exact (below_size HB.out) : w.heap.size ≤ gb357)); replace HB := A_.mk (below_step HB.out hb); clear hb hbox hg) | ((with_reducible refine gate_dst (N := 3) rfl ?_); refine box_event ?hg (N := 3) ?hd (cs := #[.int .i64 a1_0, .int .i64 a1_1]) (t := 26) ?hr ?_; (case hd => rfl); (case hg => rfl); (case hr => (go_simp; done)); intro gb358 hg w4 hbox hb; replace HB := A_.mk (below_step HB.out hb); have BK358 := A_.mk (hbox); have NB357_358 := A_.mk ((by rw [hg]; exact Nat.ne_of_lt (blk_lt BK357.out) : gb357 ≠ gb358)); have NB358_357 := A_.mk ((by rw [hg]; exact Nat.ne_of_gt (blk_lt BK357.out) : gb358 ≠ gb357)); replace BK357 := A_.mk (blk_below BK357.out hb); clear hb hbox hg))
 repeat (go_quiet (((with_reducible refine gate_dst (N := 2) rfl ?_); refine box_event ?hg (N := 2) ?hd (cs := #[.int .i64 a0_0, .int .i64 a0_1]) (t := 26) ?hr ?_; (case hd => rfl); (case hg => rfl); (case hr => (go_simp; done)); intro gb357 hg w3 hbox hb; have BK357 := A_.mk (hbox); have GW357 := A_.mk ((by rw [hg]; exact (below_size HB.out) : w.heap.size ≤ gb357)); have GE357 := A_.mk ((by rw [hg]; exact (below_size HB.out) : w.heap.size ≤ gb357)); replace HB := A_.mk (below_step HB.out hb); clear hb hbox hg)); try go_wp2_with ((fail)))
 go_loopg [5] k (fun kq v5 w' => ∃ (x5_1 : Int), v5 = .int .i64 x5_1 ∧ A_ (laws_eqIntA2.l0 kq x5_1 a0_0 a0_1 a1_0 a1_1 = some r) ∧ A_ (kq ≤ k) ∧ A_ (w'.heap[gb357]? = some (.cells #[.int .i64 a0_0, .int .i64 a0_1] 26 (0, 0))) ∧ A_ (w'.heap[gb358]? = some (.cells #[.int .i64 a1_0, .int .i64 a1_1] 26 (0, 0))) ∧ A_ (Below w.heap.size w w'))
 case atStart => exact ⟨(0), (by rfl), H', ⟨Nat.le_refl _⟩, ⟨by (with_reducible repeat (refine blk_drewN ?_ _)); exact BK357.out⟩, ⟨by (with_reducible repeat (refine blk_drewN ?_ _)); exact BK358.out⟩, ⟨by repeat ((with_reducible (exact HB.out)))⟩⟩
 case round =>
  clear H'
  try clear c1
  try clear p2
  obtain ⟨x5_1, rfl, HA, HK1, BK357, BK358, HB⟩ := hrel
  cases gk with
  | zero => exact absurd HA.out (by simp [laws_eqIntA2.l0])
  | succ k1 =>
   have H := HA.out
   clear HA
   simp only [laws_eqIntA2.l0] at H
   by_cases c5 : x5_1 < 2
   ·rw [if_pos c5] at H
    have c5b0 : decide (x5_1 < 2) = true := decide_eq_true c5
    clear c5
    by_cases c6 : x5_1 = 0
    ·subst c6
     have H1 : (if a0_0 = a1_0 then (laws_eqIntA2.l0 k1 (wrap64 (0 + 1)) a0_0 a0_1 a1_0 a1_1) else (some false)) = some r := by rw [if_pos rfl] at H; exact H
     clear H
     have H := H1
     clear H1
     by_cases c7 : a0_0 = a1_0
     ·rw [if_pos c7] at H
      have c7b0 : (a0_0 == a1_0) = true := beq_iff_eq.mpr c7
      have c7b1 : (a0_0 != a1_0) = false := bne_eq_false_iff_eq.mpr c7
      clear c7
      have H' := A_.mk H
      clear H
      have hnb8 := NB357_358.out
      have hnc8 := NB358_357.out
      have hcz9_0 : wr.cell? ⟨gb357, 0, none⟩ = some (.int .i64 a0_0) := (blk_cell BK357.out 0).trans rfl
      have hcz9_1 : wr.cell? ⟨gb357, 1, none⟩ = some (.int .i64 a0_1) := (blk_cell BK357.out 1).trans rfl
      have hfz9_0 := blk_frozen BK357.out 0
      have hfz9_1 := blk_frozen BK357.out 1
      have hcz10_0 : wr.cell? ⟨gb358, 0, none⟩ = some (.int .i64 a1_0) := (blk_cell BK358.out 0).trans rfl
      have hcz10_1 : wr.cell? ⟨gb358, 1, none⟩ = some (.int .i64 a1_1) := (blk_cell BK358.out 1).trans rfl
      have hfz10_0 := blk_frozen BK358.out 0
      have hfz10_1 := blk_frozen BK358.out 1
      go_wp2
      repeat (go_quiet (fail); try go_wp2)
      go_roundg k1
      case measure => have := HK1.out; omega
      case rel => exact ⟨(wrap64 (0 + 1)), (by (simp [wrap64]; done)), H', ⟨by have := HK1.out; omega⟩, ⟨by (with_reducible repeat (refine blk_drewN ?_ _)); exact BK357.out⟩, ⟨by (with_reducible repeat (refine blk_drewN ?_ _)); exact BK358.out⟩, ⟨by repeat ((with_reducible first | exact HB.out | apply pw_below_drewN))⟩⟩
     ·rw [if_neg c7] at H
      have c7b0 : (a0_0 == a1_0) = false := beq_eq_false_iff_ne.mpr c7
      have c7b1 : (a0_0 != a1_0) = true := bne_iff_ne.mpr c7
      obtain rfl := Option.some.inj H
      have hnb11 := NB357_358.out
      have hnc11 := NB358_357.out
      have hcz12_0 : wr.cell? ⟨gb357, 0, none⟩ = some (.int .i64 a0_0) := (blk_cell BK357.out 0).trans rfl
      have hcz12_1 : wr.cell? ⟨gb357, 1, none⟩ = some (.int .i64 a0_1) := (blk_cell BK357.out 1).trans rfl
      have hfz12_0 := blk_frozen BK357.out 0
      have hfz12_1 := blk_frozen BK357.out 1
      have hcz13_0 : wr.cell? ⟨gb358, 0, none⟩ = some (.int .i64 a1_0) := (blk_cell BK358.out 0).trans rfl
      have hcz13_1 : wr.cell? ⟨gb358, 1, none⟩ = some (.int .i64 a1_1) := (blk_cell BK358.out 1).trans rfl
      have hfz13_0 := blk_frozen BK358.out 0
      have hfz13_1 := blk_frozen BK358.out 1
      go_wp2
      repeat (go_quiet (fail); try go_wp2)
      go_ret
      exact ⟨by rfl, by repeat ((with_reducible first | exact HB.out | apply pw_below_drewN))⟩
    ·rw [if_neg c6] at H
     have c6b0 : (x5_1 == 0) = false := beq_eq_false_iff_ne.mpr c6
     have c6b1 : (x5_1 != 0) = true := bne_iff_ne.mpr c6
     by_cases c14 : x5_1 = 1
     ·subst c14
      have H1 : (if a0_1 = a1_1 then (laws_eqIntA2.l0 k1 (wrap64 (1 + 1)) a0_0 a0_1 a1_0 a1_1) else (some false)) = some r := by rw [if_pos rfl] at H; exact H
      clear H
      have H := H1
      clear H1
      by_cases c15 : a0_1 = a1_1
      ·rw [if_pos c15] at H
       have c15b0 : (a0_1 == a1_1) = true := beq_iff_eq.mpr c15
       have c15b1 : (a0_1 != a1_1) = false := bne_eq_false_iff_eq.mpr c15
       clear c15
       have H' := A_.mk H
       clear H
       have hnb16 := NB357_358.out
       have hnc16 := NB358_357.out
       have hcz17_0 : wr.cell? ⟨gb357, 0, none⟩ = some (.int .i64 a0_0) := (blk_cell BK357.out 0).trans rfl
       have hcz17_1 : wr.cell? ⟨gb357, 1, none⟩ = some (.int .i64 a0_1) := (blk_cell BK357.out 1).trans rfl
       have hfz17_0 := blk_frozen BK357.out 0
       have hfz17_1 := blk_frozen BK357.out 1
       have hcz18_0 : wr.cell? ⟨gb358, 0, none⟩ = some (.int .i64 a1_0) := (blk_cell BK358.out 0).trans rfl
       have hcz18_1 : wr.cell? ⟨gb358, 1, none⟩ = some (.int .i64 a1_1) := (blk_cell BK358.out 1).trans rfl
       have hfz18_0 := blk_frozen BK358.out 0
       have hfz18_1 := blk_frozen BK358.out 1
       go_wp2
       repeat (go_quiet (fail); try go_wp2)
       go_roundg k1
       case measure => have := HK1.out; omega
       case rel => exact ⟨(wrap64 (1 + 1)), (by (simp [wrap64]; done)), H', ⟨by have := HK1.out; omega⟩, ⟨by (with_reducible repeat (refine blk_drewN ?_ _)); exact BK357.out⟩, ⟨by (with_reducible repeat (refine blk_drewN ?_ _)); exact BK358.out⟩, ⟨by repeat ((with_reducible first | exact HB.out | apply pw_below_drewN))⟩⟩
      ·rw [if_neg c15] at H
       have c15b0 : (a0_1 == a1_1) = false := beq_eq_false_iff_ne.mpr c15
       have c15b1 : (a0_1 != a1_1) = true := bne_iff_ne.mpr c15
       obtain rfl := Option.some.inj H
       have hnb19 := NB357_358.out
       have hnc19 := NB358_357.out
       have hcz20_0 : wr.cell? ⟨gb357, 0, none⟩ = some (.int .i64 a0_0) := (blk_cell BK357.out 0).trans rfl
       have hcz20_1 : wr.cell? ⟨gb357, 1, none⟩ = some (.int .i64 a0_1) := (blk_cell BK357.out 1).trans rfl
       have hfz20_0 := blk_frozen BK357.out 0
       have hfz20_1 := blk_frozen BK357.out 1
       have hcz21_0 : wr.cell? ⟨gb358, 0, none⟩ = some (.int .i64 a1_0) := (blk_cell BK358.out 0).trans rfl
       have hcz21_1 : wr.cell? ⟨gb358, 1, none⟩ = some (.int .i64 a1_1) := (blk_cell BK358.out 1).trans rfl
       have hfz21_0 := blk_frozen BK358.out 0
       have hfz21_1 := blk_frozen BK358.out 1
       go_wp2
       repeat (go_quiet (fail); try go_wp2)
       go_ret
       exact ⟨by rfl, by repeat ((with_reducible first | exact HB.out | apply pw_below_drewN))⟩
     ·rw [if_neg c14] at H
      exact absurd H (by simp)
   ·rw [if_neg c5] at H
    have c5b0 : decide (x5_1 < 2) = false := decide_eq_false c5
    clear c5
    obtain rfl := Option.some.inj H
    go_wp2
    repeat (go_quiet (fail); try go_wp2)
    go_ret
    exact ⟨by rfl, by repeat ((with_reducible (exact HB.out)))⟩

/-! ### laws_eqIntS: function 32 -/
def laws_eqIntS.l0 : Nat → List Int → List Int → Int → Option (Bool)
 | 0, _, _, _ => none
 | k + 1, x0, x1, x5 => if x5 < (x0.length : Int) then (if 0 ≤ x5 then (if x5 < (x1.length : Int) then (if (rd x0 x5) = (rd x1 x5) then (laws_eqIntS.l0 k x0 x1 (wrap64 (x5 + 1))) else (some false)) else (none)) else (none)) else (some true)
def laws_eqIntS.f (k : Nat) (l0 : List Int) (l1 : List Int) : Option (Bool) := if (l0.length : Int) = (l1.length : Int) then (laws_eqIntS.l0 k l0 l1 0) else (some false)
theorem laws_eqIntS.mono_l : ∀ k, (∀ y0 y1 y2, LeO (laws_eqIntS.l0 k y0 y1 y2) (laws_eqIntS.l0 (k + 1) y0 y1 y2))
 | 0 => fun _ _ _ r h => by simp [laws_eqIntS.l0] at h
 | k + 1 => by
  have ih0 := laws_eqIntS.mono_l k
  ·intro y0 y1 y2
   unfold laws_eqIntS.l0
   repeat' first
   | (with_reducible exact ih0 _ _ _)
   | (with_reducible exact LeO.refl _)
   | (with_reducible exact LeO.none _)
   | (with_reducible refine LeO.ite ?_ ?_)
   | (with_reducible refine LeO.bind ?_ (fun _ => ?_))
   | exact ih0 _ _ _
   | exact LeO.none _
   | refine LeO.ite ?_ ?_
   | refine LeO.bind ?_ (fun _ => ?_)
theorem laws_eqIntS.mono : ∀ a0 a1 k, LeO (laws_eqIntS.f k a0 a1) (laws_eqIntS.f (k + 1) a0 a1) := by
 intro a0 a1 k
 have ih0 := laws_eqIntS.mono_l k
 unfold laws_eqIntS.f
 repeat' first
   | (with_reducible exact ih0 _ _ _)
   | (with_reducible exact LeO.refl _)
   | (with_reducible exact LeO.none _)
   | (with_reducible refine LeO.ite ?_ ?_)
   | (with_reducible refine LeO.bind ?_ (fun _ => ?_))
   | exact ih0 _ _ _
   | exact LeO.none _
   | refine LeO.ite ?_ ?_
   | refine LeO.bind ?_ (fun _ => ?_)
theorem laws_eqIntS.calls (k : Nat) (A0 : Option Addr) (c0 : Nat) (l0 : List Int) (A1 : Option Addr) (c1 : Nat) (l1 : List Int) (r : Bool) (w : World) (hr0 : Kd.C (Kd.int .i64) w A0 l0.length l0) (hc0 : l0.length ≤ c0) (hr1 : Kd.C (Kd.int .i64) w A1 l1.length l1) (hc1 : l1.length ≤ c1) (h : laws_eqIntS.f k l0 l1 = some r) :
  Calls Tryd.prog 32 #[.slice A0 l0.length c0, .slice A1 l1.length c1] w fun e w' => e = .returned (.bool r) ∧ Drawn0 w w' := by
 have HR0 := A_.mk hr0
 have HC0 := A_.mk hc0
 clear hr0 hc0
 have HR1 := A_.mk hr1
 have HC1 := A_.mk hc1
 clear hr1 hc1
 have H : (if (l0.length : Int) = (l1.length : Int) then (laws_eqIntS.l0 k l0 l1 0) else (some false)) = some r := h
 clear h
 by_cases c3 : (l0.length : Int) = (l1.length : Int)
 ·rw [if_pos c3] at H
  have c3b0 : ((l0.length : Int) == (l1.length : Int)) = true := beq_iff_eq.mpr c3
  have c3b1 : ((l0.length : Int) != (l1.length : Int)) = false := bne_eq_false_iff_eq.mpr c3
  have c3b2 : (l0.length == l1.length) = true := by (simp at c3 ⊢; omega)
  clear c3
  have H' := A_.mk H
  clear H
  go_enter Tryd.func32, Tryd.ntmps32
  go_wp2
  repeat (go_quiet (fail); try go_wp2)
  go_loopg [5] k (fun kq v5 w' => ∃ (x5_1 : Int), v5 = .int .i64 x5_1 ∧ A_ (laws_eqIntS.l0 kq l0 l1 x5_1 = some r) ∧ A_ (kq ≤ k) ∧ Drawn0 w w')
  case atStart => exact ⟨(0), (by rfl), H', ⟨Nat.le_refl _⟩, by repeat (exact Drawn0.refl _)⟩
  case round =>
   clear H'
   try clear c1
   try clear p2
   try clear c3
   try clear c3b0
   try clear c3b1
   try clear c3b2
   obtain ⟨x5_1, rfl, HA, HK1, ⟨m1, rfl⟩⟩ := hrel
   cases gk with
   | zero => exact absurd HA.out (by simp [laws_eqIntS.l0])
   | succ k1 =>
    have H := HA.out
    clear HA
    simp only [laws_eqIntS.l0] at H
    by_cases c4 : x5_1 < (l0.length : Int)
    ·rw [if_pos c4] at H
     have c4b0 : decide (x5_1 < (l0.length : Int)) = true := decide_eq_true c4
     clear c4
     by_cases c5 : 0 ≤ x5_1
     ·rw [if_pos c5] at H
      have c5b0 : decide (0 ≤ x5_1) = true := decide_eq_true c5
      clear c5
      by_cases c6 : x5_1 < (l1.length : Int)
      ·rw [if_pos c6] at H
       have c6b0 : decide (x5_1 < (l1.length : Int)) = true := decide_eq_true c6
       clear c6
       by_cases c7 : (rd l0 x5_1) = (rd l1 x5_1)
       ·rw [if_pos c7] at H
        have c7b0 : ((rd l0 x5_1) == (rd l1 x5_1)) = true := beq_iff_eq.mpr c7
        have c7b1 : ((rd l0 x5_1) != (rd l1 x5_1)) = false := bne_eq_false_iff_eq.mpr c7
        clear c7
        have H' := A_.mk H
        clear H
        have p359 : 0 ≤ (x5_1 : Int) := of_decide_eq_true (by (with_reducible assumption))
        have q359 : x5_1 < (l0.length : Int) := of_decide_eq_true (by (with_reducible assumption))
        skip
        obtain ⟨ad359, e359, hx359_0⟩ := Kd.at_int HR0.out x5_1 p359 q359
        cases e359
        replace p359 := eq_true p359
        replace q359 := eq_true q359
        have p360 : 0 ≤ (x5_1 : Int) := of_decide_eq_true (by (with_reducible assumption))
        have q360 : x5_1 < (l1.length : Int) := of_decide_eq_true (by (with_reducible assumption))
        skip
        obtain ⟨ad360, e360, hx360_0⟩ := Kd.at_int HR1.out x5_1 p360 q360
        cases e360
        replace p360 := eq_true p360
        replace q360 := eq_true q360
        go_wp2
        repeat (go_quiet (fail); try go_wp2)
        go_roundg k1
        case measure => have := HK1.out; omega
        case rel => exact ⟨(wrap64 (x5_1 + 1)), (by rfl), H', ⟨by have := HK1.out; omega⟩, by repeat (first | exact Drawn0.refl _ | apply Drawn0.step)⟩
       ·rw [if_neg c7] at H
        have c7b0 : ((rd l0 x5_1) == (rd l1 x5_1)) = false := beq_eq_false_iff_ne.mpr c7
        have c7b1 : ((rd l0 x5_1) != (rd l1 x5_1)) = true := bne_iff_ne.mpr c7
        obtain rfl := Option.some.inj H
        have p359 : 0 ≤ (x5_1 : Int) := of_decide_eq_true (by (with_reducible assumption))
        have q359 : x5_1 < (l0.length : Int) := of_decide_eq_true (by (with_reducible assumption))
        skip
        obtain ⟨ad359, e359, hx359_0⟩ := Kd.at_int HR0.out x5_1 p359 q359
        cases e359
        replace p359 := eq_true p359
        replace q359 := eq_true q359
        have p360 : 0 ≤ (x5_1 : Int) := of_decide_eq_true (by (with_reducible assumption))
        have q360 : x5_1 < (l1.length : Int) := of_decide_eq_true (by (with_reducible assumption))
        skip
        obtain ⟨ad360, e360, hx360_0⟩ := Kd.at_int HR1.out x5_1 p360 q360
        cases e360
        replace p360 := eq_true p360
        replace q360 := eq_true q360
        go_wp2
        repeat (go_quiet (fail); try go_wp2)
        go_ret
        exact ⟨by rfl, by repeat (first | exact Drawn0.refl _ | apply Drawn0.step)⟩
      ·rw [if_neg c6] at H
       exact absurd H (by simp)
     ·rw [if_neg c5] at H
      exact absurd H (by simp)
    ·rw [if_neg c4] at H
     have c4b0 : decide (x5_1 < (l0.length : Int)) = false := decide_eq_false c4
     clear c4
     obtain rfl := Option.some.inj H
     go_wp2
     repeat (go_quiet (fail); try go_wp2)
     go_ret
     exact ⟨by rfl, by repeat (first | exact Drawn0.refl _ | apply Drawn0.step)⟩
 ·rw [if_neg c3] at H
  have c3b0 : ((l0.length : Int) == (l1.length : Int)) = false := beq_eq_false_iff_ne.mpr c3
  have c3b1 : ((l0.length : Int) != (l1.length : Int)) = true := bne_iff_ne.mpr c3
  have c3b2 : (l0.length == l1.length) = false := by (simp at c3 ⊢; omega)
  obtain rfl := Option.some.inj H
  go_enter Tryd.func32, Tryd.ntmps32
  go_wp2
  repeat (go_quiet (fail); try go_wp2)
  go_ret
  exact ⟨by rfl, by repeat (exact Drawn0.refl _)⟩

/-! ### laws_eqRow: function 12 -/
def laws_eqRow.f (k : Nat) (a0_0 : Int) (a0_1 : Bool) (l0_2 : List Int) (a1_0 : Int) (a1_1 : Bool) (l1_2 : List Int) : Option (Bool) := if a0_0 = a1_0 then (if (a0_1 != a1_1) = true then (some false) else ((laws_eqIntS.f k l0_2 l1_2).bind fun t363 => (if t363 = true then (some true) else (some false)))) else (some false)
theorem laws_eqRow.mono : ∀ a0 a1 a2 a3 a4 a5 k, LeO (laws_eqRow.f k a0 a1 a2 a3 a4 a5) (laws_eqRow.f (k + 1) a0 a1 a2 a3 a4 a5) := by
 intro a0 a1 a2 a3 a4 a5 k
 unfold laws_eqRow.f
 repeat' first
   | (with_reducible exact laws_eqIntS.mono _ _ _)
   | (with_reducible exact LeO.refl _)
   | (with_reducible exact LeO.none _)
   | (with_reducible refine LeO.ite ?_ ?_)
   | (with_reducible refine LeO.bind ?_ (fun _ => ?_))
   | exact laws_eqIntS.mono _ _ _
   | exact LeO.none _
   | refine LeO.ite ?_ ?_
   | refine LeO.bind ?_ (fun _ => ?_)
theorem laws_eqRow.calls (k : Nat) (a0_0 : Int) (a0_1 : Bool) (A0_2 : Option Addr) (c0_2 : Nat) (l0_2 : List Int) (a1_0 : Int) (a1_1 : Bool) (A1_2 : Option Addr) (c1_2 : Nat) (l1_2 : List Int) (r : Bool) (w : World) (hr0_2 : Kd.C (Kd.int .i64) w A0_2 l0_2.length l0_2) (hc0_2 : l0_2.length ≤ c0_2) (hr1_2 : Kd.C (Kd.int .i64) w A1_2 l1_2.length l1_2) (hc1_2 : l1_2.length ≤ c1_2) (h : laws_eqRow.f k a0_0 a0_1 l0_2 a1_0 a1_1 l1_2 = some r) :
  Calls Tryd.prog 12 #[.agg #[.int .i64 a0_0, .bool a0_1, .slice A0_2 l0_2.length c0_2], .agg #[.int .i64 a1_0, .bool a1_1, .slice A1_2 l1_2.length c1_2]] w fun e w' => e = .returned (.bool r) ∧ Below w.heap.size w w' := by
 have hu29 := Tryd.underlying29
 have HR0_2 := A_.mk hr0_2
 have HC0_2 := A_.mk hc0_2
 clear hr0_2 hc0_2
 have HR1_2 := A_.mk hr1_2
 have HC1_2 := A_.mk hc1_2
 clear hr1_2 hc1_2
 have HB := A_.mk (Below.refl w.heap.size w)
 have H : (if a0_0 = a1_0 then (if (a0_1 != a1_1) = true then (some false) else ((laws_eqIntS.f k l0_2 l1_2).bind fun t363 => (if t363 = true then (some true) else (some false)))) else (some false)) = some r := h
 clear h
 by_cases c3 : a0_0 = a1_0
 ·rw [if_pos c3] at H
  have c3b0 : (a0_0 == a1_0) = true := beq_iff_eq.mpr c3
  have c3b1 : (a0_0 != a1_0) = false := bne_eq_false_iff_eq.mpr c3
  clear c3
  by_cases c4 : (a0_1 != a1_1) = true
  ·rw [if_pos c4] at H
   have c4b0 : (a0_1 != a1_1) = true := c4
   (try (have c4b1 : decide (a0_1 = a1_1) = false := by simpa using c4))
   (try (have c4b2 : (a0_1 == a1_1) = false := by simpa using c4))
   (try (have c4b3 : ¬ (a0_1 = a1_1) := by simpa using c4))
   clear c4
   obtain rfl := Option.some.inj H
   go_enter Tryd.func12, Tryd.ntmps12
   go_wp2_with (first | ((with_reducible refine gate_dst (N := 2) rfl ?_); refine box_event ?hg (N := 2) ?hd (cs := #[.int .i64 a0_0, .bool a0_1, .slice A0_2 l0_2.length c0_2]) (t := 29) ?hr ?_; (case hd => rfl); (case hg => rfl); (case hr => (go_simp; done)); intro gb361 hg w5 hbox hb; have BK361 := A_.mk (hbox); have GW361 := A_.mk ((by rw [hg]; exact (below_size HB.out) : w.heap.size ≤ gb361)); have GE361 := A_.mk ((by rw [hg]; exact (below_size HB.out) : w.heap.size ≤ gb361)); replace HB := A_.mk (below_step HB.out hb); clear hb hbox hg) | ((with_reducible refine gate_dst (N := 3) rfl ?_); refine box_event ?hg (N := 3) ?hd (cs := #[.int .i64 a1_0, .bool a1_1, .slice A1_2 l1_2.length c1_2]) (t := 29) ?hr ?_; (case hd => rfl); (case hg => rfl); (case hr => (go_simp; done)); intro gb362 hg w6 hbox hb; have BK362 := A_.mk (hbox); have GW362 := A_.mk ((by rw [hg]; exact (below_size HB.out) : w.heap.size ≤ gb362)); have GE362 := A_.mk ((by rw [hg]; exact (below_size HB.out) : w.heap.size ≤ gb362)); replace HB := A_.mk (below_step HB.out hb); have NB361_362 := A_.mk ((by rw [hg]; exact Nat.ne_of_lt (blk_lt BK361.out) : gb361 ≠ gb362)); have NB362_361 := A_.mk ((by rw [hg]; exact Nat.ne_of_gt (blk_lt BK361.out) : gb362 ≠ gb361)); replace BK361 := A_.mk (blk_below BK361.out hb); clear hb hbox hg; have hnb7 := NB361_362.out; have hnc7 := NB362_361.out; have hcz8_0 : w6.cell? ⟨gb361, 0, none⟩ = some (.int .i64 a0_0) := (blk_cell BK361.out 0).trans rfl; have hcz8_1 : w6.cell? ⟨gb361, 1, none⟩ = some (.bool a0_1) := (blk_cell BK361.out 1).trans rfl; have hcz8_2 : w6.cell? ⟨gb361, 2, none⟩ = some (.slice A0_2 l0_2.length c0_2) := (blk_cell BK361.out 2).trans rfl; have hfz8_0 := blk_frozen BK361.out 0; have hfz8_1 := blk_frozen BK361.out 1; have hfz8_2 := blk_frozen BK361.out 2; have hcz9_0 : w6.cell? ⟨gb362, 0, none⟩ = some (.int .i64 a1_0) := (blk_cell BK362.out 0).trans rfl; have hcz9_1 : w6.cell? ⟨gb362, 1, none⟩ = some (.bool a1_1) := (blk_cell BK362.out 1).trans rfl; have hcz9_2 : w6.cell? ⟨gb362, 2, none⟩ = some (.slice A1_2 l1_2.length c1_2) := (blk_cell BK362.out 2).trans rfl; have hfz9_0 := blk_frozen BK362.out 0; have hfz9_1 := blk_frozen BK362.out 1; have hfz9_2 := blk_frozen BK362.out 2))
   go_ret
   exact ⟨by rfl, by repeat ((with_reducible (exact HB.out)))⟩
  ·rw [if_neg c4] at H
   have c4b0 : (a0_1 != a1_1) = false := by simpa using c4
   (try (have c4b1 : decide (a0_1 = a1_1) = true := by simpa using c4))
   (try (have c4b2 : (a0_1 == a1_1) = true := by simpa using c4))
   clear c4
   replace H := Option.bind_eq_some_iff.mp H
   obtain ⟨t363, A100, H⟩ := H
   replace H : (if t363 = true then (some true) else (some false)) = some r := H
   have A10 := A_.mk A100
   clear A100
   by_cases c11 : t363 = true
   ·subst c11
    have H1 : (some true) = some r := by rw [if_pos rfl] at H; exact H
    clear H
    have H := H1
    clear H1
    obtain rfl := Option.some.inj H
    go_enter Tryd.func12, Tryd.ntmps12
    go_wp2_with (first | ((with_reducible refine gate_dst (N := 2) rfl ?_); refine box_event ?hg (N := 2) ?hd (cs := #[.int .i64 a0_0, .bool a0_1, .slice A0_2 l0_2.length c0_2]) (t := 29) ?hr ?_; (case hd => rfl); (case hg => rfl); (case hr => (go_simp; done)); intro gb361 hg w12 hbox hb; have BK361 := A_.mk (hbox); have GW361 := A_.mk ((by rw [hg]; exact (below_size HB.out) : w.heap.size ≤ gb361)); have GE361 := A_.mk ((by rw [hg]; exact (below_size HB.out) : w.heap.size ≤ gb361)); replace HB := A_.mk (below_step HB.out hb); clear hb hbox hg) | ((with_reducible refine gate_dst (N := 3) rfl ?_); refine box_event ?hg (N := 3) ?hd (cs := #[.int .i64 a1_0, .bool a1_1, .slice A1_2 l1_2.length c1_2]) (t := 29) ?hr ?_; (case hd => rfl); (case hg => rfl); (case hr => (go_simp; done)); intro gb362 hg w13 hbox hb; have BK362 := A_.mk (hbox); have GW362 := A_.mk ((by rw [hg]; exact (below_size HB.out) : w.heap.size ≤ gb362)); have GE362 := A_.mk ((by rw [hg]; exact (below_size HB.out) : w.heap.size ≤ gb362)); replace HB := A_.mk (below_step HB.out hb); have NB361_362 := A_.mk ((by rw [hg]; exact Nat.ne_of_lt (blk_lt BK361.out) : gb361 ≠ gb362)); have NB362_361 := A_.mk ((by rw [hg]; exact Nat.ne_of_gt (blk_lt BK361.out) : gb362 ≠ gb361)); replace BK361 := A_.mk (blk_below BK361.out hb); clear hb hbox hg; have hnb14 := NB361_362.out; have hnc14 := NB362_361.out; have hcz15_0 : w13.cell? ⟨gb361, 0, none⟩ = some (.int .i64 a0_0) := (blk_cell BK361.out 0).trans rfl; have hcz15_1 : w13.cell? ⟨gb361, 1, none⟩ = some (.bool a0_1) := (blk_cell BK361.out 1).trans rfl; have hcz15_2 : w13.cell? ⟨gb361, 2, none⟩ = some (.slice A0_2 l0_2.length c0_2) := (blk_cell BK361.out 2).trans rfl; have hfz15_0 := blk_frozen BK361.out 0; have hfz15_1 := blk_frozen BK361.out 1; have hfz15_2 := blk_frozen BK361.out 2; have hcz16_0 : w13.cell? ⟨gb362, 0, none⟩ = some (.int .i64 a1_0) := (blk_cell BK362.out 0).trans rfl; have hcz16_1 : w13.cell? ⟨gb362, 1, none⟩ = some (.bool a1_1) := (blk_cell BK362.out 1).trans rfl; have hcz16_2 : w13.cell? ⟨gb362, 2, none⟩ = some (.slice A1_2 l1_2.length c1_2) := (blk_cell BK362.out 2).trans rfl; have hfz16_0 := blk_frozen BK362.out 0; have hfz16_1 := blk_frozen BK362.out 1; have hfz16_2 := blk_frozen BK362.out 2) | ((with_reducible refine gate_callee (f := 32) rfl ?_); refine goesL_ (some 19) rfl rfl Tryd.func32 (by kernel_rfl) rfl #[.slice A0_2 l0_2.length c0_2, .slice A1_2 l1_2.length c1_2] rfl (by (try simp only [List.map_toArray, List.map_cons, List.map_nil]); (rfl)) ?_; (with_reducible refine (laws_eqIntS.calls k _ _ l0_2 _ _ l1_2 true _ ?side1 ?side2 ?side3 ?side4 A10.out).mono ?_); (case side1 => repeat (exact (Kd.C_below HR0_2.out HB.out))); (case side2 => exact HC0_2.out); (case side3 => repeat (exact (Kd.C_below HR1_2.out HB.out))); (case side4 => exact HC1_2.out); rintro e w' ⟨rfl, ⟨nd, rfl⟩⟩; refine ⟨_, rfl, ?_⟩))
    go_ret
    exact ⟨by rfl, by repeat ((with_reducible first | exact HB.out | apply pw_below_drewN))⟩
   ·replace c11 := Bool.eq_false_iff.mpr c11
    subst c11
    have H1 : (some false) = some r := by rw [if_neg (show ¬ (false = true) by decide)] at H; exact H
    clear H
    have H := H1
    clear H1
    obtain rfl := Option.some.inj H
    go_enter Tryd.func12, Tryd.ntmps12
    go_wp2_with (first | ((with_reducible refine gate_dst (N := 2) rfl ?_); refine box_event ?hg (N := 2) ?hd (cs := #[.int .i64 a0_0, .bool a0_1, .slice A0_2 l0_2.length c0_2]) (t := 29) ?hr ?_; (case hd => rfl); (case hg => rfl); (case hr => (go_simp; done)); intro gb361 hg w17 hbox hb; have BK361 := A_.mk (hbox); have GW361 := A_.mk ((by rw [hg]; exact (below_size HB.out) : w.heap.size ≤ gb361)); have GE361 := A_.mk ((by rw [hg]; exact (below_size HB.out) : w.heap.size ≤ gb361)); replace HB := A_.mk (below_step HB.out hb); clear hb hbox hg) | ((with_reducible refine gate_dst (N := 3) rfl ?_); refine box_event ?hg (N := 3) ?hd (cs := #[.int .i64 a1_0, .bool a1_1, .slice A1_2 l1_2.length c1_2]) (t := 29) ?hr ?_; (case hd => rfl); (case hg => rfl); (case hr => (go_simp; done)); intro gb362 hg w18 hbox hb; have BK362 := A_.mk (hbox); have GW362 := A_.mk ((by rw [hg]; exact (below_size HB.out) : w.heap.size ≤ gb362)); have GE362 := A_.mk ((by rw [hg]; exact (below_size HB.out) : w.heap.size ≤ gb362)); replace HB := A_.mk (below_step HB.out hb); have NB361_362 := A_.mk ((by rw [hg]; exact Nat.ne_of_lt (blk_lt BK361.out) : gb361 ≠ gb362)); have NB362_361 := A_.mk ((by rw [hg]; exact Nat.ne_of_gt (blk_lt BK361.out) : gb362 ≠ gb361)); replace BK361 := A_.mk (blk_below BK361.out hb); clear hb hbox hg; have hnb19 := NB361_362.out; have hnc19 := NB362_361.out; have hcz20_0 : w18.cell? ⟨gb361, 0, none⟩ = some (.int .i64 a0_0) := (blk_cell BK361.out 0).trans rfl; have hcz20_1 : w18.cell? ⟨gb361, 1, none⟩ = some (.bool a0_1) := (blk_cell BK361.out 1).trans rfl; have hcz20_2 : w18.cell? ⟨gb361, 2, none⟩ = some (.slice A0_2 l0_2.length c0_2) := (blk_cell BK361.out 2).trans rfl; have hfz20_0 := blk_frozen BK361.out 0; have hfz20_1 := blk_frozen BK361.out 1; have hfz20_2 := blk_frozen BK361.out 2; have hcz21_0 : w18.cell? ⟨gb362, 0, none⟩ = some (.int .i64 a1_0) := (blk_cell BK362.out 0).trans rfl; have hcz21_1 : w18.cell? ⟨gb362, 1, none⟩ = some (.bool a1_1) := (blk_cell BK362.out 1).trans rfl; have hcz21_2 : w18.cell? ⟨gb362, 2, none⟩ = some (.slice A1_2 l1_2.length c1_2) := (blk_cell BK362.out 2).trans rfl; have hfz21_0 := blk_frozen BK362.out 0; have hfz21_1 := blk_frozen BK362.out 1; have hfz21_2 := blk_frozen BK362.out 2) | ((with_reducible refine gate_callee (f := 32) rfl ?_); refine goesL_ (some 19) rfl rfl Tryd.func32 (by kernel_rfl) rfl #[.slice A0_2 l0_2.length c0_2, .slice A1_2 l1_2.length c1_2] rfl (by (try simp only [List.map_toArray, List.map_cons, List.map_nil]); (rfl)) ?_; (with_reducible refine (laws_eqIntS.calls k _ _ l0_2 _ _ l1_2 false _ ?side1 ?side2 ?side3 ?side4 A10.out).mono ?_); (case side1 => repeat (exact (Kd.C_below HR0_2.out HB.out))); (case side2 => exact HC0_2.out); (case side3 => repeat (exact (Kd.C_below HR1_2.out HB.out))); (case side4 => exact HC1_2.out); rintro e w' ⟨rfl, ⟨nd, rfl⟩⟩; refine ⟨_, rfl, ?_⟩))
    go_ret
    exact ⟨by rfl, by repeat ((with_reducible first | exact HB.out | apply pw_below_drewN))⟩
 ·rw [if_neg c3] at H
  have c3b0 : (a0_0 == a1_0) = false := beq_eq_false_iff_ne.mpr c3
  have c3b1 : (a0_0 != a1_0) = true := bne_iff_ne.mpr c3
  obtain rfl := Option.some.inj H
  go_enter Tryd.func12, Tryd.ntmps12
  go_wp2_with (first | ((with_reducible refine gate_dst (N := 2) rfl ?_); refine box_event ?hg (N := 2) ?hd (cs := #[.int .i64 a0_0, .bool a0_1, .slice A0_2 l0_2.length c0_2]) (t := 29) ?hr ?_; (case hd => rfl); (case hg => rfl); (case hr => (go_simp; done)); intro gb361 hg w22 hbox hb; have BK361 := A_.mk (hbox); have GW361 := A_.mk ((by rw [hg]; exact (below_size HB.out) : w.heap.size ≤ gb361)); have GE361 := A_.mk ((by rw [hg]; exact (below_size HB.out) : w.heap.size ≤ gb361)); replace HB := A_.mk (below_step HB.out hb); clear hb hbox hg) | ((with_reducible refine gate_dst (N := 3) rfl ?_); refine box_event ?hg (N := 3) ?hd (cs := #[.int .i64 a1_0, .bool a1_1, .slice A1_2 l1_2.length c1_2]) (t := 29) ?hr ?_; (case hd => rfl); (case hg => rfl); (case hr => (go_simp; done)); intro gb362 hg w23 hbox hb; have BK362 := A_.mk (hbox); have GW362 := A_.mk ((by rw [hg]; exact (below_size HB.out) : w.heap.size ≤ gb362)); have GE362 := A_.mk ((by rw [hg]; exact (below_size HB.out) : w.heap.size ≤ gb362)); replace HB := A_.mk (below_step HB.out hb); have NB361_362 := A_.mk ((by rw [hg]; exact Nat.ne_of_lt (blk_lt BK361.out) : gb361 ≠ gb362)); have NB362_361 := A_.mk ((by rw [hg]; exact Nat.ne_of_gt (blk_lt BK361.out) : gb362 ≠ gb361)); replace BK361 := A_.mk (blk_below BK361.out hb); clear hb hbox hg; have hnb24 := NB361_362.out; have hnc24 := NB362_361.out; have hcz25_0 : w23.cell? ⟨gb361, 0, none⟩ = some (.int .i64 a0_0) := (blk_cell BK361.out 0).trans rfl; have hcz25_1 : w23.cell? ⟨gb361, 1, none⟩ = some (.bool a0_1) := (blk_cell BK361.out 1).trans rfl; have hcz25_2 : w23.cell? ⟨gb361, 2, none⟩ = some (.slice A0_2 l0_2.length c0_2) := (blk_cell BK361.out 2).trans rfl; have hfz25_0 := blk_frozen BK361.out 0; have hfz25_1 := blk_frozen BK361.out 1; have hfz25_2 := blk_frozen BK361.out 2; have hcz26_0 : w23.cell? ⟨gb362, 0, none⟩ = some (.int .i64 a1_0) := (blk_cell BK362.out 0).trans rfl; have hcz26_1 : w23.cell? ⟨gb362, 1, none⟩ = some (.bool a1_1) := (blk_cell BK362.out 1).trans rfl; have hcz26_2 : w23.cell? ⟨gb362, 2, none⟩ = some (.slice A1_2 l1_2.length c1_2) := (blk_cell BK362.out 2).trans rfl; have hfz26_0 := blk_frozen BK362.out 0; have hfz26_1 := blk_frozen BK362.out 1; have hfz26_2 := blk_frozen BK362.out 2))
  go_ret
  exact ⟨by rfl, by repeat ((with_reducible (exact HB.out)))⟩

end Go.Proofs.YtihifglmnjocfaaDoor.PFnExactChanceOfFinal
