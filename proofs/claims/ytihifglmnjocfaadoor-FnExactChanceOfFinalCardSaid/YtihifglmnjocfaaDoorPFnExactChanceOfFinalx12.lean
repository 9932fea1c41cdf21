/- Given functions as plain Lean functions, and that their calls answer these. -/
import Derived.Test.YtihifglmnjocfaaDoorPFnExactChanceOfFinalx0
namespace Go.Proofs.YtihifglmnjocfaaDoor.PFnExactChanceOfFinal
open Go.RowKit Go.Proofs.YtihifglmnjocfaaDoorW.PrintWords Go.Proofs.YtihifglmnjocfaaDoorW.PrintLast Go.Proofs.YtihifglmnjocfaaDoorW.PrintMore
attribute [local go_sem] max2_int min2_int max_two min_two max_three min_three max_four min_four
set_option maxHeartbeats 8000000
set_option maxRecDepth 100000
set_option linter.unusedVariables false
set_option linter.unusedSimpArgs false

/-! ### impl_setOf: function 59 -/
def impl_setOf.l0 : Nat → Int → List Int → Int → Int → Option (Int)
 | 0, _, _, _, _ => none
 | k + 1, x3, x6, x7, x8 => if x8 < x7 then (if 0 ≤ x8 then (if x8 < (x6.length : Int) then (if 0 ≤ (rd x6 x8) then (impl_setOf.l0 k (Go.bits .or .u32 x3 (shl .u32 1 (rd x6 x8))) x6 x7 (wrap64 (x8 + 1))) else (none)) else (none)) else (none)) else (some x3)
def impl_setOf.f (k : Nat) (l0 : List Int) : Option (Int) := impl_setOf.l0 k 0 l0 (l0.length : Int) 0
theorem impl_setOf.mono_l : ∀ k, (∀ y0 y1 y2 y3, LeO (impl_setOf.l0 k y0 y1 y2 y3) (impl_setOf.l0 (k + 1) y0 y1 y2 y3))
 | 0 => fun _ _ _ _ r h => by simp [impl_setOf.l0] at h
 | k + 1 => by
  have ih0 := impl_setOf.mono_l k
  ·intro y0 y1 y2 y3
   unfold impl_setOf.l0
   repeat' first
   | (with_reducible exact ih0 _ _ _ _)
   | (with_reducible exact LeO.refl _)
   | (with_reducible exact LeO.none _)
   | (with_reducible refine LeO.ite ?_ ?_)
   | (with_reducible refine LeO.bind ?_ (fun _ => ?_))
   | exact ih0 _ _ _ _
   | exact LeO.none _
   | refine LeO.ite ?_ ?_
   | refine LeO.bind ?_ (fun _ => ?_)
theorem impl_setOf.mono : ∀ a0 k, LeO (impl_setOf.f k a0) (impl_setOf.f (k + 1) a0) := by
 intro a0 k
 have ih0 := impl_setOf.mono_l k
 unfold impl_setOf.f
 repeat' first
   | (with_reducible exact ih0 _ _ _ _)
   | (with_reducible exact LeO.refl _)
   | (with_reducible exact LeO.none _)
   | (with_reducible refine LeO.ite ?_ ?_)
   | (with_reducible refine LeO.bind ?_ (fun _ => ?_))
   | exact ih0 _ _ _ _
   | exact LeO.none _
   | refine LeO.ite ?_ ?_
   | refine LeO.bind ?_ (fun _ => ?_)
theorem impl_setOf.calls (k : Nat) (A0 : Option Addr) (c0 : Nat) (l0 : List Int) (r : Int) (w : World) (hr0 : Kd.C (Kd.int .i64) w A0 l0.length l0) (hc0 : l0.length ≤ c0) (h : impl_setOf.f k l0 = some r) :
  Calls Tryd.prog 59 #[.slice A0 l0.length c0] w fun e w' => e = .returned (.int .u32 r) ∧ Drawn0 w w' := by
 have HR0 := A_.mk hr0
 have HC0 := A_.mk hc0
 clear hr0 hc0
 have H : (impl_setOf.l0 k 0 l0 (l0.length : Int) 0) = some r := h
 clear h
 have H' := A_.mk H
 clear H
 go_enter Tryd.func59, Tryd.ntmps59
 go_wp2
 go_loopg [3, 8] k (fun kq v3 v8 w' => ∃ (x3_1 : Int) (x8_1 : Int), v3 = .int .u32 x3_1 ∧ v8 = .int .i64 x8_1 ∧ A_ (impl_setOf.l0 kq x3_1 l0 (l0.length : Int) x8_1 = some r) ∧ A_ (kq ≤ k) ∧ Drawn0 w w')
 case atStart => exact ⟨(0), (0), (by rfl), (by rfl), H', ⟨Nat.le_refl _⟩, by repeat (exact Drawn0.refl _)⟩
 case round =>
  clear H'
  obtain ⟨x3_1, x8_1, rfl, rfl, HA, HK1, ⟨m1, rfl⟩⟩ := hrel
  cases gk with
  | zero => exact absurd HA.out (by simp [impl_setOf.l0])
  | succ k1 =>
   have H := HA.out
   clear HA
   simp only [impl_setOf.l0] at H
   by_cases c2 : x8_1 < (l0.length : Int)
   ·rw [if_pos c2] at H
    have c2b0 : decide (x8_1 < (l0.length : Int)) = true := decide_eq_true c2
    clear c2
    by_cases c3 : 0 ≤ x8_1
    ·rw [if_pos c3] at H
     have c3b0 : decide (0 ≤ x8_1) = true := decide_eq_true c3
     clear c3
     by_cases c4 : x8_1 < (l0.length : Int)
     ·rw [if_pos c4] at H
      have c4b0 : decide (x8_1 < (l0.length : Int)) = true := decide_eq_true c4
      clear c4
      by_cases c5 : 0 ≤ (rd l0 x8_1)
      ·rw [if_pos c5] at H
       have c5b0 := eq_true c5
       have c5b1 : decide (0 ≤ (rd l0 x8_1)) = true := decide_eq_true c5
       clear c5
       obtain ⟨ji6, hji6⟩ : ∃ j_ : Int, (shl .u32 1 (rd l0 x8_1)) = j_ := ⟨_, rfl⟩
       replace H : (impl_setOf.l0 k1 (Go.bits .or .u32 x3_1 (ji6)) l0 (l0.length : Int) (wrap64 (x8_1 + 1))) = some r := by (rw [hji6] at H; exact H)
       have hji6_ : (IntKind.u32.wrap (1 * 2 ^ min (rd l0 x8_1).toNat 32)) = ji6 := hji6
       have hji6z : (rd l0 x8_1) ≤ 32 → (IntKind.u32.wrap (1 * 2 ^ (rd l0 x8_1).toNat)) = ji6 := shl_small hji6
       have hji6u : (IntKind.u32.wrap (2 ^ min (rd l0 x8_1).toNat 32)) = ji6 := by have h_ := hji6_; rw [Int.one_mul] at h_; exact h_
       have hji6v : (rd l0 x8_1) ≤ 32 → (IntKind.u32.wrap (2 ^ (rd l0 x8_1).toNat)) = ji6 := fun hle_ => by have h_ := hji6z hle_; rw [Int.one_mul] at h_; exact h_
       have H' := A_.mk H
       clear H
       have p327 : 0 ≤ (x8_1 : Int) := of_decide_eq_true (by (with_reducible assumption))
       have q327 : x8_1 < (l0.length : Int) := of_decide_eq_true (by (with_reducible assumption))
       skip
       obtain ⟨ad327, e327, hx327_0⟩ := Kd.at_int HR0.out x8_1 p327 q327
       cases e327
       replace p327 := eq_true p327
       replace q327 := eq_true q327
       go_wp2
       (go_roundg k1)
       case measure => have := HK1.out; omega
       case rel => exact ⟨(Go.bits .or .u32 x3_1 (ji6)), (wrap64 (x8_1 + 1)), (by rfl), (by rfl), H', ⟨by have := HK1.out; omega⟩, by repeat (first | exact Drawn0.refl _ | apply Drawn0.step)⟩
      ·rw [if_neg c5] at H
       exact absurd H (by simp)
     ·rw [if_neg c4] at H
      exact absurd H (by simp)
    ·rw [if_neg c3] at H
     exact absurd H (by simp)
   ·rw [if_neg c2] at H
    have c2b0 : decide (x8_1 < (l0.length : Int)) = false := decide_eq_false c2
    clear c2
    obtain rfl := Option.some.inj H
    go_wp2
    go_ret
    exact ⟨by rfl, by repeat (first | exact Drawn0.refl _ | apply Drawn0.step)⟩

/-! ### impl_Row_taken: function 30 -/
def impl_Row_taken.f (k : Nat) (a0_0 : Int) (a0_1 : Bool) (l0_2 : List Int) : Option (Int) := (impl_setOf.f k l0_2).bind fun t329 => (some t329)
theorem impl_Row_taken.mono : ∀ a0 a1 a2 k, LeO (impl_Row_taken.f k a0 a1 a2) (impl_Row_taken.f (k + 1) a0 a1 a2) := by
 intro a0 a1 a2 k
 unfold impl_Row_taken.f
 repeat' first
   | (with_reducible exact impl_setOf.mono _ _)
   | (with_reducible exact LeO.refl _)
   | (with_reducible exact LeO.none _)
   | (with_reducible refine LeO.ite ?_ ?_)
   | (with_reducible refine LeO.bind ?_ (fun _ => ?_))
   | exact impl_setOf.mono _ _
   | exact LeO.none _
   | refine LeO.ite ?_ ?_
   | refine LeO.bind ?_ (fun _ => ?_)
theorem impl_Row_taken.calls (k : Nat) (a0_0 : Int) (a0_1 : Bool) (A0_2 : Option Addr) (c0_2 : Nat) (l0_2 : List Int) (r : Int) (w : World) (hr0_2 : Kd.C (Kd.int .i64) w A0_2 l0_2.length l0_2) (hc0_2 : l0_2.length ≤ c0_2) (h : impl_Row_taken.f k a0_0 a0_1 l0_2 = some r) :
  Calls Tryd.prog 30 #[.agg #[.int .i64 a0_0, .bool a0_1, .slice A0_2 l0_2.length c0_2]] w fun e w' => e = .returned (.int .u32 r) ∧ Below w.heap.size w w' := by
 have hu29 := Tryd.underlying29
 have HR0_2 := A_.mk hr0_2
 have HC0_2 := A_.mk hc0_2
 clear hr0_2 hc0_2
 have HB := A_.mk (Below.refl w.heap.size w)
 have H : ((impl_setOf.f k l0_2).bind fun t329 => (some t329)) = some r := h
 clear h
 replace H := Option.bind_eq_some_iff.mp H
 obtain ⟨t329, A20, H⟩ := H
 replace H : (some t329) = some r := H
 have A2 := A_.mk A20
 clear A20
 obtain rfl := Option.some.inj H
 go_enter Tryd.func30, Tryd.ntmps30
 go_wp2_with (first | ((with_reducible refine gate_dst (N := 1) rfl ?_); refine box_event ?hg (N := 1) ?hd (cs := #[.int .i64 a0_0, .bool a0_1, .slice A0_2 l0_2.length c0_2]) (t := 29) ?hr ?_; (case hd => rfl); (case hg => rfl); (case hr => (go_simp; done)); intro gb328 hg w3 hbox hb; replace HB := A_.mk (below_step (by repeat ((with_reducible (exact HB.out)))) hb); have BK328 := A_.mk (hbox); clear hb hbox hg; have hcz4_0 : w3.cell? ⟨gb328, 0, none⟩ = some (.int .i64 a0_0) := (blk_cell BK328.out 0).trans rfl; have hcz4_1 : w3.cell? ⟨gb328, 1, none⟩ = some (.bool a0_1) := (blk_cell BK328.out 1).trans rfl; have hcz4_2 : w3.cell? ⟨gb328, 2, none⟩ = some (.slice A0_2 l0_2.length c0_2) := (blk_cell BK328.out 2).trans rfl; have hfz4_0 := blk_frozen BK328.out 0; have hfz4_1 := blk_frozen BK328.out 1; have hfz4_2 := blk_frozen BK328.out 2) | ((with_reducible refine gate_callee (f := 59) rfl ?_); refine goesL_ (some 5) rfl rfl Tryd.func59 (by kernel_rfl) rfl #[.slice A0_2 l0_2.length c0_2] rfl (by (try simp only [List.map_toArray, List.map_cons, List.map_nil]); (rfl)) ?_; (with_reducible refine (impl_setOf.calls k _ _ l0_2 t329 _ ?side1 ?side2 A2.out).mono ?_); (case side1 => repeat (exact (Kd.C_below HR0_2.out HB.out))); (case side2 => exact HC0_2.out); rintro e w' ⟨rfl, ⟨nd, rfl⟩⟩; refine ⟨_, rfl, ?_⟩))
 go_ret
 exact ⟨by rfl, by repeat ((with_reducible first | exact HB.out | apply pw_below_drewN))⟩

/-! ### bits_TrailingZeros32: function 77 -/
def bits_TrailingZeros32.f (a0 : Int) : Option (Int) := if a0 = 0 then (some 32) else (if 0 ≤ (((Go.bits .and .u32 a0 ((-a0) % 4294967296)) * 125613361) % 4294967296) / 134217728 then (if (((Go.bits .and .u32 a0 ((-a0) % 4294967296)) * 125613361) % 4294967296) / 134217728 < 32 then (some (wrap64 (rd xtab0 ((((Go.bits .and .u32 a0 ((-a0) % 4294967296)) * 125613361) % 4294967296) / 134217728)))) else (none)) else (none))
theorem bits_TrailingZeros32.calls (a0 : Int) (r : Int) (w : World) (hT : XTab w) (h : bits_TrailingZeros32.f a0 = some r) :
  Calls Tryd.prog 77 #[.int .u32 a0] w fun e w' => e = .returned (.int .i64 r) ∧ Drawn0 w w' := by
 have HT := A_.mk hT
 clear hT
 unfold bits_TrailingZeros32.f at h
 by_cases c1 : a0 = 0
 ·rw [if_pos c1] at h
  obtain rfl := Option.some.inj h
  have c1b0 : (a0 == 0) = true := beq_iff_eq.mpr c1
  clear c1 h
  go_enter Tryd.func77, Tryd.ntmps77
  go_wp2
  go_ret
  exact ⟨by rfl, by repeat (exact Drawn0.refl _)⟩
 ·rw [if_neg c1] at h
  have c1b0 : (a0 == 0) = false := beq_eq_false_iff_ne.mpr c1
  clear c1
  obtain ⟨j, hj⟩ : ∃ j_ : Int, ((((Go.bits .and .u32 a0 ((-a0) % 4294967296)) * 125613361) % 4294967296) / 134217728) = j_ := ⟨_, rfl⟩
  rw [hj] at h
  by_cases c2 : 0 ≤ j
  ·rw [if_pos c2] at h
   by_cases c3 : j < 32
   ·rw [if_pos c3] at h
    obtain rfl := Option.some.inj h
    clear h
    have hc : w.cell? ⟨0, j.toNat, none⟩ = some (.int .u8 (rd xtab0 j)) := HT.out j.toNat (by omega)
    have c2b : decide (0 ≤ j) = true := decide_eq_true c2
    have c3b : decide (j < 32) = true := decide_eq_true c3
    have c2c := eq_true c2
    have c3c := eq_true c3
    clear c2 c3
    go_enter Tryd.func77, Tryd.ntmps77
    go_wp2
    go_ret
    exact ⟨by rfl, by repeat (exact Drawn0.refl _)⟩
   ·rw [if_neg c3] at h
    exact absurd h (by simp)
  ·rw [if_neg c2] at h
   exact absurd h (by simp)

/-! ### impl_set_list: function 63 -/
def impl_set_list.l0 : Nat → Int → List Int → Option (List Int)
 | 0, _, _ => none
 | k + 1, x0, x3 => if x0 = 0 then (some x3) else ((bits_TrailingZeros32.f x0).bind fun t333 => (if x3.length < 17592186044416 then (impl_set_list.l0 k (Go.bits .and .u32 x0 ((x0 - 1) % 4294967296)) (x3 ++ [t333])) else (none)))
def impl_set_list.f (k : Nat) (a0 : Int) : Option (List Int) := impl_set_list.l0 k a0 (([] : List Int))
theorem impl_set_list.mono_l : ∀ k, (∀ y0 y1, LeO (impl_set_list.l0 k y0 y1) (impl_set_list.l0 (k + 1) y0 y1))
 | 0 => fun _ _ r h => by simp [impl_set_list.l0] at h
 | k + 1 => by
  have ih0 := impl_set_list.mono_l k
  ·intro y0 y1
   unfold impl_set_list.l0
   repeat' first
   | (with_reducible exact ih0 _ _)
   | (with_reducible exact LeO.refl _)
   | (with_reducible exact LeO.none _)
   | (with_reducible refine LeO.ite ?_ ?_)
   | (with_reducible refine LeO.bind ?_ (fun _ => ?_))
   | exact ih0 _ _
   | exact LeO.none _
   | refine LeO.ite ?_ ?_
   | refine LeO.bind ?_ (fun _ => ?_)
theorem impl_set_list.mono : ∀ a0 k, LeO (impl_set_list.f k a0) (impl_set_list.f (k + 1) a0) := by
 intro a0 k
 have ih0 := impl_set_list.mono_l k
 unfold impl_set_list.f
 repeat' first
   | (with_reducible exact ih0 _ _)
   | (with_reducible exact LeO.refl _)
   | (with_reducible exact LeO.none _)
   | (with_reducible refine LeO.ite ?_ ?_)
   | (with_reducible refine LeO.bind ?_ (fun _ => ?_))
   | exact ih0 _ _
   | exact LeO.none _
   | refine LeO.ite ?_ ?_
   | refine LeO.bind ?_ (fun _ => ?_)
theorem impl_set_list.calls (k : Nat) (a0 : Int) (r : List Int) (w : World) (hT : XTab w) (h : impl_set_list.f k a0 = some r) :
  Calls Tryd.prog 63 #[.int .u32 a0] w fun e w' => ∃ v0_ : Value, e = .returned (v0_) ∧ Kd.R (Kd.int .i64) 3 w' w.heap.size (fun _ => True) v0_ r ∧ Below w.heap.size w w' := by
 have HB := A_.mk (Below.refl w.heap.size w)
 have HT := A_.mk hT
 clear hT
 have H : (impl_set_list.l0 k a0 (([] : List Int))) = some r := h
 clear h
 obtain ⟨y330, hy330⟩ : ∃ y_ : List Int, y_ = (([] : List Int)) := ⟨_, rfl⟩
 replace H : (impl_set_list.l0 k a0 y330) = some r := by (rw [hy330]; with_reducible exact H)
 have Ny330 := A_.mk hy330
 clear hy330
 have H' := A_.mk H
 clear H
 go_enter Tryd.func63, Tryd.ntmps63
 go_wp2_with (((with_reducible refine gate_dst (N := 4) rfl ?_); refine Kd.R_lit (Kd.int .i64) _ 3 ?hg (N := 4) ?hd (xs := ([] : List Int)) (inner := []) (ok := fun _ => True) (okp := fun _ => True) ?hr ?hp (fun _ hk => hk) trivial (Below.refl _ _) (Nat.le_refl _) (by simp) ?_; (case hd => rfl); (case hg => rfl); (case hr => (go_simp; done)); (case hp => exact (Reps.none _ _)); intro v331 w2 ho3 hb hg_ hnew_; clear hg_ hnew_; (rw [← Ny330.out] at ho3); have HO332 := A_.mk (Kd.R_lower ho3 (below_size (by repeat ((with_reducible (exact HB.out)))))); replace HB := A_.mk (below_step (by repeat ((with_reducible (exact HB.out)))) hb); clear hb ho3))
 go_loopg [0, 3] k (fun kq v0 v3 w' => ∃ (x0_1 : Int) (x3_1 : List Int), v0 = .int .u32 x0_1 ∧ A_ (impl_set_list.l0 kq x0_1 x3_1 = some r) ∧ A_ (kq ≤ k) ∧ A_ (Kd.R (Kd.int .i64) 3 w' w.heap.size (fun _ => True) v3 x3_1) ∧ A_ (Below w.heap.size w w'))
 case atStart => exact ⟨(a0), (y330), (by rfl), H', ⟨Nat.le_refl _⟩, ⟨by (with_reducible repeat (apply Kd.R_alloc)); exact HO332.out⟩, ⟨by repeat ((with_reducible (exact HB.out)))⟩⟩
 case round =>
  clear H'
  try clear p2
  obtain ⟨x0_1, x3_1, rfl, HA, HK1, HO_3, HB⟩ := hrel
  cases gk with
  | zero => exact absurd HA.out (by simp [impl_set_list.l0])
  | succ k1 =>
   have H := HA.out
   clear HA
   simp only [impl_set_list.l0] at H
   by_cases c4 : x0_1 = 0
   ·rw [if_pos c4] at H
    have c4b0 : (x0_1 == 0) = true := beq_iff_eq.mpr c4
    have c4b1 : (x0_1 != 0) = false := bne_eq_false_iff_eq.mpr c4
    clear c4
    obtain rfl := Option.some.inj H
    go_wp2
    go_ret
    exact ⟨_, by rfl, by (with_reducible repeat (apply Kd.R_alloc)); exact HO_3.out, by repeat ((with_reducible (exact HB.out)))⟩
   ·rw [if_neg c4] at H
    have c4b0 : (x0_1 == 0) = false := beq_eq_false_iff_ne.mpr c4
    have c4b1 : (x0_1 != 0) = true := bne_iff_ne.mpr c4
    replace H := Option.bind_eq_some_iff.mp H
    obtain ⟨t333, A50, H⟩ := H
    replace H : (if x3_1.length < 17592186044416 then (impl_set_list.l0 k1 (Go.bits .and .u32 x0_1 ((x0_1 - 1) % 4294967296)) (x3_1 ++ [t333])) else (none)) = some r := H
    have A5 := A_.mk A50
    clear A50
    by_cases c6 : x3_1.length < 17592186044416
    ·rw [if_pos c6] at H
     have LMc6 := A_.mk c6
     clear c6
     obtain ⟨y334, hy334⟩ : ∃ y_ : List Int, y_ = (x3_1 ++ [t333]) := ⟨_, rfl⟩
     replace H : (impl_set_list.l0 k1 (Go.bits .and .u32 x0_1 ((x0_1 - 1) % 4294967296)) y334) = some r := by (rw [hy334]; with_reducible exact H)
     have Ny334 := A_.mk hy334
     clear hy334
     have H' := A_.mk H
     clear H
     go_wp2_with (first | ((with_reducible refine gate_callee (f := 77) rfl ?_); refine goesL_ (some 13) rfl rfl Tryd.func77 (by kernel_rfl) rfl #[.int .u32 x0_1] rfl (by (try simp only [List.map_toArray, List.map_cons, List.map_nil]); (rfl)) ?_; (with_reducible refine (bits_TrailingZeros32.calls x0_1 t333 _ ?side1 A5.out).mono ?_); (case side1 => exact XTab.below HT.out (by repeat ((with_reducible (exact HB.out))))); rintro e w' ⟨rfl, ⟨nd, rfl⟩⟩; refine ⟨_, rfl, ?_⟩) | ((with_reducible refine gate_builtin (b := .append) (xs := #[.tmp 11, .tmp 14]) rfl ?_); at_builtin; refine Kd.R_append (Kd.int .i64) (w0 := w) w.heap.size rfl (.tmp 11) (.tmp 14) 22 3 (.int .i64 0) 8 rfl Tryd.underlying22 info3 rfl (by decide) (by omega) u3 x3_1 t333 [.int .i64 t333] (fun _ => True) (fun _ => False) rfl rfl ?aP (fun _ hk => hk.elim) ?aF ?aO ?aB ?aS ?aL ?_; (case aP => exact rfl); (case aB => exact (by repeat ((with_reducible first | exact HB.out | apply pw_below_drewN)))); (case aF => exact (fun _ _ => trivial)); (case aO => exact (by (with_reducible repeat (apply Kd.R_drewN)); exact HO_3.out)); (case aS => exact (below_size (by repeat ((with_reducible first | exact HB.out | apply pw_below_drewN))))); (case aL => have := LMc6.out; omega); intro v335 w7 ho hb hg hat; rw [← Ny334.out] at ho; replace HB := A_.mk (hb); have HO336 := A_.mk (ho); clear HO_3; clear ho hb hg hat))
     go_roundg k1
     case measure => have := HK1.out; omega
     case rel => exact ⟨(Go.bits .and .u32 x0_1 ((x0_1 - 1) % 4294967296)), (y334), (by rfl), H', ⟨by have := HK1.out; omega⟩, ⟨by (with_reducible repeat (apply Kd.R_alloc)); exact HO336.out⟩, ⟨by repeat ((with_reducible (exact HB.out)))⟩⟩
    ·rw [if_neg c6] at H
     exact absurd H (by simp)

/-! ### impl_set_has: function 94 -/
def impl_set_has.f (a0 : Int) (a1 : Int) : Option (Bool) := if 0 ≤ a1 then (some ((Go.bits .and .u32 (shr .u32 a0 a1) 1) == 1)) else (none)
theorem impl_set_has.calls (a0 : Int) (a1 : Int) (r : Bool) (w : World) (h : impl_set_has.f a0 a1 = some r) :
  Calls Tryd.prog 94 #[.int .u32 a0, .int .i64 a1] w fun e w' => e = .returned (.bool r) ∧ Drawn0 w w' := by
 have H : (if 0 ≤ a1 then (some ((Go.bits .and .u32 (shr .u32 a0 a1) 1) == 1)) else (none)) = some r := h
 clear h
 by_cases c3 : 0 ≤ a1
 ·rw [if_pos c3] at H
  have c3b0 := eq_true c3
  have c3b1 : decide (0 ≤ a1) = true := decide_eq_true c3
  clear c3
  obtain ⟨ji4, hji4⟩ : ∃ j_ : Int, (shr .u32 a0 a1) = j_ := ⟨_, rfl⟩
  replace H : (some ((Go.bits .and .u32 (ji4) 1) == 1)) = some r := by (rw [hji4] at H; exact H)
  have hji4_ : (a0 / 2 ^ min a1.toNat 32) = ji4 := hji4
  have hji4z : a1 ≤ 32 → (a0 / 2 ^ a1.toNat) = ji4 := shr_small hji4
  obtain rfl := Option.some.inj H
  go_enter Tryd.func94, Tryd.ntmps94
  go_wp2
  go_ret
  exact ⟨by rfl, by repeat (exact Drawn0.refl _)⟩
 ·rw [if_neg c3] at H
  exact absurd H (by simp)

/-! ### impl_bench_gap: function 102 -/
def impl_bench_gap.f (a0_0 : Int) (a0_1 : Bool) (a1 : Int) (a2 : Int) : Option (Int) := if a0_1 = true then (some (mn (mx (wrap64 (a1 - a2)) (wrap64 (a2 - a1))) (wrap64 (a0_0 - (mx (wrap64 (a1 - a2)) (wrap64 (a2 - a1))))))) else (some (mx (wrap64 (a1 - a2)) (wrap64 (a2 - a1))))
theorem impl_bench_gap.calls (a0_0 : Int) (a0_1 : Bool) (a1 : Int) (a2 : Int) (r : Int) (w : World) (h : impl_bench_gap.f a0_0 a0_1 a1 a2 = some r) :
  Calls Tryd.prog 102 #[.agg #[.int .i64 a0_0, .bool a0_1], .int .i64 a1, .int .i64 a2] w fun e w' => e = .returned (.int .i64 r) ∧ Below w.heap.size w w' := by
 have hu63 := Tryd.underlying63
 have HB := A_.mk (Below.refl w.heap.size w)
 have H : (if a0_1 = true then (some (mn (mx (wrap64 (a1 - a2)) (wrap64 (a2 - a1))) (wrap64 (a0_0 - (mx (wrap64 (a1 - a2)) (wrap64 (a2 - a1))))))) else (some (mx (wrap64 (a1 - a2)) (wrap64 (a2 - a1))))) = some r := h
 clear h
 obtain ⟨ji4, hji4⟩ : ∃ j_ : Int, (mx (wrap64 (a1 - a2)) (wrap64 (a2 - a1))) = j_ := ⟨_, rfl⟩
 replace H : (if a0_1 = true then (some (mn (ji4) (wrap64 (a0_0 - (ji4))))) else (some ji4)) = some r := by (rw [hji4] at H; exact H)
 have hji4_ : (if (wrap64 (a1 - a2)) < (wrap64 (a2 - a1)) then (wrap64 (a2 - a1)) else (wrap64 (a1 - a2))) = ji4 := hji4
 by_cases c5 : a0_1 = true
 ·subst c5
  have H1 : (some (mn (ji4) (wrap64 (a0_0 - (ji4))))) = some r := by rw [if_pos rfl] at H; exact H
  clear H
  have H := H1
  clear H1
  obtain ⟨ji6, hji6⟩ : ∃ j_ : Int, (mn (ji4) (wrap64 (a0_0 - (ji4)))) = j_ := ⟨_, rfl⟩
  replace H : (some ji6) = some r := by (rw [hji6] at H; exact H)
  have hji6_ : (if (wrap64 (a0_0 - (ji4))) < (ji4) then (wrap64 (a0_0 - (ji4))) else (ji4)) = ji6 := hji6
  obtain rfl := Option.some.inj H
  go_enter Tryd.func102, Tryd.ntmps102
  go_wp2_with (((with_reducible refine gate_dst (N := 3) rfl ?_); refine box_event ?hg (N := 3) ?hd (cs := #[.int .i64 a0_0, .bool true]) (t := 63) ?hr ?_; (case hd => rfl); (case hg => rfl); (case hr => (go_simp; done)); intro gb337 hg w7 hbox hb; have BK337 := A_.mk (hbox); have GW337 := A_.mk ((by rw [hg]; exact (below_size (by repeat ((with_reducible (exact HB.out))))) : w.heap.size ≤ gb337)); have GE337 := A_.mk ((by rw [hg]; exact (below_size (by repeat ((with_reducible (exact HB.out))))) : w.heap.size ≤ gb337)); replace HB := A_.mk (below_step (by repeat ((with_reducible (exact HB.out)))) hb); clear hb hbox hg; have hcz8_0 : w7.cell? ⟨gb337, 0, none⟩ = some (.int .i64 a0_0) := (blk_cell BK337.out 0).trans rfl; have hcz8_1 : w7.cell? ⟨gb337, 1, none⟩ = some (.bool true) := (blk_cell BK337.out 1).trans rfl; have hfz8_0 := blk_frozen BK337.out 0; have hfz8_1 := blk_frozen BK337.out 1))
  go_ret
  exact ⟨by rfl, by repeat ((with_reducible (exact HB.out)))⟩
 ·replace c5 := Bool.eq_false_iff.mpr c5
  subst c5
  have H1 : (some ji4) = some r := by rw [if_neg (show ¬ (false = true) by decide)] at H; exact H
  clear H
  have H := H1
  clear H1
  obtain rfl := Option.some.inj H
  go_enter Tryd.func102, Tryd.ntmps102
  go_wp2_with (((with_reducible refine gate_dst (N := 3) rfl ?_); refine box_event ?hg (N := 3) ?hd (cs := #[.int .i64 a0_0, .bool false]) (t := 63) ?hr ?_; (case hd => rfl); (case hg => rfl); (case hr => (go_simp; done)); intro gb337 hg w9 hbox hb; have BK337 := A_.mk (hbox); have GW337 := A_.mk ((by rw [hg]; exact (below_size (by repeat ((with_reducible (exact HB.out))))) : w.heap.size ≤ gb337)); have GE337 := A_.mk ((by rw [hg]; exact (below_size (by repeat ((with_reducible (exact HB.out))))) : w.heap.size ≤ gb337)); replace HB := A_.mk (below_step (by repeat ((with_reducible (exact HB.out)))) hb); clear hb hbox hg; have hcz10_0 : w9.cell? ⟨gb337, 0, none⟩ = some (.int .i64 a0_0) := (blk_cell BK337.out 0).trans rfl; have hcz10_1 : w9.cell? ⟨gb337, 1, none⟩ = some (.bool false) := (blk_cell BK337.out 1).trans rfl; have hfz10_0 := blk_frozen BK337.out 0; have hfz10_1 := blk_frozen BK337.out 1))
  go_ret
  exact ⟨by rfl, by repeat ((with_reducible (exact HB.out)))⟩

/-! ### impl_bench_near: function 95 -/
def impl_bench_near.l0 : Nat → Int → Int → Int → Int → Int → Bool → Option (Int)
 | 0, _, _, _, _, _, _ => none
 | k + 1, x1, x5, x8, x9, x339000, x339001 => if x9 < x8 then ((impl_bench_gap.f x339000 x339001 x1 x9).bind fun t339 => (if t339 = 1 then (if 0 ≤ x9 then (impl_bench_near.l0 k x1 (Go.bits .or .u32 x5 (shl .u32 1 x9)) x8 (wrap64 (x9 + 1)) x339000 x339001) else (none)) else (impl_bench_near.l0 k x1 x5 x8 (wrap64 (x9 + 1)) x339000 x339001))) else (some x5)
def impl_bench_near.f (k : Nat) (a0_0 : Int) (a0_1 : Bool) (a1 : Int) : Option (Int) := impl_bench_near.l0 k a1 0 a0_0 0 a0_0 a0_1
theorem impl_bench_near.mono_l : ∀ k, (∀ y0 y1 y2 y3 y4 y5, LeO (impl_bench_near.l0 k y0 y1 y2 y3 y4 y5) (impl_bench_near.l0 (k + 1) y0 y1 y2 y3 y4 y5))
 | 0 => fun _ _ _ _ _ _ r h => by simp [impl_bench_near.l0] at h
 | k + 1 => by
  have ih0 := impl_bench_near.mono_l k
  ·intro y0 y1 y2 y3 y4 y5
   unfold impl_bench_near.l0
   repeat' first
   | (with_reducible exact ih0 _ _ _ _ _ _)
   | (with_reducible exact LeO.refl _)
   | (with_reducible exact LeO.none _)
   | (with_reducible refine LeO.ite ?_ ?_)
   | (with_reducible refine LeO.bind ?_ (fun _ => ?_))
   | exact ih0 _ _ _ _ _ _
   | exact LeO.none _
   | refine LeO.ite ?_ ?_
   | refine LeO.bind ?_ (fun _ => ?_)
theorem impl_bench_near.mono : ∀ a0 a1 a2 k, LeO (impl_bench_near.f k a0 a1 a2) (impl_bench_near.f (k + 1) a0 a1 a2) := by
 intro a0 a1 a2 k
 have ih0 := impl_bench_near.mono_l k
 unfold impl_bench_near.f
 repeat' first
   | (with_reducible exact ih0 _ _ _ _ _ _)
   | (with_reducible exact LeO.refl _)
   | (with_reducible exact LeO.none _)
   | (with_reducible refine LeO.ite ?_ ?_)
   | (with_reducible refine LeO.bind ?_ (fun _ => ?_))
   | exact ih0 _ _ _ _ _ _
   | exact LeO.none _
   | refine LeO.ite ?_ ?_
   | refine LeO.bind ?_ (fun _ => ?_)
theorem impl_bench_near.calls (k : Nat) (a0_0 : Int) (a0_1 : Bool) (a1 : Int) (r : Int) (w : World) (h : impl_bench_near.f k a0_0 a0_1 a1 = some r) :
  Calls Tryd.prog 95 #[.agg #[.int .i64 a0_0, .bool a0_1], .int .i64 a1] w fun e w' => e = .returned (.int .u32 r) ∧ Below w.heap.size w w' := by
 have hu63 := Tryd.underlying63
 have HB := A_.mk (Below.refl w.heap.size w)
 have H : (impl_bench_near.l0 k a1 0 a0_0 0 a0_0 a0_1) = some r := h
 clear h
 have H' := A_.mk H
 clear H
 go_enter Tryd.func95, Tryd.ntmps95
 go_wp2_with (((with_reducible refine gate_dst (N := 2) rfl ?_); refine box_event ?hg (N := 2) ?hd (cs := #[.int .i64 a0_0, .bool a0_1]) (t := 63) ?hr ?_; (case hd => rfl); (case hg => rfl); (case hr => (go_simp; done)); intro gb338 hg w3 hbox hb; replace HB := A_.mk (below_step (by repeat ((with_reducible (exact HB.out)))) hb); have BK338 := A_.mk (hbox); clear hb hbox hg; have hcz4_0 : w3.cell? ⟨gb338, 0, none⟩ = some (.int .i64 a0_0) := (blk_cell BK338.out 0).trans rfl; have hcz4_1 : w3.cell? ⟨gb338, 1, none⟩ = some (.bool a0_1) := (blk_cell BK338.out 1).trans rfl; have hfz4_0 := blk_frozen BK338.out 0; have hfz4_1 := blk_frozen BK338.out 1))
 go_loopg [5, 9] k (fun kq v5 v9 w' => ∃ (x5_1 : Int) (x9_1 : Int), v5 = .int .u32 x5_1 ∧ v9 = .int .i64 x9_1 ∧ A_ (impl_bench_near.l0 kq a1 x5_1 a0_0 x9_1 a0_0 a0_1 = some r) ∧ A_ (kq ≤ k) ∧ A_ (w'.heap[gb338]? = some (.cells #[.int .i64 a0_0, .bool a0_1] 63 (0, 0))) ∧ A_ (Below w.heap.size w w'))
 case atStart => exact ⟨(0), (0), (by rfl), (by rfl), H', ⟨Nat.le_refl _⟩, ⟨by (with_reducible repeat (refine blk_drewN ?_ _)); exact BK338.out⟩, ⟨by repeat ((with_reducible (exact HB.out)))⟩⟩
 case round =>
  clear H'
  try clear p2
  try clear hcz4_0
  try clear hcz4_1
  try clear hfz4_0
  try clear hfz4_1
  obtain ⟨x5_1, x9_1, rfl, rfl, HA, HK1, BK338, HB⟩ := hrel
  cases gk with
  | zero => exact absurd HA.out (by simp [impl_bench_near.l0])
  | succ k1 =>
   have H := HA.out
   clear HA
   simp only [impl_bench_near.l0] at H
   by_cases c5 : x9_1 < a0_0
   ·rw [if_pos c5] at H
    have c5b0 : decide (x9_1 < a0_0) = true := decide_eq_true c5
    clear c5
    replace H := Option.bind_eq_some_iff.mp H
    obtain ⟨t339, A60, H⟩ := H
    replace H : (if t339 = 1 then (if 0 ≤ x9_1 then (impl_bench_near.l0 k1 a1 (Go.bits .or .u32 x5_1 (shl .u32 1 x9_1)) a0_0 (wrap64 (x9_1 + 1)) a0_0 a0_1) else (none)) else (impl_bench_near.l0 k1 a1 x5_1 a0_0 (wrap64 (x9_1 + 1)) a0_0 a0_1)) = some r := H
    have A6 := A_.mk A60
    clear A60
    by_cases c7 : t339 = 1
    ·rw [if_pos c7] at H
     have c7b0 : (t339 == 1) = true := beq_iff_eq.mpr c7
     have c7b1 : (t339 != 1) = false := bne_eq_false_iff_eq.mpr c7
     clear c7
     by_cases c8 : 0 ≤ x9_1
     ·rw [if_pos c8] at H
      have c8b0 := eq_true c8
      have c8b1 : decide (0 ≤ x9_1) = true := decide_eq_true c8
      clear c8
      obtain ⟨ji9, hji9⟩ : ∃ j_ : Int, (shl .u32 1 x9_1) = j_ := ⟨_, rfl⟩
      replace H : (impl_bench_near.l0 k1 a1 (Go.bits .or .u32 x5_1 (ji9)) a0_0 (wrap64 (x9_1 + 1)) a0_0 a0_1) = some r := by (rw [hji9] at H; exact H)
      skip
      have hji9_ : (IntKind.u32.wrap (1 * 2 ^ min x9_1.toNat 32)) = ji9 := hji9
      have hji9z : x9_1 ≤ 32 → (IntKind.u32.wrap (1 * 2 ^ x9_1.toNat)) = ji9 := shl_small hji9
      have hji9u : (IntKind.u32.wrap (2 ^ min x9_1.toNat 32)) = ji9 := by have h_ := hji9_; rw [Int.one_mul] at h_; exact h_
      have hji9v : x9_1 ≤ 32 → (IntKind.u32.wrap (2 ^ x9_1.toNat)) = ji9 := fun hle_ => by have h_ := hji9z hle_; rw [Int.one_mul] at h_; exact h_
      have H' := A_.mk H
      clear H
      have hcz10_0 : wr.cell? ⟨gb338, 0, none⟩ = some (.int .i64 a0_0) := (blk_cell BK338.out 0).trans rfl
      have hcz10_1 : wr.cell? ⟨gb338, 1, none⟩ = some (.bool a0_1) := (blk_cell BK338.out 1).trans rfl
      have hfz10_0 := blk_frozen BK338.out 0
      have hfz10_1 := blk_frozen BK338.out 1
      go_wp2_with (((with_reducible refine gate_callee (f := 102) rfl ?_); refine goesL_ (some 15) rfl rfl Tryd.func102 (by kernel_rfl) rfl #[.agg #[.int .i64 a0_0, .bool a0_1], .int .i64 a1, .int .i64 x9_1] rfl (by (try simp only [List.map_toArray, List.map_cons, List.map_nil]); (rfl)) ?_; (with_reducible refine (impl_bench_gap.calls a0_0 a0_1 a1 x9_1 t339 _ A6.out).mono ?_); rintro e w11 ⟨rfl, hb⟩; refine ⟨_, rfl, ?_⟩; replace BK338 := A_.mk (blk_below (g := gb338) (o := .cells #[.int .i64 a0_0, .bool a0_1] 63 (0, 0)) (by (with_reducible repeat (refine blk_drewN ?_ _)); exact BK338.out) hb); replace HB := A_.mk (below_step (by repeat ((with_reducible (exact HB.out)))) hb); (try clear hb)))
      (go_roundg k1)
      case measure => have := HK1.out; omega
      case rel => exact ⟨(Go.bits .or .u32 x5_1 (ji9)), (wrap64 (x9_1 + 1)), (by rfl), (by rfl), H', ⟨by have := HK1.out; omega⟩, ⟨by (with_reducible repeat (refine blk_drewN ?_ _)); exact BK338.out⟩, ⟨by repeat ((with_reducible (exact HB.out)))⟩⟩
     ·rw [if_neg c8] at H
      exact absurd H (by simp)
    ·rw [if_neg c7] at H
     have c7b0 : (t339 == 1) = false := beq_eq_false_iff_ne.mpr c7
     have c7b1 : (t339 != 1) = true := bne_iff_ne.mpr c7
     have H' := A_.mk H
     clear H
     have hcz12_0 : wr.cell? ⟨gb338, 0, none⟩ = some (.int .i64 a0_0) := (blk_cell BK338.out 0).trans rfl
     have hcz12_1 : wr.cell? ⟨gb338, 1, none⟩ = some (.bool a0_1) := (blk_cell BK338.out 1).trans rfl
     have hfz12_0 := blk_frozen BK338.out 0
     have hfz12_1 := blk_frozen BK338.out 1
     go_wp2_with (((with_reducible refine gate_callee (f := 102) rfl ?_); refine goesL_ (some 15) rfl rfl Tryd.func102 (by kernel_rfl) rfl #[.agg #[.int .i64 a0_0, .bool a0_1], .int .i64 a1, .int .i64 x9_1] rfl (by (try simp only [List.map_toArray, List.map_cons, List.map_nil]); (rfl)) ?_; (with_reducible refine (impl_bench_gap.calls a0_0 a0_1 a1 x9_1 t339 _ A6.out).mono ?_); rintro e w13 ⟨rfl, hb⟩; refine ⟨_, rfl, ?_⟩; replace BK338 := A_.mk (blk_below (g := gb338) (o := .cells #[.int .i64 a0_0, .bool a0_1] 63 (0, 0)) (by (with_reducible repeat (refine blk_drewN ?_ _)); exact BK338.out) hb); replace HB := A_.mk (below_step (by repeat ((with_reducible (exact HB.out)))) hb); (try clear hb)))
     go_roundg k1
     case measure => have := HK1.out; omega
     case rel => exact ⟨(x5_1), (wrap64 (x9_1 + 1)), (by rfl), (by rfl), H', ⟨by have := HK1.out; omega⟩, ⟨by (with_reducible repeat (refine blk_drewN ?_ _)); exact BK338.out⟩, ⟨by repeat ((with_reducible (exact HB.out)))⟩⟩
   ·rw [if_neg c5] at H
    have c5b0 : decide (x9_1 < a0_0) = false := decide_eq_false c5
    clear c5
    obtain rfl := Option.some.inj H
    go_wp2
    go_ret
    exact ⟨by rfl, by repeat ((with_reducible (exact HB.out)))⟩

/-! ### impl_bench_lonely: function 74 -/
def impl_bench_lonely.l0 : Nat → Int → Int → Int → Int → Int → Bool → Option (Int)
 | 0, _, _, _, _, _, _ => none
 | k + 1, x1, x5, x8, x9, x341000, x341001 => if x9 < x8 then ((impl_set_has.f x1 x9).bind fun t341 => (if t341 = true then (impl_bench_lonely.l0 k x1 x5 x8 (wrap64 (x9 + 1)) x341000 x341001) else ((impl_bench_near.f k x341000 x341001 x9).bind fun t342 => (if (Go.bits .and .u32 t342 x1) = 0 then (if 0 ≤ x9 then (impl_bench_lonely.l0 k x1 (Go.bits .or .u32 x5 (shl .u32 1 x9)) x8 (wrap64 (x9 + 1)) x341000 x341001) else (none)) else (impl_bench_lonely.l0 k x1 x5 x8 (wrap64 (x9 + 1)) x341000 x341001))))) else (some x5)
def impl_bench_lonely.f (k : Nat) (a0_0 : Int) (a0_1 : Bool) (a1 : Int) : Option (Int) := impl_bench_lonely.l0 k a1 0 a0_0 0 a0_0 a0_1
theorem impl_bench_lonely.mono_l : ∀ k, (∀ y0 y1 y2 y3 y4 y5, LeO (impl_bench_lonely.l0 k y0 y1 y2 y3 y4 y5) (impl_bench_lonely.l0 (k + 1) y0 y1 y2 y3 y4 y5))
 | 0 => fun _ _ _ _ _ _ r h => by simp [impl_bench_lonely.l0] at h
 | k + 1 => by
  have ih0 := impl_bench_lonely.mono_l k
  ·intro y0 y1 y2 y3 y4 y5
   unfold impl_bench_lonely.l0
   repeat' first
   | (with_reducible exact ih0 _ _ _ _ _ _)
   | (with_reducible exact impl_bench_near.mono _ _ _ _)
   | (with_reducible exact LeO.refl _)
   | (with_reducible exact LeO.none _)
   | (with_reducible refine LeO.ite ?_ ?_)
   | (with_reducible refine LeO.bind ?_ (fun _ => ?_))
   | exact ih0 _ _ _ _ _ _
   | exact impl_bench_near.mono _ _ _ _
   | exact LeO.none _
   | refine LeO.ite ?_ ?_
   | refine LeO.bind ?_ (fun _ => ?_)
theorem impl_bench_lonely.mono : ∀ a0 a1 a2 k, LeO (impl_bench_lonely.f k a0 a1 a2) (impl_bench_lonely.f (k + 1) a0 a1 a2) := by
 intro a0 a1 a2 k
 have ih0 := impl_bench_lonely.mono_l k
 unfold impl_bench_lonely.f
 repeat' first
   | (with_reducible exact ih0 _ _ _ _ _ _)
   | (with_reducible exact impl_bench_near.mono _ _ _ _)
   | (with_reducible exact LeO.refl _)
   | (with_reducible exact LeO.none _)
   | (with_reducible refine LeO.ite ?_ ?_)
   | (with_reducible refine LeO.bind ?_ (fun _ => ?_))
   | exact ih0 _ _ _ _ _ _
   | exact impl_bench_near.mono _ _ _ _
   | exact LeO.none _
   | refine LeO.ite ?_ ?_
   | refine LeO.bind ?_ (fun _ => ?_)
theorem impl_bench_lonely.calls (k : Nat) (a0_0 : Int) (a0_1 : Bool) (a1 : Int) (r : Int) (w : World) (h : impl_bench_lonely.f k a0_0 a0_1 a1 = some r) :
  Calls Tryd.prog 74 #[.agg #[.int .i64 a0_0, .bool a0_1], .int .u32 a1] w fun e w' => e = .returned (.int .u32 r) ∧ Below w.heap.size w w' := by
 have hu63 := Tryd.underlying63
 have HB := A_.mk (Below.refl w.heap.size w)
 have H : (impl_bench_lonely.l0 k a1 0 a0_0 0 a0_0 a0_1) = some r := h
 clear h
 have H' := A_.mk H
 clear H
 go_enter Tryd.func74, Tryd.ntmps74
 go_wp2_with (((with_reducible refine gate_dst (N := 2) rfl ?_); refine box_event ?hg (N := 2) ?hd (cs := #[.int .i64 a0_0, .bool a0_1]) (t := 63) ?hr ?_; (case hd => rfl); (case hg => rfl); (case hr => (go_simp; done)); intro gb340 hg w3 hbox hb; replace HB := A_.mk (below_step (by repeat ((with_reducible (exact HB.out)))) hb); have BK340 := A_.mk (hbox); clear hb hbox hg; have hcz4_0 : w3.cell? ⟨gb340, 0, none⟩ = some (.int .i64 a0_0) := (blk_cell BK340.out 0).trans rfl; have hcz4_1 : w3.cell? ⟨gb340, 1, none⟩ = some (.bool a0_1) := (blk_cell BK340.out 1).trans rfl; have hfz4_0 := blk_frozen BK340.out 0; have hfz4_1 := blk_frozen BK340.out 1))
 go_loopg [5, 9] k (fun kq v5 v9 w' => ∃ (x5_1 : Int) (x9_1 : Int), v5 = .int .u32 x5_1 ∧ v9 = .int .i64 x9_1 ∧ A_ (impl_bench_lonely.l0 kq a1 x5_1 a0_0 x9_1 a0_0 a0_1 = some r) ∧ A_ (kq ≤ k) ∧ A_ (w'.heap[gb340]? = some (.cells #[.int .i64 a0_0, .bool a0_1] 63 (0, 0))) ∧ A_ (Below w.heap.size w w'))
 case atStart => exact ⟨(0), (0), (by rfl), (by rfl), H', ⟨Nat.le_refl _⟩, ⟨by (with_reducible repeat (refine blk_drewN ?_ _)); exact BK340.out⟩, ⟨by repeat ((with_reducible (exact HB.out)))⟩⟩
 case round =>
  clear H'
  try clear p2
  try clear hcz4_0
  try clear hcz4_1
  try clear hfz4_0
  try clear hfz4_1
  obtain ⟨x5_1, x9_1, rfl, rfl, HA, HK1, BK340, HB⟩ := hrel
  cases gk with
  | zero => exact absurd HA.out (by simp [impl_bench_lonely.l0])
  | succ k1 =>
   have H := HA.out
   clear HA
   simp only [impl_bench_lonely.l0] at H
   by_cases c5 : x9_1 < a0_0
   ·rw [if_pos c5] at H
    have c5b0 : decide (x9_1 < a0_0) = true := decide_eq_true c5
    clear c5
    replace H := Option.bind_eq_some_iff.mp H
    obtain ⟨t341, A60, H⟩ := H
    replace H : (if t341 = true then (impl_bench_lonely.l0 k1 a1 x5_1 a0_0 (wrap64 (x9_1 + 1)) a0_0 a0_1) else ((impl_bench_near.f k1 a0_0 a0_1 x9_1).bind fun t342 => (if (Go.bits .and .u32 t342 a1) = 0 then (if 0 ≤ x9_1 then (impl_bench_lonely.l0 k1 a1 (Go.bits .or .u32 x5_1 (shl .u32 1 x9_1)) a0_0 (wrap64 (x9_1 + 1)) a0_0 a0_1) else (none)) else (impl_bench_lonely.l0 k1 a1 x5_1 a0_0 (wrap64 (x9_1 + 1)) a0_0 a0_1)))) = some r := H
    have A6 := A_.mk A60
    clear A60
    by_cases c7 : t341 = true
    ·subst c7
     have H1 : (impl_bench_lonely.l0 k1 a1 x5_1 a0_0 (wrap64 (x9_1 + 1)) a0_0 a0_1) = some r := by rw [if_pos rfl] at H; exact H
     clear H
     have H := H1
     clear H1
     have H' := A_.mk H
     clear H
     go_wp2_with (((with_reducible refine gate_callee (f := 94) rfl ?_); refine goesL_ (some 14) rfl rfl Tryd.func94 (by kernel_rfl) rfl #[.int .u32 a1, .int .i64 x9_1] rfl (by (try simp only [List.map_toArray, List.map_cons, List.map_nil]); (rfl)) ?_; (with_reducible refine (impl_set_has.calls a1 x9_1 true _ A6.out).mono ?_); rintro e w' ⟨rfl, ⟨nd, rfl⟩⟩; refine ⟨_, rfl, ?_⟩))
     go_roundg k1
     case measure => have := HK1.out; omega
     case rel => exact ⟨(x5_1), (wrap64 (x9_1 + 1)), (by rfl), (by rfl), H', ⟨by have := HK1.out; omega⟩, ⟨by (with_reducible repeat (refine blk_drewN ?_ _)); exact BK340.out⟩, ⟨by repeat ((with_reducible first | exact HB.out | apply pw_below_drewN))⟩⟩
    ·replace c7 := Bool.eq_false_iff.mpr c7
     subst c7
     have H1 : ((impl_bench_near.f k1 a0_0 a0_1 x9_1).bind fun t342 => (if (Go.bits .and .u32 t342 a1) = 0 then (if 0 ≤ x9_1 then (impl_bench_lonely.l0 k1 a1 (Go.bits .or .u32 x5_1 (shl .u32 1 x9_1)) a0_0 (wrap64 (x9_1 + 1)) a0_0 a0_1) else (none)) else (impl_bench_lonely.l0 k1 a1 x5_1 a0_0 (wrap64 (x9_1 + 1)) a0_0 a0_1))) = some r := by rw [if_neg (show ¬ (false = true) by decide)] at H; exact H
     clear H
     have H := H1
     clear H1
     replace H := Option.bind_eq_some_iff.mp H
     obtain ⟨t342, A80, H⟩ := H
     replace H : (if (Go.bits .and .u32 t342 a1) = 0 then (if 0 ≤ x9_1 then (impl_bench_lonely.l0 k1 a1 (Go.bits .or .u32 x5_1 (shl .u32 1 x9_1)) a0_0 (wrap64 (x9_1 + 1)) a0_0 a0_1) else (none)) else (impl_bench_lonely.l0 k1 a1 x5_1 a0_0 (wrap64 (x9_1 + 1)) a0_0 a0_1)) = some r := H
     have A8 := A_.mk A80
     clear A80
     by_cases c9 : (Go.bits .and .u32 t342 a1) = 0
     ·rw [if_pos c9] at H
      have c9b0 : ((Go.bits .and .u32 t342 a1) == 0) = true := beq_iff_eq.mpr c9
      have c9b1 : ((Go.bits .and .u32 t342 a1) != 0) = false := bne_eq_false_iff_eq.mpr c9
      clear c9
      by_cases c10 : 0 ≤ x9_1
      ·rw [if_pos c10] at H
       have c10b0 := eq_true c10
       have c10b1 : decide (0 ≤ x9_1) = true := decide_eq_true c10
       clear c10
       obtain ⟨ji11, hji11⟩ : ∃ j_ : Int, (shl .u32 1 x9_1) = j_ := ⟨_, rfl⟩
       replace H : (impl_bench_lonely.l0 k1 a1 (Go.bits .or .u32 x5_1 (ji11)) a0_0 (wrap64 (x9_1 + 1)) a0_0 a0_1) = some r := by (rw [hji11] at H; exact H)
       skip
       skip
       have hji11_ : (IntKind.u32.wrap (1 * 2 ^ min x9_1.toNat 32)) = ji11 := hji11
       have hji11z : x9_1 ≤ 32 → (IntKind.u32.wrap (1 * 2 ^ x9_1.toNat)) = ji11 := shl_small hji11
       have hji11u : (IntKind.u32.wrap (2 ^ min x9_1.toNat 32)) = ji11 := by have h_ := hji11_; rw [Int.one_mul] at h_; exact h_
       have hji11v : x9_1 ≤ 32 → (IntKind.u32.wrap (2 ^ x9_1.toNat)) = ji11 := fun hle_ => by have h_ := hji11z hle_; rw [Int.one_mul] at h_; exact h_
       have H' := A_.mk H
       clear H
       go_wp2_with (first | ((with_reducible refine gate_callee (f := 94) rfl ?_); refine goesL_ (some 14) rfl rfl Tryd.func94 (by kernel_rfl) rfl #[.int .u32 a1, .int .i64 x9_1] rfl (by (try simp only [List.map_toArray, List.map_cons, List.map_nil]); (rfl)) ?_; (with_reducible refine (impl_set_has.calls a1 x9_1 false _ A6.out).mono ?_); rintro e w' ⟨rfl, ⟨nd, rfl⟩⟩; refine ⟨_, rfl, ?_⟩; have hcz12_0 : wr.cell? ⟨gb340, 0, none⟩ = some (.int .i64 a0_0) := (blk_cell BK340.out 0).trans rfl; have hcz12_1 : wr.cell? ⟨gb340, 1, none⟩ = some (.bool a0_1) := (blk_cell BK340.out 1).trans rfl; have hfz12_0 := blk_frozen BK340.out 0; have hfz12_1 := blk_frozen BK340.out 1) | (go_at_call 95; (with_reducible refine (impl_bench_near.calls k1 a0_0 a0_1 x9_1 t342 _ A8.out).mono ?_); rintro e w13 ⟨rfl, hb⟩; replace BK340 := A_.mk (blk_below (g := gb340) (o := .cells #[.int .i64 a0_0, .bool a0_1] 63 (0, 0)) (by (with_reducible repeat (refine blk_drewN ?_ _)); exact BK340.out) hb); replace HB := A_.mk (below_step (by repeat ((with_reducible first | exact HB.out | apply pw_below_drewN))) hb); (try clear hb)))
       (go_roundg k1)
       case measure => have := HK1.out; omega
       case rel => exact ⟨(Go.bits .or .u32 x5_1 (ji11)), (wrap64 (x9_1 + 1)), (by rfl), (by rfl), H', ⟨by have := HK1.out; omega⟩, ⟨by (with_reducible repeat (refine blk_drewN ?_ _)); exact BK340.out⟩, ⟨by repeat ((with_reducible (exact HB.out)))⟩⟩
      ·rw [if_neg c10] at H
       exact absurd H (by simp)
     ·rw [if_neg c9] at H
      have c9b0 : ((Go.bits .and .u32 t342 a1) == 0) = false := beq_eq_false_iff_ne.mpr c9
      have c9b1 : ((Go.bits .and .u32 t342 a1) != 0) = true := bne_iff_ne.mpr c9
      have H' := A_.mk H
      clear H
      go_wp2_with (first | ((with_reducible refine gate_callee (f := 94) rfl ?_); refine goesL_ (some 14) rfl rfl Tryd.func94 (by kernel_rfl) rfl #[.int .u32 a1, .int .i64 x9_1] rfl (by (try simp only [List.map_toArray, List.map_cons, List.map_nil]); (rfl)) ?_; (with_reducible refine (impl_set_has.calls a1 x9_1 false _ A6.out).mono ?_); rintro e w' ⟨rfl, ⟨nd, rfl⟩⟩; refine ⟨_, rfl, ?_⟩; have hcz14_0 : wr.cell? ⟨gb340, 0, none⟩ = some (.int .i64 a0_0) := (blk_cell BK340.out 0).trans rfl; have hcz14_1 : wr.cell? ⟨gb340, 1, none⟩ = some (.bool a0_1) := (blk_cell BK340.out 1).trans rfl; have hfz14_0 := blk_frozen BK340.out 0; have hfz14_1 := blk_frozen BK340.out 1) | (go_at_call 95; (with_reducible refine (impl_bench_near.calls k1 a0_0 a0_1 x9_1 t342 _ A8.out).mono ?_); rintro e w15 ⟨rfl, hb⟩; replace BK340 := A_.mk (blk_below (g := gb340) (o := .cells #[.int .i64 a0_0, .bool a0_1] 63 (0, 0)) (by (with_reducible repeat (refine blk_drewN ?_ _)); exact BK340.out) hb); replace HB := A_.mk (below_step (by repeat ((with_reducible first | exact HB.out | apply pw_below_drewN))) hb); (try clear hb)))
      go_roundg k1
      case measure => have := HK1.out; omega
      case rel => exact ⟨(x5_1), (wrap64 (x9_1 + 1)), (by rfl), (by rfl), H', ⟨by have := HK1.out; omega⟩, ⟨by (with_reducible repeat (refine blk_drewN ?_ _)); exact BK340.out⟩, ⟨by repeat ((with_reducible (exact HB.out)))⟩⟩
   ·rw [if_neg c5] at H
    have c5b0 : decide (x9_1 < a0_0) = false := decide_eq_false c5
    clear c5
    obtain rfl := Option.some.inj H
    go_wp2
    go_ret
    exact ⟨by rfl, by repeat ((with_reducible (exact HB.out)))⟩

/-! ### impl_bench_singles: function 58 -/
def impl_bench_singles.l0 : Nat → List Int → List Int → Int → Int → Option (List Int)
 | 0, _, _, _, _ => none
 | k + 1, x5, x12, x13, x14 => if x14 < x13 then (if 0 ≤ x14 then (if x14 < (x12.length : Int) then (if 0 ≤ (rd x12 x14) then (if x5.length < 35184372088832 then (impl_bench_singles.l0 k (x5 ++ [shl .u32 1 (rd x12 x14)]) x12 x13 (wrap64 (x14 + 1))) else (none)) else (none)) else (none)) else (none)) else (some x5)
def impl_bench_singles.f (k : Nat) (a0_0 : Int) (a0_1 : Bool) (a1 : Int) : Option (List Int) := (impl_bench_lonely.f k a0_0 a0_1 a1).bind fun t347 => ((impl_set_list.f k t347).bind fun t348 => (impl_bench_singles.l0 k (([] : List Int)) t348 (t348.length : Int) 0))
theorem impl_bench_singles.mono_l : ∀ k, (∀ y0 y1 y2 y3, LeO (impl_bench_singles.l0 k y0 y1 y2 y3) (impl_bench_singles.l0 (k + 1) y0 y1 y2 y3))
 | 0 => fun _ _ _ _ r h => by simp [impl_bench_singles.l0] at h
 | k + 1 => by
  have ih0 := impl_bench_singles.mono_l k
  ·intro y0 y1 y2 y3
   unfold impl_bench_singles.l0
   repeat' first
   | (with_reducible exact ih0 _ _ _ _)
   | (with_reducible exact impl_bench_lonely.mono _ _ _ _)
   | (with_reducible exact impl_set_list.mono _ _)
   | (with_reducible exact LeO.refl _)
   | (with_reducible exact LeO.none _)
   | (with_reducible refine LeO.ite ?_ ?_)
   | (with_reducible refine LeO.bind ?_ (fun _ => ?_))
   | exact ih0 _ _ _ _
   | exact impl_bench_lonely.mono _ _ _ _
   | exact impl_set_list.mono _ _
   | exact LeO.none _
   | refine LeO.ite ?_ ?_
   | refine LeO.bind ?_ (fun _ => ?_)
theorem impl_bench_singles.mono : ∀ a0 a1 a2 k, LeO (impl_bench_singles.f k a0 a1 a2) (impl_bench_singles.f (k + 1) a0 a1 a2) := by
 intro a0 a1 a2 k
 have ih0 := impl_bench_singles.mono_l k
 unfold impl_bench_singles.f
 repeat' first
   | (with_reducible exact ih0 _ _ _ _)
   | (with_reducible exact impl_bench_lonely.mono _ _ _ _)
   | (with_reducible exact impl_set_list.mono _ _)
   | (with_reducible exact LeO.refl _)
   | (with_reducible exact LeO.none _)
   | (with_reducible refine LeO.ite ?_ ?_)
   | (with_reducible refine LeO.bind ?_ (fun _ => ?_))
   | exact ih0 _ _ _ _
   | exact impl_bench_lonely.mono _ _ _ _
   | exact impl_set_list.mono _ _
   | exact LeO.none _
   | refine LeO.ite ?_ ?_
   | refine LeO.bind ?_ (fun _ => ?_)
theorem impl_bench_singles.calls (k : Nat) (a0_0 : Int) (a0_1 : Bool) (a1 : Int) (r : List Int) (w : World) (hT : XTab w) (h : impl_bench_singles.f k a0_0 a0_1 a1 = some r) :
  Calls Tryd.prog 58 #[.agg #[.int .i64 a0_0, .bool a0_1], .int .u32 a1] w fun e w' => ∃ v0_ : Value, e = .returned (v0_) ∧ Kd.R (Kd.int .u32) 56 w' w.heap.size (fun _ => True) v0_ r ∧ Below w.heap.size w w' := by
 have hu63 := Tryd.underlying63
 have HB := A_.mk (Below.refl w.heap.size w)
 have HT := A_.mk hT
 clear hT
 have H : ((impl_bench_lonely.f k a0_0 a0_1 a1).bind fun t347 => ((impl_set_list.f k t347).bind fun t348 => (impl_bench_singles.l0 k (([] : List Int)) t348 (t348.length : Int) 0))) = some r := h
 clear h
 obtain ⟨y344, hy344⟩ : ∃ y_ : List Int, y_ = (([] : List Int)) := ⟨_, rfl⟩
 replace H : ((impl_bench_lonely.f k a0_0 a0_1 a1).bind fun t347 => ((impl_set_list.f k t347).bind fun t348 => (impl_bench_singles.l0 k y344 t348 (t348.length : Int) 0))) = some r := by (rw [hy344]; with_reducible exact H)
 have Ny344 := A_.mk hy344
 clear hy344
 replace H := Option.bind_eq_some_iff.mp H
 obtain ⟨t347, A30, H⟩ := H
 replace H : ((impl_set_list.f k t347).bind fun t348 => (impl_bench_singles.l0 k y344 t348 (t348.length : Int) 0)) = some r := H
 have A3 := A_.mk A30
 clear A30
 replace H := Option.bind_eq_some_iff.mp H
 obtain ⟨t348, A40, H⟩ := H
 replace H : (impl_bench_singles.l0 k y344 t348 (t348.length : Int) 0) = some r := H
 have A4 := A_.mk A40
 clear A40
 have H' := A_.mk H
 clear H
 go_enter Tryd.func58, Tryd.ntmps58
 go_wp2_with (first | ((with_reducible refine gate_dst (N := 2) rfl ?_); refine box_event ?hg (N := 2) ?hd (cs := #[.int .i64 a0_0, .bool a0_1]) (t := 63) ?hr ?_; (case hd => rfl); (case hg => rfl); (case hr => (go_simp; done)); intro gb343 hg w5 hbox hb; replace HB := A_.mk (below_step (by repeat ((with_reducible (exact HB.out)))) hb); have BK343 := A_.mk (hbox); clear hb hbox hg) | ((with_reducible refine gate_dst (N := 8) rfl ?_); refine Kd.R_lit (Kd.int .u32) _ 56 ?hg (N := 8) ?hd (xs := ([] : List Int)) (inner := []) (ok := fun _ => True) (okp := fun _ => True) ?hr ?hp (fun _ hk => hk) trivial (Below.refl _ _) (Nat.le_refl _) (by simp) ?_; (case hd => rfl); (case hg => rfl); (case hr => (go_simp; done)); (case hp => exact (Reps.none _ _)); intro v345 w6 ho7 hb hg_ hnew_; clear hg_ hnew_; (rw [← Ny344.out] at ho7); have HO346 := A_.mk (Kd.R_lower ho7 (below_size (by repeat ((with_reducible (exact HB.out)))))); replace BK343 := A_.mk (blk_below (g := gb343) (o := .cells #[.int .i64 a0_0, .bool a0_1] 63 (0, 0)) (by (with_reducible repeat (refine blk_drewN ?_ _)); exact BK343.out) hb); replace HB := A_.mk (below_step (by repeat ((with_reducible (exact HB.out)))) hb); clear hb ho7; have hcz8_0 : w6.cell? ⟨gb343, 0, none⟩ = some (.int .i64 a0_0) := (blk_cell BK343.out 0).trans rfl; have hcz8_1 : w6.cell? ⟨gb343, 1, none⟩ = some (.bool a0_1) := (blk_cell BK343.out 1).trans rfl; have hfz8_0 := blk_frozen BK343.out 0; have hfz8_1 := blk_frozen BK343.out 1) | ((with_reducible refine gate_callee (f := 74) rfl ?_); refine goesL_ (some 11) rfl rfl Tryd.func74 (by kernel_rfl) rfl #[.agg #[.int .i64 a0_0, .bool a0_1], .int .u32 a1] rfl (by (try simp only [List.map_toArray, List.map_cons, List.map_nil]); (rfl)) ?_; (with_reducible refine (impl_bench_lonely.calls k a0_0 a0_1 a1 t347 _ A3.out).mono ?_); rintro e w9 ⟨rfl, hb⟩; refine ⟨_, rfl, ?_⟩; replace HO346 := A_.mk (Kd.R_below (by (with_reducible repeat (apply Kd.R_alloc)); exact HO346.out) hb); replace BK343 := A_.mk (blk_below (g := gb343) (o := .cells #[.int .i64 a0_0, .bool a0_1] 63 (0, 0)) (by (with_reducible repeat (refine blk_drewN ?_ _)); exact BK343.out) hb); replace HB := A_.mk (below_step (by repeat ((with_reducible (exact HB.out)))) hb); (try clear hb)) | ((with_reducible refine gate_callee (f := 63) rfl ?_); refine goesL_ (some 12) rfl rfl Tryd.func63 (by kernel_rfl) rfl #[.int .u32 t347] rfl (by (try simp only [List.map_toArray, List.map_cons, List.map_nil]); (rfl)) ?_; (with_reducible refine (impl_set_list.calls k t347 t348 _ ?side1 A4.out).mono ?_); (case side1 => exact XTab.below HT.out (by repeat ((with_reducible (exact HB.out))))); rintro e w10 ⟨v349, rfl, ho0, hb⟩; refine ⟨_, rfl, ?_⟩; replace HO346 := A_.mk (Kd.R_below (by (with_reducible repeat (apply Kd.R_alloc)); exact HO346.out) hb); have HO350 := A_.mk (Kd.R_lower ho0 (below_size (by repeat ((with_reducible (exact HB.out)))))); replace BK343 := A_.mk (blk_below (g := gb343) (o := .cells #[.int .i64 a0_0, .bool a0_1] 63 (0, 0)) (by (with_reducible repeat (refine blk_drewN ?_ _)); exact BK343.out) hb); replace HB := A_.mk (below_step (by repeat ((with_reducible (exact HB.out)))) hb); (try clear hb); (try clear ho0); obtain ⟨Ao11, co11, eo11⟩ := Kd.R_slice HO350.out; subst eo11))
 go_loopg [5, 14] k (fun kq v5 v14 w' => ∃ (x5_1 : List Int) (x14_1 : Int), v14 = .int .i64 x14_1 ∧ A_ (impl_bench_singles.l0 kq x5_1 t348 (t348.length : Int) x14_1 = some r) ∧ A_ (kq ≤ k) ∧ A_ (Kd.R (Kd.int .u32) 56 w' w.heap.size (fun _ => True) v5 x5_1) ∧ A_ (Kd.R (Kd.int .i64) 3 w' w.heap.size (fun _ => True) (.slice Ao11 t348.length co11) t348) ∧ A_ (w'.heap[gb343]? = some (.cells #[.int .i64 a0_0, .bool a0_1] 63 (0, 0))) ∧ A_ (Below w.heap.size w w'))
 case atStart => exact ⟨(y344), (0), (by rfl), H', ⟨Nat.le_refl _⟩, ⟨by (with_reducible repeat (apply Kd.R_alloc)); exact HO346.out⟩, ⟨by (with_reducible repeat (apply Kd.R_alloc)); exact HO350.out⟩, ⟨by (with_reducible repeat (refine blk_drewN ?_ _)); exact BK343.out⟩, ⟨by repeat ((with_reducible (exact HB.out)))⟩⟩
 case round =>
  clear H'
  try clear p2
  try clear c5
  try clear c6
  try clear p6
  try clear c7
  try clear hcz8_0
  try clear hcz8_1
  try clear hfz8_0
  try clear hfz8_1
  obtain ⟨x5_1, x14_1, rfl, HA, HK1, HO_5, HO_12, BK343, HB⟩ := hrel
  cases gk with
  | zero => exact absurd HA.out (by simp [impl_bench_singles.l0])
  | succ k1 =>
   have H := HA.out
   clear HA
   simp only [impl_bench_singles.l0] at H
   by_cases c12 : x14_1 < (t348.length : Int)
   ·rw [if_pos c12] at H
    have c12b0 : decide (x14_1 < (t348.length : Int)) = true := decide_eq_true c12
    clear c12
    by_cases c13 : 0 ≤ x14_1
    ·rw [if_pos c13] at H
     have c13b0 : decide (0 ≤ x14_1) = true := decide_eq_true c13
     clear c13
     by_cases c14 : x14_1 < (t348.length : Int)
     ·rw [if_pos c14] at H
      have c14b0 : decide (x14_1 < (t348.length : Int)) = true := decide_eq_true c14
      clear c14
      by_cases c15 : 0 ≤ (rd t348 x14_1)
      ·rw [if_pos c15] at H
       have c15b0 := eq_true c15
       have c15b1 : decide (0 ≤ (rd t348 x14_1)) = true := decide_eq_true c15
       clear c15
       obtain ⟨ji16, hji16⟩ : ∃ j_ : Int, (shl .u32 1 (rd t348 x14_1)) = j_ := ⟨_, rfl⟩
       replace H : (if x5_1.length < 35184372088832 then (impl_bench_singles.l0 k1 (x5_1 ++ [ji16]) t348 (t348.length : Int) (wrap64 (x14_1 + 1))) else (none)) = some r := by (rw [hji16] at H; exact H)
       have hji16_ : (IntKind.u32.wrap (1 * 2 ^ min (rd t348 x14_1).toNat 32)) = ji16 := hji16
       have hji16z : (rd t348 x14_1) ≤ 32 → (IntKind.u32.wrap (1 * 2 ^ (rd t348 x14_1).toNat)) = ji16 := shl_small hji16
       have hji16u : (IntKind.u32.wrap (2 ^ min (rd t348 x14_1).toNat 32)) = ji16 := by have h_ := hji16_; rw [Int.one_mul] at h_; exact h_
       have hji16v : (rd t348 x14_1) ≤ 32 → (IntKind.u32.wrap (2 ^ (rd t348 x14_1).toNat)) = ji16 := fun hle_ => by have h_ := hji16z hle_; rw [Int.one_mul] at h_; exact h_
       by_cases c17 : x5_1.length < 35184372088832
       ·rw [if_pos c17] at H
        have LMc17 := A_.mk c17
        clear c17
        obtain ⟨y352, hy352⟩ : ∃ y_ : List Int, y_ = (x5_1 ++ [ji16]) := ⟨_, rfl⟩
        replace H : (impl_bench_singles.l0 k1 y352 t348 (t348.length : Int) (wrap64 (x14_1 + 1))) = some r := by (rw [hy352]; with_reducible exact H)
        have Ny352 := A_.mk hy352
        clear hy352
        have H' := A_.mk H
        clear H
        have p351 : 0 ≤ (x14_1 : Int) := of_decide_eq_true (by (with_reducible assumption))
        have q351 : x14_1 < (t348.length : Int) := of_decide_eq_true (by (with_reducible assumption))
        obtain ⟨ad351, e351, hx351_0⟩ := Kd.at_int (Kd.R_reads' HO_12.out).2.2 x14_1 p351 q351
        cases e351
        replace p351 := eq_true p351
        replace q351 := eq_true q351
        go_wp2_with (((with_reducible refine gate_builtin (b := .append) (xs := #[.tmp 18, .tmp 21]) rfl ?_); at_builtin; refine Kd.R_append (Kd.int .u32) (w0 := w) w.heap.size rfl (.tmp 18) (.tmp 21) 90 56 (.int .u32 0) 4 rfl Tryd.underlying90 info56 rfl (by decide) (by omega) u5 x5_1 ji16 [.int .u32 ji16] (fun _ => True) (fun _ => False) rfl rfl ?aP (fun _ hk => hk.elim) ?aF ?aO ?aB ?aS ?aL ?_; (case aP => exact rfl); (case aB => exact (by repeat ((with_reducible (exact HB.out))))); (case aF => exact (fun _ _ => trivial)); (case aO => exact (by (with_reducible repeat (apply Kd.R_alloc)); exact HO_5.out)); (case aS => exact (below_size (by repeat ((with_reducible (exact HB.out)))))); (case aL => have := LMc17.out; omega); intro v353 w18 ho hb hg hat; rw [← Ny352.out] at ho; replace HO_12 := A_.mk (Kd.R_over' (by (with_reducible repeat (apply Kd.R_alloc)); exact HO_12.out) (Kd.R_typed (by (with_reducible repeat (apply Kd.R_alloc)); exact HO_5.out)) (by decide) hg); replace BK343 := A_.mk (blk_grown (g := gb343) (o := .cells #[.int .i64 a0_0, .bool a0_1] 63 (0, 0)) (by (with_reducible repeat (refine blk_drewN ?_ _)); exact BK343.out) hg (Kd.R_ne HO_5.out BK343.out (by decide))); replace HB := A_.mk (hb); have HO354 := A_.mk (ho); clear HO_5; clear ho hb hg hat))
        (go_roundg k1)
        case measure => have := HK1.out; omega
        case rel => exact ⟨(y352), (wrap64 (x14_1 + 1)), (by rfl), H', ⟨by have := HK1.out; omega⟩, ⟨by (with_reducible repeat (apply Kd.R_alloc)); exact HO354.out⟩, ⟨by (with_reducible repeat (apply Kd.R_alloc)); exact HO_12.out⟩, ⟨by (with_reducible repeat (refine blk_drewN ?_ _)); exact BK343.out⟩, ⟨by repeat ((with_reducible (exact HB.out)))⟩⟩
       ·rw [if_neg c17] at H
        exact absurd H (by simp)
      ·rw [if_neg c15] at H
       exact absurd H (by simp)
     ·rw [if_neg c14] at H
      exact absurd H (by simp)
    ·rw [if_neg c13] at H
     exact absurd H (by simp)
   ·rw [if_neg c12] at H
    have c12b0 : decide (x14_1 < (t348.length : Int)) = false := decide_eq_false c12
    clear c12
    obtain rfl := Option.some.inj H
    go_wp2
    go_ret
    exact ⟨_, by rfl, by (with_reducible repeat (apply Kd.R_alloc)); exact HO_5.out, by repeat ((with_reducible (exact HB.out)))⟩

/-! ### impl_divisor: function 60 -/
def impl_divisor.l0 : Nat → Int → Int → Option (Int)
 | 0, _, _ => none
 | k + 1, x0, x1 => if x1 = 0 then (some x0) else (impl_divisor.l0 k x1 (Int.tmod x0 x1))
def impl_divisor.f (k : Nat) (a0 : Int) (a1 : Int) : Option (Int) := impl_divisor.l0 k a0 a1
theorem impl_divisor.mono_l : ∀ k, (∀ y0 y1, LeO (impl_divisor.l0 k y0 y1) (impl_divisor.l0 (k + 1) y0 y1))
 | 0 => fun _ _ r h => by simp [impl_divisor.l0] at h
 | k + 1 => by
  have ih0 := impl_divisor.mono_l k
  ·intro y0 y1
   unfold impl_divisor.l0
   repeat' first
   | (with_reducible exact ih0 _ _)
   | (with_reducible exact LeO.refl _)
   | (with_reducible exact LeO.none _)
   | (with_reducible refine LeO.ite ?_ ?_)
   | (with_reducible refine LeO.bind ?_ (fun _ => ?_))
   | exact ih0 _ _
   | exact LeO.none _
   | refine LeO.ite ?_ ?_
   | refine LeO.bind ?_ (fun _ => ?_)
theorem impl_divisor.mono : ∀ a0 a1 k, LeO (impl_divisor.f k a0 a1) (impl_divisor.f (k + 1) a0 a1) := by
 intro a0 a1 k
 have ih0 := impl_divisor.mono_l k
 unfold impl_divisor.f
 repeat' first
   | (with_reducible exact ih0 _ _)
   | (with_reducible exact LeO.refl _)
   | (with_reducible exact LeO.none _)
   | (with_reducible refine LeO.ite ?_ ?_)
   | (with_reducible refine LeO.bind ?_ (fun _ => ?_))
   | exact ih0 _ _
   | exact LeO.none _
   | refine LeO.ite ?_ ?_
   | refine LeO.bind ?_ (fun _ => ?_)
theorem impl_divisor.calls (k : Nat) (a0 : Int) (a1 : Int) (r : Int) (w : World) (h : impl_divisor.f k a0 a1 = some r) :
  Calls Tryd.prog 60 #[.int .i64 a0, .int .i64 a1] w fun e w' => e = .returned (.int .i64 r) ∧ Drawn0 w w' := by
 have H : (impl_divisor.l0 k a0 a1) = some r := h
 clear h
 have H' := A_.mk H
 clear H
 go_enter Tryd.func60, Tryd.ntmps60
 go_wp2
 repeat (go_quiet (fail); try go_wp2)
 go_loopg [0, 1] k (fun kq v0 v1 w' => ∃ (x0_1 : Int) (x1_1 : Int), v0 = .int .i64 x0_1 ∧ v1 = .int .i64 x1_1 ∧ A_ (impl_divisor.l0 kq x0_1 x1_1 = some r) ∧ A_ (kq ≤ k) ∧ Drawn0 w w')
 case atStart => exact ⟨(a0), (a1), (by rfl), (by rfl), H', ⟨Nat.le_refl _⟩, by repeat (exact Drawn0.refl _)⟩
 case round =>
  clear H'
  try clear p2
  obtain ⟨x0_1, x1_1, rfl, rfl, HA, HK1, ⟨m1, rfl⟩⟩ := hrel
  cases gk with
  | zero => exact absurd HA.out (by simp [impl_divisor.l0])
  | succ k1 =>
   have H := HA.out
   clear HA
   simp only [impl_divisor.l0] at H
   by_cases c3 : x1_1 = 0
   ·rw [if_pos c3] at H
    have c3b0 : (x1_1 == 0) = true := beq_iff_eq.mpr c3
    have c3b1 : (x1_1 != 0) = false := bne_eq_false_iff_eq.mpr c3
    clear c3
    obtain rfl := Option.some.inj H
    go_wp2
    repeat (go_quiet (fail); try go_wp2)
    go_ret
    exact ⟨by rfl, by repeat (first | exact Drawn0.refl _ | apply Drawn0.step)⟩
   ·rw [if_neg c3] at H
    have c3b0 : (x1_1 == 0) = false := beq_eq_false_iff_ne.mpr c3
    have c3b1 : (x1_1 != 0) = true := bne_iff_ne.mpr c3
    have H' := A_.mk H
    clear H
    go_wp2
    repeat (go_quiet (fail); try go_wp2)
    go_roundg k1
    case measure => have := HK1.out; omega
    case rel => exact ⟨(x1_1), (Int.tmod x0_1 x1_1), (by rfl), (by rfl), H', ⟨by have := HK1.out; omega⟩, by repeat (first | exact Drawn0.refl _ | apply Drawn0.step)⟩

end Go.Proofs.YtihifglmnjocfaaDoor.PFnExactChanceOfFinal
