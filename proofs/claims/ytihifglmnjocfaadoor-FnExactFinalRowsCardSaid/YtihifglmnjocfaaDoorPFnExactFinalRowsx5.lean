/- Given functions as plain Lean functions, and that their calls answer these. -/
import Derived.Test.YtihifglmnjocfaaDoorPFnExactFinalRowsx0
namespace Go.Proofs.YtihifglmnjocfaaDoor.PFnExactFinalRows
open Go.RowKit Go.Proofs.YtihifglmnjocfaaDoorW.PrintWords Go.Proofs.YtihifglmnjocfaaDoorW.PrintLast Go.Proofs.YtihifglmnjocfaaDoorW.PrintMore
attribute [local go_sem] max2_int min2_int max_two min_two max_three min_three max_four min_four
set_option maxHeartbeats 8000000
set_option maxRecDepth 100000
set_option linter.unusedVariables false
set_option linter.unusedSimpArgs false

/-! ### spec_l1Put: function 54 -/
def spec_l1Put.l0 : Nat → List Int → Int → Int → Option (List Int)
 | 0, _, _, _ => none
 | k + 1, x0, x1, x5 => if x5 < (x0.length : Int) then (if 0 ≤ x5 then (if (rd x0 x5) < x1 then (spec_l1Put.l0 k x0 x1 (wrap64 (x5 + 1))) else (if (rd x0 x5) = x1 then (some x0) else ((some (([] : List Int) : List Int)).bind fun y197 => (if x5 ≤ (x0.length : Int) then ((some (x0.take (x5 : Int).toNat : List Int)).bind fun y200 => (if y197.length + y200.length < 17592186044416 then ((some (y197 ++ y200 : List Int)).bind fun y205 => ((some (([x1] : List Int) : List Int)).bind fun y208 => (if y205.length + y208.length < 17592186044416 then ((some (y205 ++ y208 : List Int)).bind fun y211 => ((some (x0.drop (x5 : Int).toNat : List Int)).bind fun y214 => (if y211.length + y214.length < 17592186044416 then (some (y211 ++ y214)) else (none)))) else (none)))) else (none))) else (none))))) else (none)) else ((some (([] : List Int) : List Int)).bind fun y222 => (if 0 ≤ x5 then (if x5 ≤ (x0.length : Int) then ((some (x0.take (x5 : Int).toNat : List Int)).bind fun y225 => (if y222.length + y225.length < 17592186044416 then ((some (y222 ++ y225 : List Int)).bind fun y230 => ((some (([x1] : List Int) : List Int)).bind fun y233 => (if y230.length + y233.length < 17592186044416 then ((some (y230 ++ y233 : List Int)).bind fun y236 => ((some (x0.drop (x5 : Int).toNat : List Int)).bind fun y239 => (if y236.length + y239.length < 17592186044416 then (some (y236 ++ y239)) else (none)))) else (none)))) else (none))) else (none)) else (none)))
def spec_l1Put.f (k : Nat) (l0 : List Int) (a1 : Int) : Option (List Int) := spec_l1Put.l0 k l0 a1 0
theorem spec_l1Put.mono_l : ∀ k, (∀ y0 y1 y2, LeO (spec_l1Put.l0 k y0 y1 y2) (spec_l1Put.l0 (k + 1) y0 y1 y2))
 | 0 => fun _ _ _ r h => by simp [spec_l1Put.l0] at h
 | k + 1 => by
  have ih0 := spec_l1Put.mono_l k
  ·intro y0 y1 y2
   unfold spec_l1Put.l0
   repeat' first
   | (with_reducible exact ih0 _ _ _)
   | (with_reducible exact LeO.refl _)
   | (with_reducible exact LeO.none _)
   | (with_reducible refine LeO.ite ?_ ?_)
   | (with_reducible refine LeO.bind ?_ (fun _ => ?_))
   | exact ih0 _ _ _
   | exact LeO.none _
   | refine LeO.ite ?_ ?_
   | refine LeO.bind ?_ (fun _ => ?_)
theorem spec_l1Put.mono : ∀ a0 a1 k, LeO (spec_l1Put.f k a0 a1) (spec_l1Put.f (k + 1) a0 a1) := by
 intro a0 a1 k
 have ih0 := spec_l1Put.mono_l k
 unfold spec_l1Put.f
 repeat' first
   | (with_reducible exact ih0 _ _ _)
   | (with_reducible exact LeO.refl _)
   | (with_reducible exact LeO.none _)
   | (with_reducible refine LeO.ite ?_ ?_)
   | (with_reducible refine LeO.bind ?_ (fun _ => ?_))
   | exact ih0 _ _ _
   | exact LeO.none _
   | refine LeO.ite ?_ ?_
   | refine LeO.bind ?_ (fun _ => ?_)
def spec_l1Put.T6 : Bool × List (List Nat × List Nat) := (true, [([], []), ([], []), ([], []), ([1, 2], [1, 2]), ([0, 3], [0, 3]), ([], []), ([5], [5]), ([4, 6, 4], [4, 6]), ([], []), ([], []), ([8, 9], [8, 9]), ([7, 10, 7], [7, 10]), ([11, 11, 0, 1, 2, 3, 4, 5, 6, 7, 8, 9, 10, 11], [11])])
def spec_l1Put.B6 : List Nat := [0, 0, 0, 6, 15, 0, 32, 127, 0, 0, 768, 2047, 4095]
theorem spec_l1Put.tab6 : rtab .any (opsOf Tryd.f54 6) = spec_l1Put.T6 := by kernel_rfl
theorem spec_l1Put.bits6 : waitsOk spec_l1Put.T6.2 spec_l1Put.B6 = true := by kernel_rfl
theorem spec_l1Put.calls (k : Nat) (P0_ : Nat → Prop) (A0 : Option Addr) (c0 : Nat) (l0 : List Int) (a1 : Int) (r : List Int) (w : World) (hs0 : Kd.V (Kd.int .i64) 3 w w.heap.size (fun k_ => P0_ k_) (.slice A0 l0.length c0) l0) (h : spec_l1Put.f k l0 a1 = some r) :
  Calls Tryd.prog 54 #[.slice A0 l0.length c0, .int .i64 a1] w fun e w' => ∃ v0_ : Value, e = .returned (v0_) ∧ ((v0_ = .slice A0 l0.length c0 ∧ r = l0) ∨ Kd.R (Kd.int .i64) 3 w' w.heap.size (fun _ => True) v0_ r) ∧ Below w.heap.size w w' := by
 have HO0 := A_.mk (show Kd.V (Kd.int .i64) 3 w w.heap.size (fun k_ => (P0_ k_ ∨ w.heap.size ≤ k_)) (.slice A0 l0.length c0) l0 from Kd.V_mono hs0 (fun k_ hk => .inl hk))
 have HB := A_.mk (Below.refl w.heap.size w)
 have H : (spec_l1Put.l0 k l0 a1 0) = some r := h
 clear h
 have H' := A_.mk H
 clear H
 go_enter Tryd.func54, Tryd.ntmps54
 go_wp2
 go_loopg [5] k (fun kq v5 w' => ∃ (x5_1 : Int), v5 = .int .i64 x5_1 ∧ A_ (spec_l1Put.l0 kq l0 a1 x5_1 = some r) ∧ A_ (kq ≤ k) ∧ A_ (Kd.V (Kd.int .i64) 3 w' w.heap.size (fun k_ => (P0_ k_ ∨ w.heap.size ≤ k_)) (.slice A0 l0.length c0) l0) ∧ A_ (Below w.heap.size w w'))
 case atStart => exact ⟨(0), (by rfl), H', ⟨Nat.le_refl _⟩, ⟨by (with_reducible repeat (apply Kd.V_alloc)); exact HO0.out⟩, ⟨by repeat ((with_reducible (exact HB.out)))⟩⟩
 case round =>
  clear H'
  try clear p2
  obtain ⟨x5_1, rfl, HA, HK1, HO_0, HB⟩ := hrel
  cases gk with
  | zero => exact absurd HA.out (by simp [spec_l1Put.l0])
  | succ k1 =>
   have H := HA.out
   clear HA
   simp only [spec_l1Put.l0] at H
   by_cases c3 : x5_1 < (l0.length : Int)
   ·rw [if_pos c3] at H
    have c3b0 : decide (x5_1 < (l0.length : Int)) = true := decide_eq_true c3
    clear c3
    by_cases c4 : 0 ≤ x5_1
    ·rw [if_pos c4] at H
     have c4b0 : decide (0 ≤ x5_1) = true := decide_eq_true c4
     clear c4
     by_cases c5 : (rd l0 x5_1) < a1
     ·rw [if_pos c5] at H
      have c5b0 : decide ((rd l0 x5_1) < a1) = true := decide_eq_true c5
      clear c5
      have H' := A_.mk H
      clear H
      have p195 : 0 ≤ (x5_1 : Int) := of_decide_eq_true (by (with_reducible assumption))
      have q195 : x5_1 < (l0.length : Int) := of_decide_eq_true (by (with_reducible assumption))
      obtain ⟨ad195, e195, hx195_0⟩ := Kd.at_int (Kd.V_reads' HO_0.out).2.2 x5_1 p195 q195
      cases e195
      replace p195 := eq_true p195
      replace q195 := eq_true q195
      go_wp2
      go_roundg k1
      case measure => have := HK1.out; omega
      case rel => exact ⟨(wrap64 (x5_1 + 1)), (by rfl), H', ⟨by have := HK1.out; omega⟩, ⟨by (with_reducible repeat (apply Kd.V_alloc)); exact HO_0.out⟩, ⟨by repeat ((with_reducible (exact HB.out)))⟩⟩
     ·rw [if_neg c5] at H
      have c5b0 : decide ((rd l0 x5_1) < a1) = false := decide_eq_false c5
      clear c5
      by_cases c6 : (rd l0 x5_1) = a1
      ·rw [if_pos c6] at H
       have c6b0 : ((rd l0 x5_1) == a1) = true := beq_iff_eq.mpr c6
       have c6b1 : ((rd l0 x5_1) != a1) = false := bne_eq_false_iff_eq.mpr c6
       clear c6
       obtain rfl := Option.some.inj H
       have p195 : 0 ≤ (x5_1 : Int) := of_decide_eq_true (by (with_reducible assumption))
       have q195 : x5_1 < (l0.length : Int) := of_decide_eq_true (by (with_reducible assumption))
       obtain ⟨ad195, e195, hx195_0⟩ := Kd.at_int (Kd.V_reads' HO_0.out).2.2 x5_1 p195 q195
       cases e195
       replace p195 := eq_true p195
       replace q195 := eq_true q195
       have p196 : 0 ≤ (x5_1 : Int) := of_decide_eq_true (by (with_reducible assumption))
       have q196 : x5_1 < (l0.length : Int) := of_decide_eq_true (by (with_reducible assumption))
       obtain ⟨ad196, e196, hx196_0⟩ := Kd.at_int (Kd.V_reads' HO_0.out).2.2 x5_1 p196 q196
       obtain rfl : ad195 = ad196 := (by injection e196)
       replace p196 := eq_true p196
       replace q196 := eq_true q196
       go_wp2
       go_ret
       exact ⟨_, by rfl, by exact .inl rfl, by repeat ((with_reducible (exact HB.out)))⟩
      ·rw [if_neg c6] at H
       have c6b0 : ((rd l0 x5_1) == a1) = false := beq_eq_false_iff_ne.mpr c6
       have c6b1 : ((rd l0 x5_1) != a1) = true := bne_iff_ne.mpr c6
       obtain ⟨y197, hy197⟩ : ∃ y_ : List Int, y_ = (([] : List Int)) := ⟨_, rfl⟩
       replace H : (if x5_1 ≤ (l0.length : Int) then ((some (l0.take (x5_1 : Int).toNat : List Int)).bind fun y200 => (if y197.length + y200.length < 17592186044416 then ((some (y197 ++ y200 : List Int)).bind fun y205 => ((some (([a1] : List Int) : List Int)).bind fun y208 => (if y205.length + y208.length < 17592186044416 then ((some (y205 ++ y208 : List Int)).bind fun y211 => ((some (l0.drop (x5_1 : Int).toNat : List Int)).bind fun y214 => (if y211.length + y214.length < 17592186044416 then (some (y211 ++ y214)) else (none)))) else (none)))) else (none))) else (none)) = some r := by (have H2_ := (Option.bind_some _ _).symm.trans H; rw [hy197]; with_reducible exact H2_)
       have Ny197 := A_.mk hy197
       clear hy197
       have c7b0 := eq_true (of_decide_eq_true (by (with_reducible assumption)) : 0 ≤ x5_1)
       by_cases c8 : x5_1 ≤ (l0.length : Int)
       ·rw [if_pos c8] at H
        have c8b0 := eq_true c8
        have c8b1 : decide (x5_1 ≤ (l0.length : Int)) = true := decide_eq_true c8
        clear c8
        obtain ⟨y200, hy200⟩ : ∃ y_ : List Int, y_ = (l0.take (x5_1 : Int).toNat) := ⟨_, rfl⟩
        replace H : (if y197.length + y200.length < 17592186044416 then ((some (y197 ++ y200 : List Int)).bind fun y205 => ((some (([a1] : List Int) : List Int)).bind fun y208 => (if y205.length + y208.length < 17592186044416 then ((some (y205 ++ y208 : List Int)).bind fun y211 => ((some (l0.drop (x5_1 : Int).toNat : List Int)).bind fun y214 => (if y211.length + y214.length < 17592186044416 then (some (y211 ++ y214)) else (none)))) else (none)))) else (none)) = some r := by (have H2_ := (Option.bind_some _ _).symm.trans H; rw [hy200]; with_reducible exact H2_)
        have Ny200 := A_.mk hy200
        clear hy200
        by_cases c9 : y197.length + y200.length < 17592186044416
        ·rw [if_pos c9] at H
         have LMc9 := A_.mk c9
         clear c9
         obtain ⟨y205, hy205⟩ : ∃ y_ : List Int, y_ = (y197 ++ y200) := ⟨_, rfl⟩
         replace H : ((some (([a1] : List Int) : List Int)).bind fun y208 => (if y205.length + y208.length < 17592186044416 then ((some (y205 ++ y208 : List Int)).bind fun y211 => ((some (l0.drop (x5_1 : Int).toNat : List Int)).bind fun y214 => (if y211.length + y214.length < 17592186044416 then (some (y211 ++ y214)) else (none)))) else (none))) = some r := by (have H2_ := (Option.bind_some _ _).symm.trans H; rw [hy205]; with_reducible exact H2_)
         have Ny205 := A_.mk hy205
         clear hy205
         obtain ⟨y208, hy208⟩ : ∃ y_ : List Int, y_ = (([a1] : List Int)) := ⟨_, rfl⟩
         replace H : (if y205.length + y208.length < 17592186044416 then ((some (y205 ++ y208 : List Int)).bind fun y211 => ((some (l0.drop (x5_1 : Int).toNat : List Int)).bind fun y214 => (if y211.length + y214.length < 17592186044416 then (some (y211 ++ y214)) else (none)))) else (none)) = some r := by (have H2_ := (Option.bind_some _ _).symm.trans H; rw [hy208]; with_reducible exact H2_)
         have Ny208 := A_.mk hy208
         clear hy208
         by_cases c10 : y205.length + y208.length < 17592186044416
         ·rw [if_pos c10] at H
          have LMc10 := A_.mk c10
          clear c10
          obtain ⟨y211, hy211⟩ : ∃ y_ : List Int, y_ = (y205 ++ y208) := ⟨_, rfl⟩
          replace H : ((some (l0.drop (x5_1 : Int).toNat : List Int)).bind fun y214 => (if y211.length + y214.length < 17592186044416 then (some (y211 ++ y214)) else (none))) = some r := by (have H2_ := (Option.bind_some _ _).symm.trans H; rw [hy211]; with_reducible exact H2_)
          have Ny211 := A_.mk hy211
          clear hy211
          have c11b0 := eq_true (of_decide_eq_true (by (with_reducible assumption)) : 0 ≤ x5_1)
          have c12b0 := eq_true (of_decide_eq_true (by (with_reducible assumption)) : x5_1 ≤ (l0.length : Int))
          obtain ⟨y214, hy214⟩ : ∃ y_ : List Int, y_ = (l0.drop (x5_1 : Int).toNat) := ⟨_, rfl⟩
          replace H : (if y211.length + y214.length < 17592186044416 then (some (y211 ++ y214)) else (none)) = some r := by (have H2_ := (Option.bind_some _ _).symm.trans H; rw [hy214]; with_reducible exact H2_)
          have Ny214 := A_.mk hy214
          clear hy214
          by_cases c13 : y211.length + y214.length < 17592186044416
          ·rw [if_pos c13] at H
           have LMc13 := A_.mk c13
           clear c13
           obtain ⟨y219, hy219⟩ : ∃ y_ : List Int, y_ = (y211 ++ y214) := ⟨_, rfl⟩
           replace H : (some y219) = some r := by (rw [hy219]; with_reducible exact H)
           have Ny219 := A_.mk hy219
           clear hy219
           obtain rfl := Option.some.inj H
           have p195 : 0 ≤ (x5_1 : Int) := of_decide_eq_true (by (with_reducible assumption))
           have q195 : x5_1 < (l0.length : Int) := of_decide_eq_true (by (with_reducible assumption))
           obtain ⟨ad195, e195, hx195_0⟩ := Kd.at_int (Kd.V_reads' HO_0.out).2.2 x5_1 p195 q195
           cases e195
           replace p195 := eq_true p195
           replace q195 := eq_true q195
           have p196 : 0 ≤ (x5_1 : Int) := of_decide_eq_true (by (with_reducible assumption))
           have q196 : x5_1 < (l0.length : Int) := of_decide_eq_true (by (with_reducible assumption))
           obtain ⟨ad196, e196, hx196_0⟩ := Kd.at_int (Kd.V_reads' HO_0.out).2.2 x5_1 p196 q196
           obtain rfl : ad195 = ad196 := (by injection e196)
           replace p196 := eq_true p196
           replace q196 := eq_true q196
           try go_wp2
           replace HO_0 := A_.mk (Kd.V_drew HO_0.out)
           replace HB := A_.mk (below_drew1 HB.out)
           have q15 : (x5_1 : Int) ≤ ((l0.length : Int) : Int) := of_decide_eq_true (by (with_reducible assumption))
           obtain ⟨i015, hi015, _, hsz15, _⟩ := info_parts info3
           have hroom15 : l0.length ≤ c0 := (Kd.V_reads' HO_0.out).2.1
           have hC15 : Kd.F (Kd.int .i64) _ _ (some ad195) l0.length l0 := (Kd.V_at (base := w.heap.size) HO_0.out).2.2
           have hcut15 := cut_to (P := Tryd.prog) 22 3 .i64 Tryd.underlying22 hi015 (some ad195) l0.length c0 x5_1 (of_decide_eq_true (by (with_reducible assumption))) q15 hroom15
           have hr15 := Kd.F_take (m := (x5_1 : Int).toNat) hC15 (by omega)
           have hy15 : y200.length = (x5_1 : Int).toNat := (by rw [Ny200.out, List.length_take]; omega)
           rw [← Ny200.out] at hr15
           rw [← hy15] at hcut15
           have HO204 := A_.mk (show Kd.V (Kd.int .i64) 3 _ w.heap.size _ (.slice (some ad195) y200.length c0) y200 from Kd.V_mk (by omega) hr15)
           have HC204 := A_.mk (show y200.length ≤ c0 from by omega)
           clear hr15 hC15 hroom15 hi015 hsz15
           have KY15 := A_.mk hy15
           clear hy15
           replace q15 := eq_true q15
           have q16 : (x5_1 : Int) ≤ ((l0.length : Int) : Int) := of_decide_eq_true (by (with_reducible assumption))
           obtain ⟨i016, hi016, _, hsz16, _⟩ := info_parts info3
           have hroom16 : l0.length ≤ c0 := (Kd.V_reads' HO_0.out).2.1
           have hC16 : Kd.F (Kd.int .i64) _ _ (some ad195) l0.length l0 := (Kd.V_at (base := w.heap.size) HO_0.out).2.2
           have q016 : (0 : Int) ≤ (x5_1 : Int) := of_decide_eq_true (by (with_reducible assumption))
           have hcut16 := cut_from (P := Tryd.prog) 22 3 .i64 Tryd.underlying22 hi016 1 hsz16 (some ad195) l0.length c0 x5_1 q016 q16
           have hr16 := Kd.F_cut (m := (x5_1 : Int).toNat) (c := c0) hC16 (by omega) hroom16
           obtain ⟨A16, hA16⟩ : ∃ A1, A1 = (if c0 = (x5_1 : Int).toNat then (some ad195) else ((some ad195) : Option Addr).map (·.add ((x5_1 : Int).toNat * 1))) := ⟨_, rfl⟩
           obtain ⟨c16, hc16⟩ : ∃ c1, c1 = c0 - (x5_1 : Int).toNat := ⟨_, rfl⟩
           have hy16 : y214.length = l0.length - (x5_1 : Int).toNat := (by rw [Ny214.out, List.length_drop] <;> omega)
           rw [show (l0).drop (x5_1 : Int).toNat = y214 from Ny214.out.symm] at hr16
           replace hr16 : Kd.F (Kd.int .i64) _ _ A16 y214.length y214 := (by rw [hA16]; exact hr16)
           rw [← hy16, ← hA16, ← hc16] at hcut16
           have HO218 := A_.mk (show Kd.V (Kd.int .i64) 3 _ w.heap.size _ (.slice A16 y214.length c16) y214 from Kd.V_mk (by rw [hy16, hc16]; exact Nat.sub_le_sub_right hroom16 _) hr16)
           have HC218 := A_.mk (show y214.length ≤ c16 from by rw [hy16, hc16]; exact Nat.sub_le_sub_right hroom16 _)
           clear hr16 hC16 hroom16 hi016 hsz16 hc16
           have KY16 := A_.mk hy16
           have KA16 := A_.mk hA16
           clear hy16 hA16
           replace q16 := eq_true q16
           refine start_ (n := 13) (S := fun w' => True) (ds := []) (m_ 13 0) (by kernel_rfl) rfl rfl trivial (fun hHeld => ?_); refine with_tabW spec_l1Put.tab6 spec_l1Put.bits6 (fun HT_ HW_ => ?_)
           generalize wr.drew = w14 at HO_0 HB HO204 HO218 hHeld ⊢
           refine pure_ (i := 1) (N := some 34) (v := ?_) (a' := ?_) (m_ 13 2) rfl rfl (any_of HT_.out (by kernel_rfl)) (fun _ _ _ h => h) (Or.inl ⟨by rfl, ?_⟩) ?_ ?_
           rotate_left
           ·intro w'
            go_simp
            with_reducible rfl
           rotate_left
           ·simp only [Act.put, sI_, s0_, s1_, i64_w, i32_w]
            rfl
           refine pure_ (i := 2) (N := some 35) (v := ?_) (a' := ?_) (m_ 13 6) rfl rfl (any_of HT_.out (by kernel_rfl)) (fun _ _ _ h => h) (Or.inl ⟨by rfl, ?_⟩) ?_ ?_
           rotate_left
           ·intro w'
            go_simp
            with_reducible rfl
           rotate_left
           ·simp only [Act.put, sI_, s0_, s1_, i64_w, i32_w]
            rfl
           refine pure_ (i := 3) (N := some 36) (v := ?_) (a' := ?_) (m_ 13 14) rfl rfl (any_of HT_.out (by kernel_rfl)) (fun _ _ _ h => h) (Or.inl ⟨by rfl, ?_⟩) ?_ ?_
           rotate_left
           ·intro w'
            go_simp
            with_reducible rfl
           rotate_left
           ·simp only [Act.put, sI_, s0_, s1_, i64_w, i32_w]
            rfl
           refine pure_ (i := 5) (N := some 38) (v := ?_) (a' := ?_) (m_ 13 46) rfl rfl (any_of HT_.out (by kernel_rfl)) (fun _ _ _ h => h) (Or.inl ⟨by rfl, ?_⟩) ?_ ?_
           rotate_left
           ·intro w'
            go_simp
            with_reducible rfl
           rotate_left
           ·simp only [Act.put, sI_, s0_, s1_, i64_w, i32_w]
            rfl
           refine pure_ (i := 8) (N := some 41) (v := ?_) (a' := ?_) (m_ 13 302) rfl rfl (any_of HT_.out (by kernel_rfl)) (fun _ _ _ h => h) (Or.inl ⟨by rfl, ?_⟩) ?_ ?_
           rotate_left
           ·intro w'
            go_simp
            with_reducible rfl
           rotate_left
           ·simp only [Act.put, sI_, s0_, s1_, i64_w, i32_w]
            rfl
           refine pure_ (i := 9) (N := some 42) (v := ?_) (a' := ?_) (m_ 13 814) rfl rfl (any_of HT_.out (by kernel_rfl)) (fun _ _ _ h => h) (Or.inl ⟨by rfl, ?_⟩) ?_ ?_
           rotate_left
           ·intro w'
            go_simp
            with_reducible rfl
           rotate_left
           ·simp only [Act.put, sI_, s0_, s1_, i64_w, i32_w]
            rfl
           refine pure_ (i := 10) (N := some 43) (v := ?_) (a' := ?_) (m_ 13 1838) rfl rfl (any_of HT_.out (by kernel_rfl)) (fun _ _ _ h => h) (Or.inl ⟨by rfl, ?_⟩) ?_ ?_
           rotate_left
           ·intro w'
            go_simp
            with_reducible rfl
           rotate_left
           ·simp only [Act.put, sI_, s0_, s1_, i64_w, i32_w]
            rfl
           refine join_ (σ := Value × Value × Value) 3 (m_ 13 1919) (fun s_ => [(33, s_.1), (37, s_.2.1), (39, s_.2.2)]) (fun s_ w' => (Kd.V (Kd.int .i64) 3 w' w.heap.size (fun k_ => (P0_ k_ ∨ w.heap.size ≤ k_) ∧ some k_ ≠ (s_.2.1 : Value).ownBlock ∧ some k_ ≠ (s_.2.2 : Value).ownBlock) (.slice (some ad195) y200.length c0) y200) ∧ (Kd.R (Kd.int .i64) 3 w' w.heap.size (fun k_ => (w.heap.size ≤ k_) ∧ some k_ ≠ (s_.2.2 : Value).ownBlock) s_.2.1 y205) ∧ (Kd.R (Kd.int .i64) 3 w' w.heap.size (fun k_ => (w.heap.size ≤ k_) ∧ some k_ ≠ (s_.2.1 : Value).ownBlock) s_.2.2 y208) ∧ (Kd.V (Kd.int .i64) 3 w' w.heap.size (fun k_ => (P0_ k_ ∨ w.heap.size ≤ k_) ∧ some k_ ≠ (s_.2.1 : Value).ownBlock ∧ some k_ ≠ (s_.2.2 : Value).ownBlock) (.slice A16 y214.length c16) y214) ∧ (Kd.V (Kd.int .i64) 3 w' w.heap.size (fun k_ => (P0_ k_ ∨ w.heap.size ≤ k_) ∧ some k_ ≠ (s_.2.1 : Value).ownBlock ∧ some k_ ≠ (s_.2.2 : Value).ownBlock) (.slice (some ad195) l0.length c0) l0) ∧ (Below w.heap.size w w')) ?_ ?_
           rotate_left
           ·intro hCont
            refine two_ (i := 0) (j := 6) (Ni := some 33) (Nj := some 39) (m_ 13 1839) (m_ 13 1902) rfl rfl rfl rfl (two_of HT_.out (by kernel_rfl)) (by decide) (by decide) (fun K hK => ?_) (fun K hK => ?_)
            ·refine Kd.R_lit_step (Kd.int .i64) _ 3 ?hg (N := 33) ?hd (xs := ([] : List Int)) (inner := []) (ok := fun _ => True) (okp := fun _ => True) ?hr ?hp (fun _ hk => hk) trivial (Below.refl _ _) (Nat.le_refl _) (by simp) ?_; (case hd => rfl); (case hg => rfl); (case hr => (go_simp; done)); (case hp => exact (Reps.none _ _))
             intro v198 w17 ho18 hb hg_ hnew_
             clear hg_ hnew_
             (rw [← Ny197.out] at ho18)
             replace HO_0 := A_.mk (Kd.V_elder' HO_0.out (Kd.R_base ho18) hb)
             replace HO204 := A_.mk (Kd.V_elder' HO204.out (Kd.R_base ho18) hb)
             replace HO218 := A_.mk (Kd.V_elder' HO218.out (Kd.R_base ho18) hb)
             have HO199 := A_.mk (Kd.R_lower (Kd.R_newM (M := fun k_ => (w.heap.size ≤ k_)) ho18 (below_size HB.out) (fun k_ h_ => h_)) (below_size HB.out))
             replace HB := A_.mk (below_step HB.out hb)
             clear hb ho18
             refine hK.out _ _ trivial (fun hHeld => ?_)
             clear hK K
             refine norm_ (a' := ?_) ?_ ?_
             rotate_left
             ·show Act.put _ (some 33) _ = _
              simp only [Act.put, sI_, s0_, s1_, i64_w, i32_w]
              rfl
             refine two_ (i := 4) (j := 6) (Ni := some 37) (Nj := some 39) (m_ 13 1855) (m_ 13 1903) rfl rfl rfl rfl (two_of HT_.out (by kernel_rfl)) (by decide) (by decide) (fun K hK => ?_) (fun K hK => ?_)
             ·refine Kd.R_append_rows_step (Kd.int .i64) (w0 := w) w.heap.size (by rfl) (.tmp 33) (.tmp 36) 22 3 (.int .i64 0) 8 rfl Tryd.underlying22 info3 rfl (by decide) (by omega) v198 y197 y200 _ _ _ (fun k_ => (w.heap.size ≤ k_)) (fun _ => False) rfl rfl ?aO ?aR (fun _ _ h => h) (fun _ h => h.elim) ?aF ?aB ?aS ?aL ?_
              (case aR => repeat (exact (Kd.V_reads' HO204.out).2.2))
              (case aB => exact HB.out)
              (case aF => exact (fun k_ hk => (Nat.le_trans (below_size HB.out) hk)))
              (case aO => exact (by (with_reducible repeat (apply Kd.R_alloc)); exact Kd.R_mono HO199.out (fun _ hk => hk.1)))
              (case aS => exact (below_size HB.out))
              (case aL => have := LMc9.out; omega)
              intro v206 w19 ho hb hg hat
              rw [← Ny205.out] at ho
              replace HO_0 := A_.mk (Kd.V_afterv (ok := (fun k_ => (P0_ k_ ∨ w.heap.size ≤ k_))) HO_0.out hg hat)
              replace HO204 := A_.mk (Kd.V_afterv (ok := (fun k_ => (P0_ k_ ∨ w.heap.size ≤ k_))) HO204.out hg hat)
              replace HO218 := A_.mk (Kd.V_afterv (ok := (fun k_ => (P0_ k_ ∨ w.heap.size ≤ k_))) HO218.out hg hat)
              replace HB := A_.mk (hb)
              have HO207 := A_.mk (ho)
              clear HO199
              clear ho hb hg hat
              refine hK.out _ _ trivial (fun hHeld => ?_)
              clear hK K
              refine norm_ (a' := ?_) ?_ ?_
              rotate_left
              ·show Act.put _ (some 37) _ = _
               simp only [Act.put, sI_, s0_, s1_, i64_w, i32_w]
               rfl
              refine one_ (i := 6) (N := some 39) (m_ 13 1919) rfl rfl (one_of HT_.out (by kernel_rfl)) (by decide) (fun K hK => ?_)
              refine Kd.R_lit_step (Kd.int .i64) _ 3 ?hg (N := 39) ?hd (xs := ([a1] : List Int)) (inner := [.int .i64 a1]) (ok := fun _ => True) (okp := fun _ => True) ?hr ?hp (fun _ hk => hk) trivial (Below.refl _ _) (Nat.le_refl _) (by simp) ?_; (case hd => rfl); (case hg => rfl); (case hr => (go_simp; done)); (case hp => exact (Reps.one (show Kd.M (Kd.int .i64) _ _ _ a1 [.int .i64 a1] from rfl) (Reps.none _ _)))
              intro v209 w20 ho21 hb hg_ hnew_
              clear hg_ hnew_
              (rw [← Ny208.out] at ho21)
              replace HO_0 := A_.mk (Kd.V_elder' HO_0.out (Kd.R_base ho21) hb)
              replace HO204 := A_.mk (Kd.V_elder' HO204.out (Kd.R_base ho21) hb)
              replace HO218 := A_.mk (Kd.V_elder' HO218.out (Kd.R_base ho21) hb)
              have HO210 := A_.mk (Kd.R_lower (Kd.R_new' (Kd.R_newM (M := fun k_ => (w.heap.size ≤ k_)) ho21 (below_size HB.out) (fun k_ h_ => h_)) (Kd.R_lt HO207.out)) (below_size HB.out))
              replace HO207 := A_.mk (Kd.R_elder' HO207.out (Kd.R_base ho21) hb)
              replace HB := A_.mk (below_step HB.out hb)
              clear hb ho21
              refine hK.out _ _ trivial (fun hHeld => ?_)
              clear hK K
              refine norm_ (a' := ?_) ?_ ?_
              rotate_left
              ·show Act.put _ (some 39) _ = _
               simp only [Act.put, sI_, s0_, s1_, i64_w, i32_w]
               rfl
              exact norm_ (by simp only [putAll, Act.put, sI_, s0_, s1_]) (hCont (v198, v206, v209) _ ⟨(by (with_reducible repeat (apply Kd.V_alloc)); exact Kd.V_mono HO204.out (fun _ hk => ⟨hk.1.1, ⟨hk.1.2, hk.2⟩⟩)), HO207.out, (by (with_reducible repeat (apply Kd.R_alloc)); exact Kd.R_mono HO210.out (fun _ hk => ⟨hk.1.1, hk.2⟩)), (by (with_reducible repeat (apply Kd.V_alloc)); exact Kd.V_mono HO218.out (fun _ hk => ⟨hk.1.1, ⟨hk.1.2, hk.2⟩⟩)), (by (with_reducible repeat (apply Kd.V_alloc)); exact Kd.V_mono HO_0.out (fun _ hk => ⟨hk.1.1, ⟨hk.1.2, hk.2⟩⟩)), HB.out⟩)
             ·refine Kd.R_lit_step (Kd.int .i64) _ 3 ?hg (N := 39) ?hd (xs := ([a1] : List Int)) (inner := [.int .i64 a1]) (ok := fun _ => True) (okp := fun _ => True) ?hr ?hp (fun _ hk => hk) trivial (Below.refl _ _) (Nat.le_refl _) (by simp) ?_; (case hd => rfl); (case hg => rfl); (case hr => (go_simp; done)); (case hp => exact (Reps.one (show Kd.M (Kd.int .i64) _ _ _ a1 [.int .i64 a1] from rfl) (Reps.none _ _)))
              intro v209 w19 ho20 hb hg_ hnew_
              clear hg_ hnew_
              (rw [← Ny208.out] at ho20)
              replace HO_0 := A_.mk (Kd.V_elder' HO_0.out (Kd.R_base ho20) hb)
              replace HO204 := A_.mk (Kd.V_elder' HO204.out (Kd.R_base ho20) hb)
              replace HO218 := A_.mk (Kd.V_elder' HO218.out (Kd.R_base ho20) hb)
              have HO210 := A_.mk (Kd.R_lower (Kd.R_new' (Kd.R_newM (M := fun k_ => (w.heap.size ≤ k_)) ho20 (below_size HB.out) (fun k_ h_ => h_)) (Kd.R_lt HO199.out)) (below_size HB.out))
              replace HO199 := A_.mk (Kd.R_elder' HO199.out (Kd.R_base ho20) hb)
              replace HB := A_.mk (below_step HB.out hb)
              clear hb ho20
              refine hK.out _ _ trivial (fun hHeld => ?_)
              clear hK K
              refine norm_ (a' := ?_) ?_ ?_
              rotate_left
              ·show Act.put _ (some 39) _ = _
               simp only [Act.put, sI_, s0_, s1_, i64_w, i32_w]
               rfl
              refine one_ (i := 4) (N := some 37) (m_ 13 1919) rfl rfl (one_of HT_.out (by kernel_rfl)) (by decide) (fun K hK => ?_)
              refine Kd.R_append_rows_step (Kd.int .i64) (w0 := w) w.heap.size (by rfl) (.tmp 33) (.tmp 36) 22 3 (.int .i64 0) 8 rfl Tryd.underlying22 info3 rfl (by decide) (by omega) v198 y197 y200 _ _ _ (fun k_ => (w.heap.size ≤ k_) ∧ some k_ ≠ (v209 : Value).ownBlock) (fun _ => False) rfl rfl ?aO ?aR (fun _ _ h => h) (fun _ h => h.elim) ?aF ?aB ?aS ?aL ?_
              (case aR => repeat (exact (Kd.V_reads' HO204.out).2.2))
              (case aB => exact HB.out)
              (case aF => exact (fun k_ hk => ⟨(Nat.le_trans (below_size HB.out) hk), Kd.fresh' (Kd.R_lt HO210.out) k_ hk⟩))
              (case aO => exact (by (with_reducible repeat (apply Kd.R_alloc)); exact Kd.R_mono HO199.out (fun _ hk => ⟨hk.1.1, hk.2⟩)))
              (case aS => exact (below_size HB.out))
              (case aL => have := LMc9.out; omega)
              intro v206 w21 ho hb hg hat
              rw [← Ny205.out] at ho
              replace HO_0 := A_.mk (Kd.V_afterv (ok := (fun k_ => (P0_ k_ ∨ w.heap.size ≤ k_) ∧ some k_ ≠ (v209 : Value).ownBlock)) (by (with_reducible repeat (apply Kd.V_alloc)); exact Kd.V_mono HO_0.out (fun _ hk => ⟨⟨hk.1.1, hk.2⟩, hk.1.2⟩)) hg hat)
              replace HO204 := A_.mk (Kd.V_afterv (ok := (fun k_ => (P0_ k_ ∨ w.heap.size ≤ k_) ∧ some k_ ≠ (v209 : Value).ownBlock)) (by (with_reducible repeat (apply Kd.V_alloc)); exact Kd.V_mono HO204.out (fun _ hk => ⟨⟨hk.1.1, hk.2⟩, hk.1.2⟩)) hg hat)
              replace HO218 := A_.mk (Kd.V_afterv (ok := (fun k_ => (P0_ k_ ∨ w.heap.size ≤ k_) ∧ some k_ ≠ (v209 : Value).ownBlock)) (by (with_reducible repeat (apply Kd.V_alloc)); exact Kd.V_mono HO218.out (fun _ hk => ⟨⟨hk.1.1, hk.2⟩, hk.1.2⟩)) hg hat)
              replace HO210 := A_.mk (Kd.R_after (ok := (fun k_ => (w.heap.size ≤ k_))) (by (with_reducible repeat (apply Kd.R_alloc)); exact Kd.R_mono HO210.out (fun _ hk => ⟨hk.1.1, hk.2⟩)) hg hat)
              replace HB := A_.mk (hb)
              have HO207 := A_.mk (ho)
              clear HO199
              clear ho hb hg hat
              refine hK.out _ _ trivial (fun hHeld => ?_)
              clear hK K
              refine norm_ (a' := ?_) ?_ ?_
              rotate_left
              ·show Act.put _ (some 37) _ = _
               simp only [Act.put, sI_, s0_, s1_, i64_w, i32_w]
               rfl
              exact norm_ (by simp only [putAll, Act.put, sI_, s0_, s1_]) (hCont (v198, v206, v209) _ ⟨(by (with_reducible repeat (apply Kd.V_alloc)); exact Kd.V_mono HO204.out (fun _ hk => ⟨hk.1.1, ⟨hk.2, hk.1.2⟩⟩)), HO207.out, HO210.out, (by (with_reducible repeat (apply Kd.V_alloc)); exact Kd.V_mono HO218.out (fun _ hk => ⟨hk.1.1, ⟨hk.2, hk.1.2⟩⟩)), (by (with_reducible repeat (apply Kd.V_alloc)); exact Kd.V_mono HO_0.out (fun _ hk => ⟨hk.1.1, ⟨hk.2, hk.1.2⟩⟩)), HB.out⟩)
            ·refine Kd.R_lit_step (Kd.int .i64) _ 3 ?hg (N := 39) ?hd (xs := ([a1] : List Int)) (inner := [.int .i64 a1]) (ok := fun _ => True) (okp := fun _ => True) ?hr ?hp (fun _ hk => hk) trivial (Below.refl _ _) (Nat.le_refl _) (by simp) ?_; (case hd => rfl); (case hg => rfl); (case hr => (go_simp; done)); (case hp => exact (Reps.one (show Kd.M (Kd.int .i64) _ _ _ a1 [.int .i64 a1] from rfl) (Reps.none _ _)))
             intro v209 w17 ho18 hb hg_ hnew_
             clear hg_ hnew_
             (rw [← Ny208.out] at ho18)
             replace HO_0 := A_.mk (Kd.V_elder' HO_0.out (Kd.R_base ho18) hb)
             replace HO204 := A_.mk (Kd.V_elder' HO204.out (Kd.R_base ho18) hb)
             replace HO218 := A_.mk (Kd.V_elder' HO218.out (Kd.R_base ho18) hb)
             have HO210 := A_.mk (Kd.R_lower (Kd.R_newM (M := fun k_ => (w.heap.size ≤ k_)) ho18 (below_size HB.out) (fun k_ h_ => h_)) (below_size HB.out))
             replace HB := A_.mk (below_step HB.out hb)
             clear hb ho18
             refine hK.out _ _ trivial (fun hHeld => ?_)
             clear hK K
             refine norm_ (a' := ?_) ?_ ?_
             rotate_left
             ·show Act.put _ (some 39) _ = _
              simp only [Act.put, sI_, s0_, s1_, i64_w, i32_w]
              rfl
             refine one_ (i := 0) (N := some 33) (m_ 13 1903) rfl rfl (one_of HT_.out (by kernel_rfl)) (by decide) (fun K hK => ?_)
             refine Kd.R_lit_step (Kd.int .i64) _ 3 ?hg (N := 33) ?hd (xs := ([] : List Int)) (inner := []) (ok := fun _ => True) (okp := fun _ => True) ?hr ?hp (fun _ hk => hk) trivial (Below.refl _ _) (Nat.le_refl _) (by simp) ?_; (case hd => rfl); (case hg => rfl); (case hr => (go_simp; done)); (case hp => exact (Reps.none _ _))
             intro v198 w19 ho20 hb hg_ hnew_
             clear hg_ hnew_
             (rw [← Ny197.out] at ho20)
             replace HO_0 := A_.mk (Kd.V_elder' HO_0.out (Kd.R_base ho20) hb)
             replace HO204 := A_.mk (Kd.V_elder' HO204.out (Kd.R_base ho20) hb)
             replace HO218 := A_.mk (Kd.V_elder' HO218.out (Kd.R_base ho20) hb)
             have HO199 := A_.mk (Kd.R_lower (Kd.R_new' (Kd.R_newM (M := fun k_ => (w.heap.size ≤ k_)) ho20 (below_size HB.out) (fun k_ h_ => h_)) (Kd.R_lt HO210.out)) (below_size HB.out))
             replace HO210 := A_.mk (Kd.R_elder' HO210.out (Kd.R_base ho20) hb)
             replace HB := A_.mk (below_step HB.out hb)
             clear hb ho20
             refine hK.out _ _ trivial (fun hHeld => ?_)
             clear hK K
             refine norm_ (a' := ?_) ?_ ?_
             rotate_left
             ·show Act.put _ (some 33) _ = _
              simp only [Act.put, sI_, s0_, s1_, i64_w, i32_w]
              rfl
             refine one_ (i := 4) (N := some 37) (m_ 13 1919) rfl rfl (one_of HT_.out (by kernel_rfl)) (by decide) (fun K hK => ?_)
             refine Kd.R_append_rows_step (Kd.int .i64) (w0 := w) w.heap.size (by rfl) (.tmp 33) (.tmp 36) 22 3 (.int .i64 0) 8 rfl Tryd.underlying22 info3 rfl (by decide) (by omega) v198 y197 y200 _ _ _ (fun k_ => (w.heap.size ≤ k_) ∧ some k_ ≠ (v209 : Value).ownBlock) (fun _ => False) rfl rfl ?aO ?aR (fun _ _ h => h) (fun _ h => h.elim) ?aF ?aB ?aS ?aL ?_
             (case aR => repeat (exact (Kd.V_reads' HO204.out).2.2))
             (case aB => exact HB.out)
             (case aF => exact (fun k_ hk => ⟨(Nat.le_trans (below_size HB.out) hk), Kd.fresh' (Kd.R_lt HO210.out) k_ hk⟩))
             (case aO => exact (by (with_reducible repeat (apply Kd.R_alloc)); exact Kd.R_mono HO199.out (fun _ hk => ⟨hk.1.1, hk.2⟩)))
             (case aS => exact (below_size HB.out))
             (case aL => have := LMc9.out; omega)
             intro v206 w21 ho hb hg hat
             rw [← Ny205.out] at ho
             replace HO_0 := A_.mk (Kd.V_afterv (ok := (fun k_ => (P0_ k_ ∨ w.heap.size ≤ k_) ∧ some k_ ≠ (v209 : Value).ownBlock)) HO_0.out hg hat)
             replace HO204 := A_.mk (Kd.V_afterv (ok := (fun k_ => (P0_ k_ ∨ w.heap.size ≤ k_) ∧ some k_ ≠ (v209 : Value).ownBlock)) HO204.out hg hat)
             replace HO218 := A_.mk (Kd.V_afterv (ok := (fun k_ => (P0_ k_ ∨ w.heap.size ≤ k_) ∧ some k_ ≠ (v209 : Value).ownBlock)) HO218.out hg hat)
             replace HO210 := A_.mk (Kd.R_after (ok := (fun k_ => (w.heap.size ≤ k_))) (by (with_reducible repeat (apply Kd.R_alloc)); exact Kd.R_mono HO210.out (fun _ hk => ⟨hk.1.1, hk.2⟩)) hg hat)
             replace HB := A_.mk (hb)
             have HO207 := A_.mk (ho)
             clear HO199
             clear ho hb hg hat
             refine hK.out _ _ trivial (fun hHeld => ?_)
             clear hK K
             refine norm_ (a' := ?_) ?_ ?_
             rotate_left
             ·show Act.put _ (some 37) _ = _
              simp only [Act.put, sI_, s0_, s1_, i64_w, i32_w]
              rfl
             exact norm_ (by simp only [putAll, Act.put, sI_, s0_, s1_]) (hCont (v198, v206, v209) _ ⟨(by (with_reducible repeat (apply Kd.V_alloc)); exact Kd.V_mono HO204.out (fun _ hk => ⟨hk.1.1, ⟨hk.2, hk.1.2⟩⟩)), HO207.out, HO210.out, (by (with_reducible repeat (apply Kd.V_alloc)); exact Kd.V_mono HO218.out (fun _ hk => ⟨hk.1.1, ⟨hk.2, hk.1.2⟩⟩)), (by (with_reducible repeat (apply Kd.V_alloc)); exact Kd.V_mono HO_0.out (fun _ hk => ⟨hk.1.1, ⟨hk.2, hk.1.2⟩⟩)), HB.out⟩)
           rintro ⟨v198, v206, v209⟩ w22 ⟨h0_, h1_, h2_, h3_, h4_, h5_⟩
           have n0_ : A_ (Kd.V (Kd.int .i64) 3 w22 w.heap.size (fun k_ => (P0_ k_ ∨ w.heap.size ≤ k_) ∧ some k_ ≠ (v206 : Value).ownBlock ∧ some k_ ≠ (v209 : Value).ownBlock) (.slice (some ad195) y200.length c0) y200) := ⟨h0_⟩
           have n1_ : A_ (Kd.R (Kd.int .i64) 3 w22 w.heap.size (fun k_ => (w.heap.size ≤ k_) ∧ some k_ ≠ (v209 : Value).ownBlock) v206 y205) := ⟨h1_⟩
           have n2_ : A_ (Kd.R (Kd.int .i64) 3 w22 w.heap.size (fun k_ => (w.heap.size ≤ k_) ∧ some k_ ≠ (v206 : Value).ownBlock) v209 y208) := ⟨h2_⟩
           have n3_ : A_ (Kd.V (Kd.int .i64) 3 w22 w.heap.size (fun k_ => (P0_ k_ ∨ w.heap.size ≤ k_) ∧ some k_ ≠ (v206 : Value).ownBlock ∧ some k_ ≠ (v209 : Value).ownBlock) (.slice A16 y214.length c16) y214) := ⟨h3_⟩
           have n4_ : A_ (Kd.V (Kd.int .i64) 3 w22 w.heap.size (fun k_ => (P0_ k_ ∨ w.heap.size ≤ k_) ∧ some k_ ≠ (v206 : Value).ownBlock ∧ some k_ ≠ (v209 : Value).ownBlock) (.slice (some ad195) l0.length c0) l0) := ⟨h4_⟩
           have n5_ : A_ (Below w.heap.size w w22) := ⟨h5_⟩
           clear HO_0
           clear HB
           clear h0_ h1_ h2_ h3_ h4_ h5_
           have HO204 := n0_
           have HO207 := n1_
           have HO210 := n2_
           have HO218 := n3_
           have HO_0 := n4_
           have HB := n5_
           clear n0_ n1_ n2_ n3_ n4_ n5_
           have hHeld := trivial
           obtain ⟨Ao24, co24, eo24⟩ := Kd.R_slice HO210.out
           (subst eo24)
           refine norm_ (a' := ?_) ?_ ?_
           rotate_left
           ·simp only [putAll, Act.put, sI_, s0_, s1_]
            rfl
           refine one_ (i := 7) (N := some 40) (m_ 13 2047) rfl rfl (one_of HT_.out (by kernel_rfl)) (by decide) (fun K hK => ?_)
           refine Kd.R_append_rows_step (Kd.int .i64) (w0 := w) w.heap.size (by rfl) (.tmp 37) (.tmp 39) 22 3 (.int .i64 0) 8 rfl Tryd.underlying22 info3 rfl (by decide) (by omega) v206 y205 y208 _ _ _ (fun k_ => (w.heap.size ≤ k_) ∧ some k_ ≠ (.slice Ao24 y208.length co24 : Value).ownBlock) (fun _ => False) rfl rfl ?aO ?aR (fun _ _ h => h) (fun _ h => h.elim) ?aF ?aB ?aS ?aL ?_
           (case aR => repeat (exact (Kd.R_reads' HO210.out).2.2))
           (case aB => exact HB.out)
           (case aF => exact (fun k_ hk => ⟨(Nat.le_trans (below_size HB.out) hk), Kd.fresh' (Kd.R_lt HO210.out) k_ hk⟩))
           (case aO => exact HO207.out)
           (case aS => exact (below_size HB.out))
           (case aL => have := LMc10.out; omega)
           intro v212 w23 ho hb hg hat
           rw [← Ny211.out] at ho
           replace HO_0 := A_.mk (Kd.V_afterv (ok := (fun k_ => (P0_ k_ ∨ w.heap.size ≤ k_) ∧ some k_ ≠ (.slice Ao24 y208.length co24 : Value).ownBlock)) (by (with_reducible repeat (apply Kd.V_alloc)); exact Kd.V_mono HO_0.out (fun _ hk => ⟨⟨hk.1, hk.2.2⟩, hk.2.1⟩)) hg hat)
           replace HO204 := A_.mk (Kd.V_afterv (ok := (fun k_ => (P0_ k_ ∨ w.heap.size ≤ k_) ∧ some k_ ≠ (.slice Ao24 y208.length co24 : Value).ownBlock)) (by (with_reducible repeat (apply Kd.V_alloc)); exact Kd.V_mono HO204.out (fun _ hk => ⟨⟨hk.1, hk.2.2⟩, hk.2.1⟩)) hg hat)
           replace HO218 := A_.mk (Kd.V_afterv (ok := (fun k_ => (P0_ k_ ∨ w.heap.size ≤ k_) ∧ some k_ ≠ (.slice Ao24 y208.length co24 : Value).ownBlock)) (by (with_reducible repeat (apply Kd.V_alloc)); exact Kd.V_mono HO218.out (fun _ hk => ⟨⟨hk.1, hk.2.2⟩, hk.2.1⟩)) hg hat)
           replace HO210 := A_.mk (Kd.R_after (ok := (fun k_ => (w.heap.size ≤ k_))) HO210.out hg hat)
           replace HB := A_.mk (hb)
           have HO213 := A_.mk (ho)
           clear HO207
           clear ho hb hg hat
           refine hK.out _ _ trivial (fun hHeld => ?_)
           clear hK K
           refine norm_ (a' := ?_) ?_ ?_
           rotate_left
           ·show Act.put _ (some 40) _ = _
            simp only [Act.put, sI_, s0_, s1_, i64_w, i32_w]
            rfl
           refine one_ (i := 11) (N := some 44) (m_ 13 4095) rfl rfl (one_of HT_.out (by kernel_rfl)) (by decide) (fun K hK => ?_)
           refine Kd.R_append_rows_step (Kd.int .i64) (w0 := w) w.heap.size (by rfl) (.tmp 40) (.tmp 43) 22 3 (.int .i64 0) 8 rfl Tryd.underlying22 info3 rfl (by decide) (by omega) v212 y211 y214 _ _ _ (fun k_ => (w.heap.size ≤ k_) ∧ some k_ ≠ (.slice Ao24 y208.length co24 : Value).ownBlock) (fun _ => False) rfl rfl ?aO ?aR (fun _ _ h => h) (fun _ h => h.elim) ?aF ?aB ?aS ?aL ?_
           (case aR => repeat (exact (Kd.V_reads' HO218.out).2.2))
           (case aB => exact HB.out)
           (case aF => exact (fun k_ hk => ⟨(Nat.le_trans (below_size HB.out) hk), Kd.fresh' (Kd.R_lt HO210.out) k_ hk⟩))
           (case aO => exact HO213.out)
           (case aS => exact (below_size HB.out))
           (case aL => have := LMc13.out; omega)
           intro v220 w25 ho hb hg hat
           rw [← Ny219.out] at ho
           replace HO_0 := A_.mk (Kd.V_afterv (ok := (fun k_ => (P0_ k_ ∨ w.heap.size ≤ k_) ∧ some k_ ≠ (.slice Ao24 y208.length co24 : Value).ownBlock)) HO_0.out hg hat)
           replace HO204 := A_.mk (Kd.V_afterv (ok := (fun k_ => (P0_ k_ ∨ w.heap.size ≤ k_) ∧ some k_ ≠ (.slice Ao24 y208.length co24 : Value).ownBlock)) HO204.out hg hat)
           replace HO218 := A_.mk (Kd.V_afterv (ok := (fun k_ => (P0_ k_ ∨ w.heap.size ≤ k_) ∧ some k_ ≠ (.slice Ao24 y208.length co24 : Value).ownBlock)) HO218.out hg hat)
           replace HO210 := A_.mk (Kd.R_after (ok := (fun k_ => (w.heap.size ≤ k_))) HO210.out hg hat)
           replace HB := A_.mk (hb)
           have HO221 := A_.mk (ho)
           clear HO213
           clear ho hb hg hat
           refine hK.out _ _ trivial (fun hHeld => ?_)
           clear hK K
           refine norm_ (a' := ?_) ?_ ?_
           rotate_left
           ·show Act.put _ (some 44) _ = _
            simp only [Act.put, sI_, s0_, s1_, i64_w, i32_w]
            rfl
           refine pure_ (i := 12) (N := some 4) (v := ?_) (a' := ?_) (m_ 13 8191) rfl rfl (any_of HT_.out (by kernel_rfl)) (fun _ _ _ h => h) (Or.inl ⟨by rfl, ?_⟩) ?_ ?_
           rotate_left
           ·intro w'
            go_simp
            with_reducible rfl
           rotate_left
           ·simp only [Act.put, sI_, s0_, s1_, i64_w, i32_w]
            rfl
           refine done_ (done_of HT_.out (by kernel_rfl)) ?_
           try go_wp2
           go_ret
           exact ⟨_, by rfl, .inr (Kd.R_mono (by (with_reducible repeat (apply Kd.R_alloc)); exact Kd.R_mono HO221.out (fun _ hk => hk.1)) (fun _ _ => trivial)), by repeat ((with_reducible (exact HB.out)))⟩
          ·rw [if_neg c13] at H
           exact absurd H (by simp)
         ·rw [if_neg c10] at H
          exact absurd H (by simp)
        ·rw [if_neg c9] at H
         exact absurd H (by simp)
       ·rw [if_neg c8] at H
        exact absurd H (by simp)
    ·rw [if_neg c4] at H
     exact absurd H (by simp)
   ·rw [if_neg c3] at H
    have c3b0 : decide (x5_1 < (l0.length : Int)) = false := decide_eq_false c3
    clear c3
    obtain ⟨y222, hy222⟩ : ∃ y_ : List Int, y_ = (([] : List Int)) := ⟨_, rfl⟩
    replace H : (if 0 ≤ x5_1 then (if x5_1 ≤ (l0.length : Int) then ((some (l0.take (x5_1 : Int).toNat : List Int)).bind fun y225 => (if y222.length + y225.length < 17592186044416 then ((some (y222 ++ y225 : List Int)).bind fun y230 => ((some (([a1] : List Int) : List Int)).bind fun y233 => (if y230.length + y233.length < 17592186044416 then ((some (y230 ++ y233 : List Int)).bind fun y236 => ((some (l0.drop (x5_1 : Int).toNat : List Int)).bind fun y239 => (if y236.length + y239.length < 17592186044416 then (some (y236 ++ y239)) else (none)))) else (none)))) else (none))) else (none)) else (none)) = some r := by (have H2_ := (Option.bind_some _ _).symm.trans H; rw [hy222]; with_reducible exact H2_)
    have Ny222 := A_.mk hy222
    clear hy222
    by_cases c26 : 0 ≤ x5_1
    ·rw [if_pos c26] at H
     have c26b0 := eq_true c26
     have c26b1 : decide (0 ≤ x5_1) = true := decide_eq_true c26
     clear c26
     by_cases c27 : x5_1 ≤ (l0.length : Int)
     ·rw [if_pos c27] at H
      have c27b0 := eq_true c27
      have c27b1 : decide (x5_1 ≤ (l0.length : Int)) = true := decide_eq_true c27
      clear c27
      obtain ⟨y225, hy225⟩ : ∃ y_ : List Int, y_ = (l0.take (x5_1 : Int).toNat) := ⟨_, rfl⟩
      replace H : (if y222.length + y225.length < 17592186044416 then ((some (y222 ++ y225 : List Int)).bind fun y230 => ((some (([a1] : List Int) : List Int)).bind fun y233 => (if y230.length + y233.length < 17592186044416 then ((some (y230 ++ y233 : List Int)).bind fun y236 => ((some (l0.drop (x5_1 : Int).toNat : List Int)).bind fun y239 => (if y236.length + y239.length < 17592186044416 then (some (y236 ++ y239)) else (none)))) else (none)))) else (none)) = some r := by (have H2_ := (Option.bind_some _ _).symm.trans H; rw [hy225]; with_reducible exact H2_)
      have Ny225 := A_.mk hy225
      clear hy225
      by_cases c28 : y222.length + y225.length < 17592186044416
      ·rw [if_pos c28] at H
       have LMc28 := A_.mk c28
       clear c28
       obtain ⟨y230, hy230⟩ : ∃ y_ : List Int, y_ = (y222 ++ y225) := ⟨_, rfl⟩
       replace H : ((some (([a1] : List Int) : List Int)).bind fun y233 => (if y230.length + y233.length < 17592186044416 then ((some (y230 ++ y233 : List Int)).bind fun y236 => ((some (l0.drop (x5_1 : Int).toNat : List Int)).bind fun y239 => (if y236.length + y239.length < 17592186044416 then (some (y236 ++ y239)) else (none)))) else (none))) = some r := by (have H2_ := (Option.bind_some _ _).symm.trans H; rw [hy230]; with_reducible exact H2_)
       have Ny230 := A_.mk hy230
       clear hy230
       obtain ⟨y233, hy233⟩ : ∃ y_ : List Int, y_ = (([a1] : List Int)) := ⟨_, rfl⟩
       replace H : (if y230.length + y233.length < 17592186044416 then ((some (y230 ++ y233 : List Int)).bind fun y236 => ((some (l0.drop (x5_1 : Int).toNat : List Int)).bind fun y239 => (if y236.length + y239.length < 17592186044416 then (some (y236 ++ y239)) else (none)))) else (none)) = some r := by (have H2_ := (Option.bind_some _ _).symm.trans H; rw [hy233]; with_reducible exact H2_)
       have Ny233 := A_.mk hy233
       clear hy233
       by_cases c29 : y230.length + y233.length < 17592186044416
       ·rw [if_pos c29] at H
        have LMc29 := A_.mk c29
        clear c29
        obtain ⟨y236, hy236⟩ : ∃ y_ : List Int, y_ = (y230 ++ y233) := ⟨_, rfl⟩
        replace H : ((some (l0.drop (x5_1 : Int).toNat : List Int)).bind fun y239 => (if y236.length + y239.length < 17592186044416 then (some (y236 ++ y239)) else (none))) = some r := by (have H2_ := (Option.bind_some _ _).symm.trans H; rw [hy236]; with_reducible exact H2_)
        have Ny236 := A_.mk hy236
        clear hy236
        have c30b0 := eq_true (of_decide_eq_true (by (with_reducible assumption)) : 0 ≤ x5_1)
        have c31b0 := eq_true (of_decide_eq_true (by (with_reducible assumption)) : x5_1 ≤ (l0.length : Int))
        obtain ⟨y239, hy239⟩ : ∃ y_ : List Int, y_ = (l0.drop (x5_1 : Int).toNat) := ⟨_, rfl⟩
        replace H : (if y236.length + y239.length < 17592186044416 then (some (y236 ++ y239)) else (none)) = some r := by (have H2_ := (Option.bind_some _ _).symm.trans H; rw [hy239]; with_reducible exact H2_)
        have Ny239 := A_.mk hy239
        clear hy239
        by_cases c32 : y236.length + y239.length < 17592186044416
        ·rw [if_pos c32] at H
         have LMc32 := A_.mk c32
         clear c32
         obtain ⟨y244, hy244⟩ : ∃ y_ : List Int, y_ = (y236 ++ y239) := ⟨_, rfl⟩
         replace H : (some y244) = some r := by (rw [hy244]; with_reducible exact H)
         have Ny244 := A_.mk hy244
         clear hy244
         obtain rfl := Option.some.inj H
         try go_wp2
         replace HO_0 := A_.mk (Kd.V_drew HO_0.out)
         replace HB := A_.mk (below_drew1 HB.out)
         have q34 : (x5_1 : Int) ≤ ((l0.length : Int) : Int) := of_decide_eq_true (by (with_reducible assumption))
         obtain ⟨i034, hi034, _, hsz34, _⟩ := info_parts info3
         have hroom34 : l0.length ≤ c0 := (Kd.V_reads' HO_0.out).2.1
         have hC34 : Kd.F (Kd.int .i64) _ _ A0 l0.length l0 := (Kd.V_at (base := w.heap.size) HO_0.out).2.2
         have hcut34 := cut_to (P := Tryd.prog) 22 3 .i64 Tryd.underlying22 hi034 A0 l0.length c0 x5_1 (of_decide_eq_true (by (with_reducible assumption))) q34 hroom34
         have hr34 := Kd.F_take (m := (x5_1 : Int).toNat) hC34 (by omega)
         have hy34 : y225.length = (x5_1 : Int).toNat := (by rw [Ny225.out, List.length_take]; omega)
         rw [← Ny225.out] at hr34
         rw [← hy34] at hcut34
         have HO229 := A_.mk (show Kd.V (Kd.int .i64) 3 _ w.heap.size _ (.slice A0 y225.length c0) y225 from Kd.V_mk (by omega) hr34)
         have HC229 := A_.mk (show y225.length ≤ c0 from by omega)
         clear hr34 hC34 hroom34 hi034 hsz34
         have KY34 := A_.mk hy34
         clear hy34
         replace q34 := eq_true q34
         have q35 : (x5_1 : Int) ≤ ((l0.length : Int) : Int) := of_decide_eq_true (by (with_reducible assumption))
         obtain ⟨i035, hi035, _, hsz35, _⟩ := info_parts info3
         have hroom35 : l0.length ≤ c0 := (Kd.V_reads' HO_0.out).2.1
         have hC35 : Kd.F (Kd.int .i64) _ _ A0 l0.length l0 := (Kd.V_at (base := w.heap.size) HO_0.out).2.2
         have q035 : (0 : Int) ≤ (x5_1 : Int) := of_decide_eq_true (by (with_reducible assumption))
         have hcut35 := cut_from (P := Tryd.prog) 22 3 .i64 Tryd.underlying22 hi035 1 hsz35 A0 l0.length c0 x5_1 q035 q35
         have hr35 := Kd.F_cut (m := (x5_1 : Int).toNat) (c := c0) hC35 (by omega) hroom35
         obtain ⟨A35, hA35⟩ : ∃ A1, A1 = (if c0 = (x5_1 : Int).toNat then A0 else (A0 : Option Addr).map (·.add ((x5_1 : Int).toNat * 1))) := ⟨_, rfl⟩
         obtain ⟨c35, hc35⟩ : ∃ c1, c1 = c0 - (x5_1 : Int).toNat := ⟨_, rfl⟩
         have hy35 : y239.length = l0.length - (x5_1 : Int).toNat := (by rw [Ny239.out, List.length_drop] <;> omega)
         rw [show (l0).drop (x5_1 : Int).toNat = y239 from Ny239.out.symm] at hr35
         replace hr35 : Kd.F (Kd.int .i64) _ _ A35 y239.length y239 := (by rw [hA35]; exact hr35)
         rw [← hy35, ← hA35, ← hc35] at hcut35
         have HO243 := A_.mk (show Kd.V (Kd.int .i64) 3 _ w.heap.size _ (.slice A35 y239.length c35) y239 from Kd.V_mk (by rw [hy35, hc35]; exact Nat.sub_le_sub_right hroom35 _) hr35)
         have HC243 := A_.mk (show y239.length ≤ c35 from by rw [hy35, hc35]; exact Nat.sub_le_sub_right hroom35 _)
         clear hr35 hC35 hroom35 hi035 hsz35 hc35
         have KY35 := A_.mk hy35
         have KA35 := A_.mk hA35
         clear hy35 hA35
         replace q35 := eq_true q35
         refine start_ (n := 13) (S := fun w' => True) (ds := []) (m_ 13 0) (by kernel_rfl) rfl rfl trivial (fun hHeld => ?_); refine with_tabW spec_l1Put.tab6 spec_l1Put.bits6 (fun HT_ HW_ => ?_)
         generalize wr.drew = w33 at HO_0 HB HO229 HO243 hHeld ⊢
         refine pure_ (i := 1) (N := some 34) (v := ?_) (a' := ?_) (m_ 13 2) rfl rfl (any_of HT_.out (by kernel_rfl)) (fun _ _ _ h => h) (Or.inl ⟨by rfl, ?_⟩) ?_ ?_
         rotate_left
         ·intro w'
          go_simp
          with_reducible rfl
         rotate_left
         ·simp only [Act.put, sI_, s0_, s1_, i64_w, i32_w]
          rfl
         refine pure_ (i := 2) (N := some 35) (v := ?_) (a' := ?_) (m_ 13 6) rfl rfl (any_of HT_.out (by kernel_rfl)) (fun _ _ _ h => h) (Or.inl ⟨by rfl, ?_⟩) ?_ ?_
         rotate_left
         ·intro w'
          go_simp
          with_reducible rfl
         rotate_left
         ·simp only [Act.put, sI_, s0_, s1_, i64_w, i32_w]
          rfl
         refine pure_ (i := 3) (N := some 36) (v := ?_) (a' := ?_) (m_ 13 14) rfl rfl (any_of HT_.out (by kernel_rfl)) (fun _ _ _ h => h) (Or.inl ⟨by rfl, ?_⟩) ?_ ?_
         rotate_left
         ·intro w'
          go_simp
          with_reducible rfl
         rotate_left
         ·simp only [Act.put, sI_, s0_, s1_, i64_w, i32_w]
          rfl
         refine pure_ (i := 5) (N := some 38) (v := ?_) (a' := ?_) (m_ 13 46) rfl rfl (any_of HT_.out (by kernel_rfl)) (fun _ _ _ h => h) (Or.inl ⟨by rfl, ?_⟩) ?_ ?_
         rotate_left
         ·intro w'
          go_simp
          with_reducible rfl
         rotate_left
         ·simp only [Act.put, sI_, s0_, s1_, i64_w, i32_w]
          rfl
         refine pure_ (i := 8) (N := some 41) (v := ?_) (a' := ?_) (m_ 13 302) rfl rfl (any_of HT_.out (by kernel_rfl)) (fun _ _ _ h => h) (Or.inl ⟨by rfl, ?_⟩) ?_ ?_
         rotate_left
         ·intro w'
          go_simp
          with_reducible rfl
         rotate_left
         ·simp only [Act.put, sI_, s0_, s1_, i64_w, i32_w]
          rfl
         refine pure_ (i := 9) (N := some 42) (v := ?_) (a' := ?_) (m_ 13 814) rfl rfl (any_of HT_.out (by kernel_rfl)) (fun _ _ _ h => h) (Or.inl ⟨by rfl, ?_⟩) ?_ ?_
         rotate_left
         ·intro w'
          go_simp
          with_reducible rfl
         rotate_left
         ·simp only [Act.put, sI_, s0_, s1_, i64_w, i32_w]
          rfl
         refine pure_ (i := 10) (N := some 43) (v := ?_) (a' := ?_) (m_ 13 1838) rfl rfl (any_of HT_.out (by kernel_rfl)) (fun _ _ _ h => h) (Or.inl ⟨by rfl, ?_⟩) ?_ ?_
         rotate_left
         ·intro w'
          go_simp
          with_reducible rfl
         rotate_left
         ·simp only [Act.put, sI_, s0_, s1_, i64_w, i32_w]
          rfl
         refine join_ (σ := Value × Value × Value) 3 (m_ 13 1919) (fun s_ => [(33, s_.1), (37, s_.2.1), (39, s_.2.2)]) (fun s_ w' => (Kd.V (Kd.int .i64) 3 w' w.heap.size (fun k_ => (P0_ k_ ∨ w.heap.size ≤ k_) ∧ some k_ ≠ (s_.2.1 : Value).ownBlock ∧ some k_ ≠ (s_.2.2 : Value).ownBlock) (.slice A0 y225.length c0) y225) ∧ (Kd.R (Kd.int .i64) 3 w' w.heap.size (fun k_ => (w.heap.size ≤ k_) ∧ some k_ ≠ (s_.2.2 : Value).ownBlock) s_.2.1 y230) ∧ (Kd.R (Kd.int .i64) 3 w' w.heap.size (fun k_ => (w.heap.size ≤ k_) ∧ some k_ ≠ (s_.2.1 : Value).ownBlock) s_.2.2 y233) ∧ (Kd.V (Kd.int .i64) 3 w' w.heap.size (fun k_ => (P0_ k_ ∨ w.heap.size ≤ k_) ∧ some k_ ≠ (s_.2.1 : Value).ownBlock ∧ some k_ ≠ (s_.2.2 : Value).ownBlock) (.slice A35 y239.length c35) y239) ∧ (Kd.V (Kd.int .i64) 3 w' w.heap.size (fun k_ => (P0_ k_ ∨ w.heap.size ≤ k_) ∧ some k_ ≠ (s_.2.1 : Value).ownBlock ∧ some k_ ≠ (s_.2.2 : Value).ownBlock) (.slice A0 l0.length c0) l0) ∧ (Below w.heap.size w w')) ?_ ?_
         rotate_left
         ·intro hCont
          refine two_ (i := 0) (j := 6) (Ni := some 33) (Nj := some 39) (m_ 13 1839) (m_ 13 1902) rfl rfl rfl rfl (two_of HT_.out (by kernel_rfl)) (by decide) (by decide) (fun K hK => ?_) (fun K hK => ?_)
          ·refine Kd.R_lit_step (Kd.int .i64) _ 3 ?hg (N := 33) ?hd (xs := ([] : List Int)) (inner := []) (ok := fun _ => True) (okp := fun _ => True) ?hr ?hp (fun _ hk => hk) trivial (Below.refl _ _) (Nat.le_refl _) (by simp) ?_; (case hd => rfl); (case hg => rfl); (case hr => (go_simp; done)); (case hp => exact (Reps.none _ _))
           intro v223 w36 ho37 hb hg_ hnew_
           clear hg_ hnew_
           (rw [← Ny222.out] at ho37)
           replace HO_0 := A_.mk (Kd.V_elder' HO_0.out (Kd.R_base ho37) hb)
           replace HO229 := A_.mk (Kd.V_elder' HO229.out (Kd.R_base ho37) hb)
           replace HO243 := A_.mk (Kd.V_elder' HO243.out (Kd.R_base ho37) hb)
           have HO224 := A_.mk (Kd.R_lower (Kd.R_newM (M := fun k_ => (w.heap.size ≤ k_)) ho37 (below_size HB.out) (fun k_ h_ => h_)) (below_size HB.out))
           replace HB := A_.mk (below_step HB.out hb)
           clear hb ho37
           refine hK.out _ _ trivial (fun hHeld => ?_)
           clear hK K
           refine norm_ (a' := ?_) ?_ ?_
           rotate_left
           ·show Act.put _ (some 33) _ = _
            simp only [Act.put, sI_, s0_, s1_, i64_w, i32_w]
            rfl
           refine two_ (i := 4) (j := 6) (Ni := some 37) (Nj := some 39) (m_ 13 1855) (m_ 13 1903) rfl rfl rfl rfl (two_of HT_.out (by kernel_rfl)) (by decide) (by decide) (fun K hK => ?_) (fun K hK => ?_)
           ·refine Kd.R_append_rows_step (Kd.int .i64) (w0 := w) w.heap.size (by rfl) (.tmp 33) (.tmp 36) 22 3 (.int .i64 0) 8 rfl Tryd.underlying22 info3 rfl (by decide) (by omega) v223 y222 y225 _ _ _ (fun k_ => (w.heap.size ≤ k_)) (fun _ => False) rfl rfl ?aO ?aR (fun _ _ h => h) (fun _ h => h.elim) ?aF ?aB ?aS ?aL ?_
            (case aR => repeat (exact (Kd.V_reads' HO229.out).2.2))
            (case aB => exact HB.out)
            (case aF => exact (fun k_ hk => (Nat.le_trans (below_size HB.out) hk)))
            (case aO => exact (by (with_reducible repeat (apply Kd.R_alloc)); exact Kd.R_mono HO224.out (fun _ hk => hk.1)))
            (case aS => exact (below_size HB.out))
            (case aL => have := LMc28.out; omega)
            intro v231 w38 ho hb hg hat
            rw [← Ny230.out] at ho
            replace HO_0 := A_.mk (Kd.V_afterv (ok := (fun k_ => (P0_ k_ ∨ w.heap.size ≤ k_))) HO_0.out hg hat)
            replace HO229 := A_.mk (Kd.V_afterv (ok := (fun k_ => (P0_ k_ ∨ w.heap.size ≤ k_))) HO229.out hg hat)
            replace HO243 := A_.mk (Kd.V_afterv (ok := (fun k_ => (P0_ k_ ∨ w.heap.size ≤ k_))) HO243.out hg hat)
            replace HB := A_.mk (hb)
            have HO232 := A_.mk (ho)
            clear HO224
            clear ho hb hg hat
            refine hK.out _ _ trivial (fun hHeld => ?_)
            clear hK K
            refine norm_ (a' := ?_) ?_ ?_
            rotate_left
            ·show Act.put _ (some 37) _ = _
             simp only [Act.put, sI_, s0_, s1_, i64_w, i32_w]
             rfl
            refine one_ (i := 6) (N := some 39) (m_ 13 1919) rfl rfl (one_of HT_.out (by kernel_rfl)) (by decide) (fun K hK => ?_)
            refine Kd.R_lit_step (Kd.int .i64) _ 3 ?hg (N := 39) ?hd (xs := ([a1] : List Int)) (inner := [.int .i64 a1]) (ok := fun _ => True) (okp := fun _ => True) ?hr ?hp (fun _ hk => hk) trivial (Below.refl _ _) (Nat.le_refl _) (by simp) ?_; (case hd => rfl); (case hg => rfl); (case hr => (go_simp; done)); (case hp => exact (Reps.one (show Kd.M (Kd.int .i64) _ _ _ a1 [.int .i64 a1] from rfl) (Reps.none _ _)))
            intro v234 w39 ho40 hb hg_ hnew_
            clear hg_ hnew_
            (rw [← Ny233.out] at ho40)
            replace HO_0 := A_.mk (Kd.V_elder' HO_0.out (Kd.R_base ho40) hb)
            replace HO229 := A_.mk (Kd.V_elder' HO229.out (Kd.R_base ho40) hb)
            replace HO243 := A_.mk (Kd.V_elder' HO243.out (Kd.R_base ho40) hb)
            have HO235 := A_.mk (Kd.R_lower (Kd.R_new' (Kd.R_newM (M := fun k_ => (w.heap.size ≤ k_)) ho40 (below_size HB.out) (fun k_ h_ => h_)) (Kd.R_lt HO232.out)) (below_size HB.out))
            replace HO232 := A_.mk (Kd.R_elder' HO232.out (Kd.R_base ho40) hb)
            replace HB := A_.mk (below_step HB.out hb)
            clear hb ho40
            refine hK.out _ _ trivial (fun hHeld => ?_)
            clear hK K
            refine norm_ (a' := ?_) ?_ ?_
            rotate_left
            ·show Act.put _ (some 39) _ = _
             simp only [Act.put, sI_, s0_, s1_, i64_w, i32_w]
             rfl
            exact norm_ (by simp only [putAll, Act.put, sI_, s0_, s1_]) (hCont (v223, v231, v234) _ ⟨(by (with_reducible repeat (apply Kd.V_alloc)); exact Kd.V_mono HO229.out (fun _ hk => ⟨hk.1.1, ⟨hk.1.2, hk.2⟩⟩)), HO232.out, (by (with_reducible repeat (apply Kd.R_alloc)); exact Kd.R_mono HO235.out (fun _ hk => ⟨hk.1.1, hk.2⟩)), (by (with_reducible repeat (apply Kd.V_alloc)); exact Kd.V_mono HO243.out (fun _ hk => ⟨hk.1.1, ⟨hk.1.2, hk.2⟩⟩)), (by (with_reducible repeat (apply Kd.V_alloc)); exact Kd.V_mono HO_0.out (fun _ hk => ⟨hk.1.1, ⟨hk.1.2, hk.2⟩⟩)), HB.out⟩)
           ·refine Kd.R_lit_step (Kd.int .i64) _ 3 ?hg (N := 39) ?hd (xs := ([a1] : List Int)) (inner := [.int .i64 a1]) (ok := fun _ => True) (okp := fun _ => True) ?hr ?hp (fun _ hk => hk) trivial (Below.refl _ _) (Nat.le_refl _) (by simp) ?_; (case hd => rfl); (case hg => rfl); (case hr => (go_simp; done)); (case hp => exact (Reps.one (show Kd.M (Kd.int .i64) _ _ _ a1 [.int .i64 a1] from rfl) (Reps.none _ _)))
            intro v234 w38 ho39 hb hg_ hnew_
            clear hg_ hnew_
            (rw [← Ny233.out] at ho39)
            replace HO_0 := A_.mk (Kd.V_elder' HO_0.out (Kd.R_base ho39) hb)
            replace HO229 := A_.mk (Kd.V_elder' HO229.out (Kd.R_base ho39) hb)
            replace HO243 := A_.mk (Kd.V_elder' HO243.out (Kd.R_base ho39) hb)
            have HO235 := A_.mk (Kd.R_lower (Kd.R_new' (Kd.R_newM (M := fun k_ => (w.heap.size ≤ k_)) ho39 (below_size HB.out) (fun k_ h_ => h_)) (Kd.R_lt HO224.out)) (below_size HB.out))
            replace HO224 := A_.mk (Kd.R_elder' HO224.out (Kd.R_base ho39) hb)
            replace HB := A_.mk (below_step HB.out hb)
            clear hb ho39
            refine hK.out _ _ trivial (fun hHeld => ?_)
            clear hK K
            refine norm_ (a' := ?_) ?_ ?_
            rotate_left
            ·show Act.put _ (some 39) _ = _
             simp only [Act.put, sI_, s0_, s1_, i64_w, i32_w]
             rfl
            refine one_ (i := 4) (N := some 37) (m_ 13 1919) rfl rfl (one_of HT_.out (by kernel_rfl)) (by decide) (fun K hK => ?_)
            refine Kd.R_append_rows_step (Kd.int .i64) (w0 := w) w.heap.size (by rfl) (.tmp 33) (.tmp 36) 22 3 (.int .i64 0) 8 rfl Tryd.underlying22 info3 rfl (by decide) (by omega) v223 y222 y225 _ _ _ (fun k_ => (w.heap.size ≤ k_) ∧ some k_ ≠ (v234 : Value).ownBlock) (fun _ => False) rfl rfl ?aO ?aR (fun _ _ h => h) (fun _ h => h.elim) ?aF ?aB ?aS ?aL ?_
            (case aR => repeat (exact (Kd.V_reads' HO229.out).2.2))
            (case aB => exact HB.out)
            (case aF => exact (fun k_ hk => ⟨(Nat.le_trans (below_size HB.out) hk), Kd.fresh' (Kd.R_lt HO235.out) k_ hk⟩))
            (case aO => exact (by (with_reducible repeat (apply Kd.R_alloc)); exact Kd.R_mono HO224.out (fun _ hk => ⟨hk.1.1, hk.2⟩)))
            (case aS => exact (below_size HB.out))
            (case aL => have := LMc28.out; omega)
            intro v231 w40 ho hb hg hat
            rw [← Ny230.out] at ho
            replace HO_0 := A_.mk (Kd.V_afterv (ok := (fun k_ => (P0_ k_ ∨ w.heap.size ≤ k_) ∧ some k_ ≠ (v234 : Value).ownBlock)) (by (with_reducible repeat (apply Kd.V_alloc)); exact Kd.V_mono HO_0.out (fun _ hk => ⟨⟨hk.1.1, hk.2⟩, hk.1.2⟩)) hg hat)
            replace HO229 := A_.mk (Kd.V_afterv (ok := (fun k_ => (P0_ k_ ∨ w.heap.size ≤ k_) ∧ some k_ ≠ (v234 : Value).ownBlock)) (by (with_reducible repeat (apply Kd.V_alloc)); exact Kd.V_mono HO229.out (fun _ hk => ⟨⟨hk.1.1, hk.2⟩, hk.1.2⟩)) hg hat)
            replace HO243 := A_.mk (Kd.V_afterv (ok := (fun k_ => (P0_ k_ ∨ w.heap.size ≤ k_) ∧ some k_ ≠ (v234 : Value).ownBlock)) (by (with_reducible repeat (apply Kd.V_alloc)); exact Kd.V_mono HO243.out (fun _ hk => ⟨⟨hk.1.1, hk.2⟩, hk.1.2⟩)) hg hat)
            replace HO235 := A_.mk (Kd.R_after (ok := (fun k_ => (w.heap.size ≤ k_))) (by (with_reducible repeat (apply Kd.R_alloc)); exact Kd.R_mono HO235.out (fun _ hk => ⟨hk.1.1, hk.2⟩)) hg hat)
            replace HB := A_.mk (hb)
            have HO232 := A_.mk (ho)
            clear HO224
            clear ho hb hg hat
            refine hK.out _ _ trivial (fun hHeld => ?_)
            clear hK K
            refine norm_ (a' := ?_) ?_ ?_
            rotate_left
            ·show Act.put _ (some 37) _ = _
             simp only [Act.put, sI_, s0_, s1_, i64_w, i32_w]
             rfl
            exact norm_ (by simp only [putAll, Act.put, sI_, s0_, s1_]) (hCont (v223, v231, v234) _ ⟨(by (with_reducible repeat (apply Kd.V_alloc)); exact Kd.V_mono HO229.out (fun _ hk => ⟨hk.1.1, ⟨hk.2, hk.1.2⟩⟩)), HO232.out, HO235.out, (by (with_reducible repeat (apply Kd.V_alloc)); exact Kd.V_mono HO243.out (fun _ hk => ⟨hk.1.1, ⟨hk.2, hk.1.2⟩⟩)), (by (with_reducible repeat (apply Kd.V_alloc)); exact Kd.V_mono HO_0.out (fun _ hk => ⟨hk.1.1, ⟨hk.2, hk.1.2⟩⟩)), HB.out⟩)
          ·refine Kd.R_lit_step (Kd.int .i64) _ 3 ?hg (N := 39) ?hd (xs := ([a1] : List Int)) (inner := [.int .i64 a1]) (ok := fun _ => True) (okp := fun _ => True) ?hr ?hp (fun _ hk => hk) trivial (Below.refl _ _) (Nat.le_refl _) (by simp) ?_; (case hd => rfl); (case hg => rfl); (case hr => (go_simp; done)); (case hp => exact (Reps.one (show Kd.M (Kd.int .i64) _ _ _ a1 [.int .i64 a1] from rfl) (Reps.none _ _)))
           intro v234 w36 ho37 hb hg_ hnew_
           clear hg_ hnew_
           (rw [← Ny233.out] at ho37)
           replace HO_0 := A_.mk (Kd.V_elder' HO_0.out (Kd.R_base ho37) hb)
           replace HO229 := A_.mk (Kd.V_elder' HO229.out (Kd.R_base ho37) hb)
           replace HO243 := A_.mk (Kd.V_elder' HO243.out (Kd.R_base ho37) hb)
           have HO235 := A_.mk (Kd.R_lower (Kd.R_newM (M := fun k_ => (w.heap.size ≤ k_)) ho37 (below_size HB.out) (fun k_ h_ => h_)) (below_size HB.out))
           replace HB := A_.mk (below_step HB.out hb)
           clear hb ho37
           refine hK.out _ _ trivial (fun hHeld => ?_)
           clear hK K
           refine norm_ (a' := ?_) ?_ ?_
           rotate_left
           ·show Act.put _ (some 39) _ = _
            simp only [Act.put, sI_, s0_, s1_, i64_w, i32_w]
            rfl
           refine one_ (i := 0) (N := some 33) (m_ 13 1903) rfl rfl (one_of HT_.out (by kernel_rfl)) (by decide) (fun K hK => ?_)
           refine Kd.R_lit_step (Kd.int .i64) _ 3 ?hg (N := 33) ?hd (xs := ([] : List Int)) (inner := []) (ok := fun _ => True) (okp := fun _ => True) ?hr ?hp (fun _ hk => hk) trivial (Below.refl _ _) (Nat.le_refl _) (by simp) ?_; (case hd => rfl); (case hg => rfl); (case hr => (go_simp; done)); (case hp => exact (Reps.none _ _))
           intro v223 w38 ho39 hb hg_ hnew_
           clear hg_ hnew_
           (rw [← Ny222.out] at ho39)
           replace HO_0 := A_.mk (Kd.V_elder' HO_0.out (Kd.R_base ho39) hb)
           replace HO229 := A_.mk (Kd.V_elder' HO229.out (Kd.R_base ho39) hb)
           replace HO243 := A_.mk (Kd.V_elder' HO243.out (Kd.R_base ho39) hb)
           have HO224 := A_.mk (Kd.R_lower (Kd.R_new' (Kd.R_newM (M := fun k_ => (w.heap.size ≤ k_)) ho39 (below_size HB.out) (fun k_ h_ => h_)) (Kd.R_lt HO235.out)) (below_size HB.out))
           replace HO235 := A_.mk (Kd.R_elder' HO235.out (Kd.R_base ho39) hb)
           replace HB := A_.mk (below_step HB.out hb)
           clear hb ho39
           refine hK.out _ _ trivial (fun hHeld => ?_)
           clear hK K
           refine norm_ (a' := ?_) ?_ ?_
           rotate_left
           ·show Act.put _ (some 33) _ = _
            simp only [Act.put, sI_, s0_, s1_, i64_w, i32_w]
            rfl
           refine one_ (i := 4) (N := some 37) (m_ 13 1919) rfl rfl (one_of HT_.out (by kernel_rfl)) (by decide) (fun K hK => ?_)
           refine Kd.R_append_rows_step (Kd.int .i64) (w0 := w) w.heap.size (by rfl) (.tmp 33) (.tmp 36) 22 3 (.int .i64 0) 8 rfl Tryd.underlying22 info3 rfl (by decide) (by omega) v223 y222 y225 _ _ _ (fun k_ => (w.heap.size ≤ k_) ∧ some k_ ≠ (v234 : Value).ownBlock) (fun _ => False) rfl rfl ?aO ?aR (fun _ _ h => h) (fun _ h => h.elim) ?aF ?aB ?aS ?aL ?_
           (case aR => repeat (exact (Kd.V_reads' HO229.out).2.2))
           (case aB => exact HB.out)
           (case aF => exact (fun k_ hk => ⟨(Nat.le_trans (below_size HB.out) hk), Kd.fresh' (Kd.R_lt HO235.out) k_ hk⟩))
           (case aO => exact (by (with_reducible repeat (apply Kd.R_alloc)); exact Kd.R_mono HO224.out (fun _ hk => ⟨hk.1.1, hk.2⟩)))
           (case aS => exact (below_size HB.out))
           (case aL => have := LMc28.out; omega)
           intro v231 w40 ho hb hg hat
           rw [← Ny230.out] at ho
           replace HO_0 := A_.mk (Kd.V_afterv (ok := (fun k_ => (P0_ k_ ∨ w.heap.size ≤ k_) ∧ some k_ ≠ (v234 : Value).ownBlock)) HO_0.out hg hat)
           replace HO229 := A_.mk (Kd.V_afterv (ok := (fun k_ => (P0_ k_ ∨ w.heap.size ≤ k_) ∧ some k_ ≠ (v234 : Value).ownBlock)) HO229.out hg hat)
           replace HO243 := A_.mk (Kd.V_afterv (ok := (fun k_ => (P0_ k_ ∨ w.heap.size ≤ k_) ∧ some k_ ≠ (v234 : Value).ownBlock)) HO243.out hg hat)
           replace HO235 := A_.mk (Kd.R_after (ok := (fun k_ => (w.heap.size ≤ k_))) (by (with_reducible repeat (apply Kd.R_alloc)); exact Kd.R_mono HO235.out (fun _ hk => ⟨hk.1.1, hk.2⟩)) hg hat)
           replace HB := A_.mk (hb)
           have HO232 := A_.mk (ho)
           clear HO224
           clear ho hb hg hat
           refine hK.out _ _ trivial (fun hHeld => ?_)
           clear hK K
           refine norm_ (a' := ?_) ?_ ?_
           rotate_left
           ·show Act.put _ (some 37) _ = _
            simp only [Act.put, sI_, s0_, s1_, i64_w, i32_w]
            rfl
           exact norm_ (by simp only [putAll, Act.put, sI_, s0_, s1_]) (hCont (v223, v231, v234) _ ⟨(by (with_reducible repeat (apply Kd.V_alloc)); exact Kd.V_mono HO229.out (fun _ hk => ⟨hk.1.1, ⟨hk.2, hk.1.2⟩⟩)), HO232.out, HO235.out, (by (with_reducible repeat (apply Kd.V_alloc)); exact Kd.V_mono HO243.out (fun _ hk => ⟨hk.1.1, ⟨hk.2, hk.1.2⟩⟩)), (by (with_reducible repeat (apply Kd.V_alloc)); exact Kd.V_mono HO_0.out (fun _ hk => ⟨hk.1.1, ⟨hk.2, hk.1.2⟩⟩)), HB.out⟩)
         rintro ⟨v223, v231, v234⟩ w41 ⟨h0_, h1_, h2_, h3_, h4_, h5_⟩
         have n0_ : A_ (Kd.V (Kd.int .i64) 3 w41 w.heap.size (fun k_ => (P0_ k_ ∨ w.heap.size ≤ k_) ∧ some k_ ≠ (v231 : Value).ownBlock ∧ some k_ ≠ (v234 : Value).ownBlock) (.slice A0 y225.length c0) y225) := ⟨h0_⟩
         have n1_ : A_ (Kd.R (Kd.int .i64) 3 w41 w.heap.size (fun k_ => (w.heap.size ≤ k_) ∧ some k_ ≠ (v234 : Value).ownBlock) v231 y230) := ⟨h1_⟩
         have n2_ : A_ (Kd.R (Kd.int .i64) 3 w41 w.heap.size (fun k_ => (w.heap.size ≤ k_) ∧ some k_ ≠ (v231 : Value).ownBlock) v234 y233) := ⟨h2_⟩
         have n3_ : A_ (Kd.V (Kd.int .i64) 3 w41 w.heap.size (fun k_ => (P0_ k_ ∨ w.heap.size ≤ k_) ∧ some k_ ≠ (v231 : Value).ownBlock ∧ some k_ ≠ (v234 : Value).ownBlock) (.slice A35 y239.length c35) y239) := ⟨h3_⟩
         have n4_ : A_ (Kd.V (Kd.int .i64) 3 w41 w.heap.size (fun k_ => (P0_ k_ ∨ w.heap.size ≤ k_) ∧ some k_ ≠ (v231 : Value).ownBlock ∧ some k_ ≠ (v234 : Value).ownBlock) (.slice A0 l0.length c0) l0) := ⟨h4_⟩
         have n5_ : A_ (Below w.heap.size w w41) := ⟨h5_⟩
         clear HO_0
         clear HB
         clear h0_ h1_ h2_ h3_ h4_ h5_
         have HO229 := n0_
         have HO232 := n1_
         have HO235 := n2_
         have HO243 := n3_
         have HO_0 := n4_
         have HB := n5_
         clear n0_ n1_ n2_ n3_ n4_ n5_
         have hHeld := trivial
         obtain ⟨Ao43, co43, eo43⟩ := Kd.R_slice HO235.out
         (subst eo43)
         refine norm_ (a' := ?_) ?_ ?_
         rotate_left
         ·simp only [putAll, Act.put, sI_, s0_, s1_]
          rfl
         refine one_ (i := 7) (N := some 40) (m_ 13 2047) rfl rfl (one_of HT_.out (by kernel_rfl)) (by decide) (fun K hK => ?_)
         refine Kd.R_append_rows_step (Kd.int .i64) (w0 := w) w.heap.size (by rfl) (.tmp 37) (.tmp 39) 22 3 (.int .i64 0) 8 rfl Tryd.underlying22 info3 rfl (by decide) (by omega) v231 y230 y233 _ _ _ (fun k_ => (w.heap.size ≤ k_) ∧ some k_ ≠ (.slice Ao43 y233.length co43 : Value).ownBlock) (fun _ => False) rfl rfl ?aO ?aR (fun _ _ h => h) (fun _ h => h.elim) ?aF ?aB ?aS ?aL ?_
         (case aR => repeat (exact (Kd.R_reads' HO235.out).2.2))
         (case aB => exact HB.out)
         (case aF => exact (fun k_ hk => ⟨(Nat.le_trans (below_size HB.out) hk), Kd.fresh' (Kd.R_lt HO235.out) k_ hk⟩))
         (case aO => exact HO232.out)
         (case aS => exact (below_size HB.out))
         (case aL => have := LMc29.out; omega)
         intro v237 w42 ho hb hg hat
         rw [← Ny236.out] at ho
         replace HO_0 := A_.mk (Kd.V_afterv (ok := (fun k_ => (P0_ k_ ∨ w.heap.size ≤ k_) ∧ some k_ ≠ (.slice Ao43 y233.length co43 : Value).ownBlock)) (by (with_reducible repeat (apply Kd.V_alloc)); exact Kd.V_mono HO_0.out (fun _ hk => ⟨⟨hk.1, hk.2.2⟩, hk.2.1⟩)) hg hat)
         replace HO229 := A_.mk (Kd.V_afterv (ok := (fun k_ => (P0_ k_ ∨ w.heap.size ≤ k_) ∧ some k_ ≠ (.slice Ao43 y233.length co43 : Value).ownBlock)) (by (with_reducible repeat (apply Kd.V_alloc)); exact Kd.V_mono HO229.out (fun _ hk => ⟨⟨hk.1, hk.2.2⟩, hk.2.1⟩)) hg hat)
         replace HO243 := A_.mk (Kd.V_afterv (ok := (fun k_ => (P0_ k_ ∨ w.heap.size ≤ k_) ∧ some k_ ≠ (.slice Ao43 y233.length co43 : Value).ownBlock)) (by (with_reducible repeat (apply Kd.V_alloc)); exact Kd.V_mono HO243.out (fun _ hk => ⟨⟨hk.1, hk.2.2⟩, hk.2.1⟩)) hg hat)
         replace HO235 := A_.mk (Kd.R_after (ok := (fun k_ => (w.heap.size ≤ k_))) HO235.out hg hat)
         replace HB := A_.mk (hb)
         have HO238 := A_.mk (ho)
         clear HO232
         clear ho hb hg hat
         refine hK.out _ _ trivial (fun hHeld => ?_)
         clear hK K
         refine norm_ (a' := ?_) ?_ ?_
         rotate_left
         ·show Act.put _ (some 40) _ = _
          simp only [Act.put, sI_, s0_, s1_, i64_w, i32_w]
          rfl
         refine one_ (i := 11) (N := some 44) (m_ 13 4095) rfl rfl (one_of HT_.out (by kernel_rfl)) (by decide) (fun K hK => ?_)
         refine Kd.R_append_rows_step (Kd.int .i64) (w0 := w) w.heap.size (by rfl) (.tmp 40) (.tmp 43) 22 3 (.int .i64 0) 8 rfl Tryd.underlying22 info3 rfl (by decide) (by omega) v237 y236 y239 _ _ _ (fun k_ => (w.heap.size ≤ k_) ∧ some k_ ≠ (.slice Ao43 y233.length co43 : Value).ownBlock) (fun _ => False) rfl rfl ?aO ?aR (fun _ _ h => h) (fun _ h => h.elim) ?aF ?aB ?aS ?aL ?_
         (case aR => repeat (exact (Kd.V_reads' HO243.out).2.2))
         (case aB => exact HB.out)
         (case aF => exact (fun k_ hk => ⟨(Nat.le_trans (below_size HB.out) hk), Kd.fresh' (Kd.R_lt HO235.out) k_ hk⟩))
         (case aO => exact HO238.out)
         (case aS => exact (below_size HB.out))
         (case aL => have := LMc32.out; omega)
         intro v245 w44 ho hb hg hat
         rw [← Ny244.out] at ho
         replace HO_0 := A_.mk (Kd.V_afterv (ok := (fun k_ => (P0_ k_ ∨ w.heap.size ≤ k_) ∧ some k_ ≠ (.slice Ao43 y233.length co43 : Value).ownBlock)) HO_0.out hg hat)
         replace HO229 := A_.mk (Kd.V_afterv (ok := (fun k_ => (P0_ k_ ∨ w.heap.size ≤ k_) ∧ some k_ ≠ (.slice Ao43 y233.length co43 : Value).ownBlock)) HO229.out hg hat)
         replace HO243 := A_.mk (Kd.V_afterv (ok := (fun k_ => (P0_ k_ ∨ w.heap.size ≤ k_) ∧ some k_ ≠ (.slice Ao43 y233.length co43 : Value).ownBlock)) HO243.out hg hat)
         replace HO235 := A_.mk (Kd.R_after (ok := (fun k_ => (w.heap.size ≤ k_))) HO235.out hg hat)
         replace HB := A_.mk (hb)
         have HO246 := A_.mk (ho)
         clear HO238
         clear ho hb hg hat
         refine hK.out _ _ trivial (fun hHeld => ?_)
         clear hK K
         refine norm_ (a' := ?_) ?_ ?_
         rotate_left
         ·show Act.put _ (some 44) _ = _
          simp only [Act.put, sI_, s0_, s1_, i64_w, i32_w]
          rfl
         refine pure_ (i := 12) (N := some 4) (v := ?_) (a' := ?_) (m_ 13 8191) rfl rfl (any_of HT_.out (by kernel_rfl)) (fun _ _ _ h => h) (Or.inl ⟨by rfl, ?_⟩) ?_ ?_
         rotate_left
         ·intro w'
          go_simp
          with_reducible rfl
         rotate_left
         ·simp only [Act.put, sI_, s0_, s1_, i64_w, i32_w]
          rfl
         refine done_ (done_of HT_.out (by kernel_rfl)) ?_
         try go_wp2
         go_ret
         exact ⟨_, by rfl, .inr (Kd.R_mono (by (with_reducible repeat (apply Kd.R_alloc)); exact Kd.R_mono HO246.out (fun _ hk => hk.1)) (fun _ _ => trivial)), by repeat ((with_reducible (exact HB.out)))⟩
        ·rw [if_neg c32] at H
         exact absurd H (by simp)
       ·rw [if_neg c29] at H
        exact absurd H (by simp)
      ·rw [if_neg c28] at H
       exact absurd H (by simp)
     ·rw [if_neg c27] at H
      exact absurd H (by simp)
    ·rw [if_neg c26] at H
     exact absurd H (by simp)

end Go.Proofs.YtihifglmnjocfaaDoor.PFnExactFinalRows
