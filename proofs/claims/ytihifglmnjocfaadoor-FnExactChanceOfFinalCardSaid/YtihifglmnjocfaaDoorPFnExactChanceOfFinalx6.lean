/- Given functions as plain Lean functions, and that their calls answer these. -/
import Derived.Test.YtihifglmnjocfaaDoorPFnExactChanceOfFinalx0
namespace Go.Proofs.YtihifglmnjocfaaDoor.PFnExactChanceOfFinal
open Go.RowKit Go.Proofs.YtihifglmnjocfaaDoorW.PrintWords Go.Proofs.YtihifglmnjocfaaDoorW.PrintLast Go.Proofs.YtihifglmnjocfaaDoorW.PrintMore
attribute [local go_sem] max2_int min2_int max_two min_two max_three min_three max_four min_four
set_option maxHeartbeats 8000000
set_option maxRecDepth 100000
set_option linter.unusedVariables false
set_option linter.unusedSimpArgs false

/-! ### spec_l1Put: function 54 -/
def spec_l1Put.l0 : Nat → List Int → Int → Int → Option (List Int)
 | 0, _, _, _ => none
 | k + 1, x0, x1, x5 => if x5 < (x0.length : Int) then (if 0 ≤ x5 then (if (rd x0 x5) < x1 then (spec_l1Put.l0 k x0 x1 (wrap64 (x5 + 1))) else (if (rd x0 x5) = x1 then (some x0) else ((some (([] : List Int) : List Int)).bind fun y201 => (if x5 ≤ (x0.length : Int) then ((some (x0.take (x5 : Int).toNat : List Int)).bind fun y204 => (if y201.length + y204.length < 17592186044416 then ((some (y201 ++ y204 : List Int)).bind fun y209 => ((some (([x1] : List Int) : List Int)).bind fun y212 => (if y209.length + y212.length < 17592186044416 then ((some (y209 ++ y212 : List Int)).bind fun y215 => ((some (x0.drop (x5 : Int).toNat : List Int)).bind fun y218 => (if y215.length + y218.length < 17592186044416 then (some (y215 ++ y218)) else (none)))) else (none)))) else (none))) else (none))))) else (none)) else ((some (([] : List Int) : List Int)).bind fun y226 => (if 0 ≤ x5 then (if x5 ≤ (x0.length : Int) then ((some (x0.take (x5 : Int).toNat : List Int)).bind fun y229 => (if y226.length + y229.length < 17592186044416 then ((some (y226 ++ y229 : List Int)).bind fun y234 => ((some (([x1] : List Int) : List Int)).bind fun y237 => (if y234.length + y237.length < 17592186044416 then ((some (y234 ++ y237 : List Int)).bind fun y240 => ((some (x0.drop (x5 : Int).toNat : List Int)).bind fun y243 => (if y240.length + y243.length < 17592186044416 then (some (y240 ++ y243)) else (none)))) else (none)))) else (none))) else (none)) else (none)))
def spec_l1Put.f (k : Nat) (l0 : List Int) (a1 : Int) : Option (List Int) := spec_l1Put.l0 k l0 a1 0
theorem spec_l1Put.mono_l : ∀ k, (∀ y0 y1 y2, LeO (spec_l1Put.l0 k y0 y1 y2) (spec_l1Put.l0 (k + 1) y0 y1 y2))
 | 0 => fun _ _ _ r h => by simp [spec_l1Put.l0] at h
 | k + 1 => by
  have ih0 := spec_l1Put.mono_l k
  ·intro y0 y1 y2
   unfold spec_l1Put.l0
   repeat' first
   | (with_reducible exact ih0 _ _ _)
   | (with_reducible exact LeO.refl _)
   | (with_reducible exact LeO.none _)
   | (with_reducible refine LeO.ite ?_ ?_)
   | (with_reducible refine LeO.bind ?_ (fun _ => ?_))
   | exact ih0 _ _ _
   | exact LeO.none _
   | refine LeO.ite ?_ ?_
   | refine LeO.bind ?_ (fun _ => ?_)
theorem spec_l1Put.mono : ∀ a0 a1 k, LeO (spec_l1Put.f k a0 a1) (spec_l1Put.f (k + 1) a0 a1) := by
 intro a0 a1 k
 have ih0 := spec_l1Put.mono_l k
 unfold spec_l1Put.f
 repeat' first
   | (with_reducible exact ih0 _ _ _)
   | (with_reducible exact LeO.refl _)
   | (with_reducible exact LeO.none _)
   | (with_reducible refine LeO.ite ?_ ?_)
   | (with_reducible refine LeO.bind ?_ (fun _ => ?_))
   | exact ih0 _ _ _
   | exact LeO.none _
   | refine LeO.ite ?_ ?_
   | refine LeO.bind ?_ (fun _ => ?_)
def spec_l1Put.T6 : Bool × List (List Nat × List Nat) := (true, [([], []), ([], []), ([], []), ([1, 2], [1, 2]), ([0, 3], [0, 3]), ([], []), ([5], [5]), ([4, 6, 4], [4, 6]), ([], []), ([], []), ([8, 9], [8, 9]), ([7, 10, 7], [7, 10]), ([11, 11, 0, 1, 2, 3, 4, 5, 6, 7, 8, 9, 10, 11], [11])])
def spec_l1Put.B6 : List Nat := [0, 0, 0, 6, 15, 0, 32, 127, 0, 0, 768, 2047, 4095]
theorem spec_l1Put.tab6 : rtab .any (opsOf Tryd.f54 6) = spec_l1Put.T6 := by kernel_rfl
theorem spec_l1Put.bits6 : waitsOk spec_l1Put.T6.2 spec_l1Put.B6 = true := by kernel_rfl
theorem spec_l1Put.calls (k : Nat) (P0_ : Nat → Prop) (A0 : Option Addr) (c0 : Nat) (l0 : List Int) (a1 : Int) (r : List Int) (w : World) (hs0 : Kd.V (Kd.int .i64) 3 w w.heap.size (fun k_ => P0_ k_) (.slice A0 l0.length c0) l0) (h : spec_l1Put.f k l0 a1 = some r) :
  Calls Tryd.prog 54 #[.slice A0 l0.length c0, .int .i64 a1] w fun e w' => ∃ v0_ : Value, e = .returned (v0_) ∧ ((v0_ = .slice A0 l0.length c0 ∧ r = l0) ∨ Kd.R (Kd.int .i64) 3 w' w.heap.size (fun _ => True) v0_ r) ∧ Below w.heap.size w w' := by
 have HO0 := A_.mk (show Kd.V (Kd.int .i64) 3 w w.heap.size (fun k_ => (P0_ k_ ∨ w.heap.size ≤ k_)) (.slice A0 l0.length c0) l0 from Kd.V_mono hs0 (fun k_ hk => .inl hk))
 have HB := A_.mk (Below.refl w.heap.size w)
 have H : (spec_l1Put.l0 k l0 a1 0) = some r := h
 clear h
 have H' := A_.mk H
 clear H
 go_enter Tryd.func54, Tryd.ntmps54
 go_wp2
 go_loopg [5] k (fun kq v5 w' => ∃ (x5_1 : Int), v5 = .int .i64 x5_1 ∧ A_ (spec_l1Put.l0 kq l0 a1 x5_1 = some r) ∧ A_ (kq ≤ k) ∧ A_ (Kd.V (Kd.int .i64) 3 w' w.heap.size (fun k_ => (P0_ k_ ∨ w.heap.size ≤ k_)) (.slice A0 l0.length c0) l0) ∧ A_ (Below w.heap.size w w'))
 case atStart => exact ⟨(0), (by rfl), H', ⟨Nat.le_refl _⟩, ⟨by (with_reducible repeat (apply Kd.V_alloc)); exact HO0.out⟩, ⟨by repeat ((with_reducible (exact HB.out)))⟩⟩
 case round =>
  clear H'
  try clear p2
  obtain ⟨x5_1, rfl, HA, HK1, HO_0, HB⟩ := hrel
  cases gk with
  | zero => exact absurd HA.out (by simp [spec_l1Put.l0])
  | succ k1 =>
   have H := HA.out
   clear HA
   simp only [spec_l1Put.l0] at H
   by_cases c3 : x5_1 < (l0.length : Int)
   ·rw [if_pos c3] at H
    have c3b0 : decide (x5_1 < (l0.length : Int)) = true := decide_eq_true c3
    clear c3
    by_cases c4 : 0 ≤ x5_1
    ·rw [if_pos c4] at H
     have c4b0 : decide (0 ≤ x5_1) = true := decide_eq_true c4
     clear c4
     by_cases c5 : (rd l0 x5_1) < a1
     ·rw [if_pos c5] at H
      have c5b0 : decide ((rd l0 x5_1) < a1) = true := decide_eq_true c5
      clear c5
      have H' := A_.mk H
      clear H
      have p199 : 0 ≤ (x5_1 : Int) := of_decide_eq_true (by (with_reducible assumption))
      have q199 : x5_1 < (l0.length : Int) := of_decide_eq_true (by (with_reducible assumption))
      obtain ⟨ad199, e199, hx199_0⟩ := Kd.at_int (Kd.V_reads' HO_0.out).2.2 x5_1 p199 q199
      cases e199
      replace p199 := eq_true p199
      replace q199 := eq_true q199
      go_wp2
      go_roundg k1
      case measure => have := HK1.out; omega
      case rel => exact ⟨(wrap64 (x5_1 + 1)), (by rfl), H', ⟨by have := HK1.out; omega⟩, ⟨by (with_reducible repeat (apply Kd.V_alloc)); exact HO_0.out⟩, ⟨by repeat ((with_reducible (exact HB.out)))⟩⟩
     ·rw [if_neg c5] at H
      have c5b0 : decide ((rd l0 x5_1) < a1) = false := decide_eq_false c5
      clear c5
      by_cases c6 : (rd l0 x5_1) = a1
      ·rw [if_pos c6] at H
       have c6b0 : ((rd l0 x5_1) == a1) = true := beq_iff_eq.mpr c6
       have c6b1 : ((rd l0 x5_1) != a1) = false := bne_eq_false_iff_eq.mpr c6
       clear c6
       obtain rfl := Option.some.inj H
       have p199 : 0 ≤ (x5_1 : Int) := of_decide_eq_true (by (with_reducible assumption))
       have q199 : x5_1 < (l0.length : Int) := of_decide_eq_true (by (with_reducible assumption))
       obtain ⟨ad199, e199, hx199_0⟩ := Kd.at_int (Kd.V_reads' HO_0.out).2.2 x5_1 p199 q199
       cases e199
       replace p199 := eq_true p199
       replace q199 := eq_true q199
       have p200 : 0 ≤ (x5_1 : Int) := of_decide_eq_true (by (with_reducible assumption))
       have q200 : x5_1 < (l0.length : Int) := of_decide_eq_true (by (with_reducible assumption))
       obtain ⟨ad200, e200, hx200_0⟩ := Kd.at_int (Kd.V_reads' HO_0.out).2.2 x5_1 p200 q200
       obtain rfl : ad199 = ad200 := (by injection e200)
       replace p200 := eq_true p200
       replace q200 := eq_true q200
       go_wp2
       go_ret
       exact ⟨_, by rfl, by exact .inl rfl, by repeat ((with_reducible (exact HB.out)))⟩
      ·rw [if_neg c6] at H
       have c6b0 : ((rd l0 x5_1) == a1) = false := beq_eq_false_iff_ne.mpr c6
       have c6b1 : ((rd l0 x5_1) != a1) = true := bne_iff_ne.mpr c6
       obtain ⟨y201, hy201⟩ : ∃ y_ : List Int, y_ = (([] : List Int)) := ⟨_, rfl⟩
       replace H : (if x5_1 ≤ (l0.length : Int) then ((some (l0.take (x5_1 : Int).toNat : List Int)).bind fun y204 => (if y201.length + y204.length < 17592186044416 then ((some (y201 ++ y204 : List Int)).bind fun y209 => ((some (([a1] : List Int) : List Int)).bind fun y212 => (if y209.length + y212.length < 17592186044416 then ((some (y209 ++ y212 : List Int)).bind fun y215 => ((some (l0.drop (x5_1 : Int).toNat : List Int)).bind fun y218 => (if y215.length + y218.length < 17592186044416 then (some (y215 ++ y218)) else (none)))) else (none)))) else (none))) else (none)) = some r := by (have H2_ := (Option.bind_some _ _).symm.trans H; rw [hy201]; with_reducible exact H2_)
       have Ny201 := A_.mk hy201
       clear hy201
       have c7b0 := eq_true (of_decide_eq_true (by (with_reducible assumption)) : 0 ≤ x5_1)
       by_cases c8 : x5_1 ≤ (l0.length : Int)
       ·rw [if_pos c8] at H
        have c8b0 := eq_true c8
        have c8b1 : decide (x5_1 ≤ (l0.length : Int)) = true := decide_eq_true c8
        clear c8
        obtain ⟨y204, hy204⟩ : ∃ y_ : List Int, y_ = (l0.take (x5_1 : Int).toNat) := ⟨_, rfl⟩
        replace H : (if y201.length + y204.length < 17592186044416 then ((some (y201 ++ y204 : List Int)).bind fun y209 => ((some (([a1] : List Int) : List Int)).bind fun y212 => (if y209.length + y212.length < 17592186044416 then ((some (y209 ++ y212 : List Int)).bind fun y215 => ((some (l0.drop (x5_1 : Int).toNat : List Int)).bind fun y218 => (if y215.length + y218.length < 17592186044416 then (some (y215 ++ y218)) else (none)))) else (none)))) else (none)) = some r := by (have H2_ := (Option.bind_some _ _).symm.trans H; rw [hy204]; with_reducible exact H2_)
        have Ny204 := A_.mk hy204
        clear hy204
        by_cases c9 : y201.length + y204.length < 17592186044416
        ·rw [if_pos c9] at H
         have LMc9 := A_.mk c9
         clear c9
         obtain ⟨y209, hy209⟩ : ∃ y_ : List Int, y_ = (y201 ++ y204) := ⟨_, rfl⟩
         replace H : ((some (([a1] : List Int) : List Int)).bind fun y212 => (if y209.length + y212.length < 17592186044416 then ((some (y209 ++ y212 : List Int)).bind fun y215 => ((some (l0.drop (x5_1 : Int).toNat : List Int)).bind fun y218 => (if y215.length + y218.length < 17592186044416 then (some (y215 ++ y218)) else (none)))) else (none))) = some r := by (have H2_ := (Option.bind_some _ _).symm.trans H; rw [hy209]; with_reducible exact H2_)
         have Ny209 := A_.mk hy209
         clear hy209
         obtain ⟨y212, hy212⟩ : ∃ y_ : List Int, y_ = (([a1] : List Int)) := ⟨_, rfl⟩
         replace H : (if y209.length + y212.length < 17592186044416 then ((some (y209 ++ y212 : List Int)).bind fun y215 => ((some (l0.drop (x5_1 : Int).toNat : List Int)).bind fun y218 => (if y215.length + y218.length < 17592186044416 then (some (y215 ++ y218)) else (none)))) else (none)) = some r := by (have H2_ := (Option.bind_some _ _).symm.trans H; rw [hy212]; with_reducible exact H2_)
         have Ny212 := A_.mk hy212
         clear hy212
         by_cases c10 : y209.length + y212.length < 17592186044416
         ·rw [if_pos c10] at H
          have LMc10 := A_.mk c10
          clear c10
          obtain ⟨y215, hy215⟩ : ∃ y_ : List Int, y_ = (y209 ++ y212) := ⟨_, rfl⟩
          replace H : ((some (l0.drop (x5_1 : Int).toNat : List Int)).bind fun y218 => (if y215.length + y218.length < 17592186044416 then (some (y215 ++ y218)) else (none))) = some r := by (have H2_ := (Option.bind_some _ _).symm.trans H; rw [hy215]; with_reducible exact H2_)
          have Ny215 := A_.mk hy215
          clear hy215
          have c11b0 := eq_true (of_decide_eq_true (by (with_reducible assumption)) : 0 ≤ x5_1)
          have c12b0 := eq_true (of_decide_eq_true (by (with_reducible assumption)) : x5_1 ≤ (l0.length : Int))
          obtain ⟨y218, hy218⟩ : ∃ y_ : List Int, y_ = (l0.drop (x5_1 : Int).toNat) := ⟨_, rfl⟩
          replace H : (if y215.length + y218.length < 17592186044416 then (some (y215 ++ y218)) else (none)) = some r := by (have H2_ := (Option.bind_some _ _).symm.trans H; rw [hy218]; with_reducible exact H2_)
          have Ny218 := A_.mk hy218
          clear hy218
          by_cases c13 : y215.length + y218.length < 17592186044416
          ·rw [if_pos c13] at H
           have LMc13 := A_.mk c13
           clear c13
           obtain ⟨y223, hy223⟩ : ∃ y_ : List Int, y_ = (y215 ++ y218) := ⟨_, rfl⟩
           replace H : (some y223) = some r := by (rw [hy223]; with_reducible exact H)
           have Ny223 := A_.mk hy223
           clear hy223
           obtain rfl := Option.some.inj H
           have p199 : 0 ≤ (x5_1 : Int) := of_decide_eq_true (by (with_reducible assumption))
           have q199 : x5_1 < (l0.length : Int) := of_decide_eq_true (by (with_reducible assumption))
           obtain ⟨ad199, e199, hx199_0⟩ := Kd.at_int (Kd.V_reads' HO_0.out).2.2 x5_1 p199 q199
           cases e199
           replace p199 := eq_true p199
           replace q199 := eq_true q199
           have p200 : 0 ≤ (x5_1 : Int) := of_decide_eq_true (by (with_reducible assumption))
           have q200 : x5_1 < (l0.length : Int) := of_decide_eq_true (by (with_reducible assumption))
           obtain ⟨ad200, e200, hx200_0⟩ := Kd.at_int (Kd.V_reads' HO_0.out).2.2 x5_1 p200 q200
           obtain rfl : ad199 = ad200 := (by injection e200)
           replace p200 := eq_true p200
           replace q200 := eq_true q200
           try go_wp2
           replace HO_0 := A_.mk (Kd.V_drew HO_0.out)
           replace HB := A_.mk (below_drew1 HB.out)
           have q15 : (x5_1 : Int) ≤ ((l0.length : Int) : Int) := of_decide_eq_true (by (with_reducible assumption))
           obtain ⟨i015, hi015, _, hsz15, _⟩ := info_parts info3
           have hroom15 : l0.length ≤ c0 := (Kd.V_reads' HO_0.out).2.1
           have hC15 : Kd.F (Kd.int .i64) _ _ (some ad199) l0.length l0 := (Kd.V_at (base := w.heap.size) HO_0.out).2.2
           have hcut15 := cut_to (P := Tryd.prog) 22 3 .i64 Tryd.underlying22 hi015 (some ad199) l0.length c0 x5_1 (of_decide_eq_true (by (with_reducible assumption))) q15 hroom15
           have hr15 := Kd.F_take (m := (x5_1 : Int).toNat) hC15 (by omega)
           have hy15 : y204.length = (x5_1 : Int).toNat := (by rw [Ny204.out, List.length_take]; omega)
           rw [← Ny204.out] at hr15
           rw [← hy15] at hcut15
           have HO208 := A_.mk (show Kd.V (Kd.int .i64) 3 _ w.heap.size _ (.slice (some ad199) y204.length c0) y204 from Kd.V_mk (by omega) hr15)
           have HC208 := A_.mk (show y204.length ≤ c0 from by omega)
           clear hr15 hC15 hroom15 hi015 hsz15
           have KY15 := A_.mk hy15
           clear hy15
           replace q15 := eq_true q15
           have q16 : (x5_1 : Int) ≤ ((l0.length : Int) : Int) := of_decide_eq_true (by (with_reducible assumption))
           obtain ⟨i016, hi016, _, hsz16, _⟩ := info_parts info3
           have hroom16 : l0.length ≤ c0 := (Kd.V_reads' HO_0.out).2.1
           have hC16 : Kd.F (Kd.int .i64) _ _ (some ad199) l0.length l0 := (Kd.V_at (base := w.heap.size) HO_0.out).2.2
           have q016 : (0 : Int) ≤ (x5_1 : Int) := of_decide_eq_true (by (with_reducible assumption))
           have hcut16 := cut_from (P := Tryd.prog) 22 3 .i64 Tryd.underlying22 hi016 1 hsz16 (some ad199) l0.length c0 x5_1 q016 q16
           have hr16 := Kd.F_cut (m := (x5_1 : Int).toNat) (c := c0) hC16 (by omega) hroom16
           obtain ⟨A16, hA16⟩ : ∃ A1, A1 = (if c0 = (x5_1 : Int).toNat then (some ad199) else ((some ad199) : Option Addr).map (·.add ((x5_1 : Int).toNat * 1))) := ⟨_, rfl⟩
           obtain ⟨c16, hc16⟩ : ∃ c1, c1 = c0 - (x5_1 : Int).toNat := ⟨_, rfl⟩
           have hy16 : y218.length = l0.length - (x5_1 : Int).toNat := (by rw [Ny218.out, List.length_drop] <;> omega)
           rw [show (l0).drop (x5_1 : Int).toNat = y218 from Ny218.out.symm] at hr16
           replace hr16 : Kd.F (Kd.int .i64) _ _ A16 y218.length y218 := (by rw [hA16]; exact hr16)
           rw [← hy16, ← hA16, ← hc16] at hcut16
           have HO222 := A_.mk (show Kd.V (Kd.int .i64) 3 _ w.heap.size _ (.slice A16 y218.length c16) y218 from Kd.V_mk (by rw [hy16, hc16]; exact Nat.sub_le_sub_right hroom16 _) hr16)
           have HC222 := A_.mk (show y218.length ≤ c16 from by rw [hy16, hc16]; exact Nat.sub_le_sub_right hroom16 _)
           clear hr16 hC16 hroom16 hi016 hsz16 hc16
           have KY16 := A_.mk hy16
           have KA16 := A_.mk hA16
           clear hy16 hA16
           replace q16 := eq_true q16
           refine start_ (n := 13) (S := fun w' => True) (ds := []) (m_ 13 0) (by kernel_rfl) rfl rfl trivial (fun hHeld => ?_); refine with_tabW spec_l1Put.tab6 spec_l1Put.bits6 (fun HT_ HW_ => ?_)
           generalize wr.drew = w14 at HO_0 HB HO208 HO222 hHeld ⊢
           refine pure_ (i := 1) (N := some 34) (v := ?_) (a' := ?_) (m_ 13 2) rfl rfl (any_of HT_.out (by kernel_rfl)) (fun _ _ _ h => h) (Or.inl ⟨by rfl, ?_⟩) ?_ ?_
           rotate_left
           ·intro w'
            go_simp
            with_reducible rfl
           rotate_left
           ·simp only [Act.put, sI_, s0_, s1_, i64_w, i32_w]
            rfl
           refine pure_ (i := 2) (N := some 35) (v := ?_) (a' := ?_) (m_ 13 6) rfl rfl (any_of HT_.out (by kernel_rfl)) (fun _ _ _ h => h) (Or.inl ⟨by rfl, ?_⟩) ?_ ?_
           rotate_left
           ·intro w'
            go_simp
            with_reducible rfl
           rotate_left
           ·simp only [Act.put, sI_, s0_, s1_, i64_w, i32_w]
            rfl
           refine pure_ (i := 3) (N := some 36) (v := ?_) (a' := ?_) (m_ 13 14) rfl rfl (any_of HT_.out (by kernel_rfl)) (fun _ _ _ h => h) (Or.inl ⟨by rfl, ?_⟩) ?_ ?_
           rotate_left
           ·intro w'
            go_simp
            with_reducible rfl
           rotate_left
           ·simp only [Act.put, sI_, s0_, s1_, i64_w, i32_w]
            rfl
           refine pure_ (i := 5) (N := some 38) (v := ?_) (a' := ?_) (m_ 13 46) rfl rfl (any_of HT_.out (by kernel_rfl)) (fun _ _ _ h => h) (Or.inl ⟨by rfl, ?_⟩) ?_ ?_
           rotate_left
           ·intro w'
            go_simp
            with_reducible rfl
           rotate_left
           ·simp only [Act.put, sI_, s0_, s1_, i64_w, i32_w]
            rfl
           refine pure_ (i := 8) (N := some 41) (v := ?_) (a' := ?_) (m_ 13 302) rfl rfl (any_of HT_.out (by kernel_rfl)) (fun _ _ _ h => h) (Or.inl ⟨by rfl, ?_⟩) ?_ ?_
           rotate_left
           ·intro w'
            go_simp
            with_reducible rfl
           rotate_left
           ·simp only [Act.put, sI_, s0_, s1_, i64_w, i32_w]
            rfl
           refine pure_ (i := 9) (N := some 42) (v := ?_) (a' := ?_) (m_ 13 814) rfl rfl (any_of HT_.out (by kernel_rfl)) (fun _ _ _ h => h) (Or.inl ⟨by rfl, ?_⟩) ?_ ?_
           rotate_left
           ·intro w'
            go_simp
            with_reducible rfl
           rotate_left
           ·simp only [Act.put, sI_, s0_, s1_, i64_w, i32_w]
            rfl
           refine pure_ (i := 10) (N := some 43) (v := ?_) (a' := ?_) (m_ 13 1838) rfl rfl (any_of HT_.out (by kernel_rfl)) (fun _ _ _ h => h) (Or.inl ⟨by rfl, ?_⟩) ?_ ?_
           rotate_left
           ·intro w'
            go_simp
            with_reducible rfl
           rotate_left
           ·simp only [Act.put, sI_, s0_, s1_, i64_w, i32_w]
            rfl
           refine join_ (σ := Value × Value × Value) 3 (m_ 13 1919) (fun s_ => [(33, s_.1), (37, s_.2.1), (39, s_.2.2)]) (fun s_ w' => (Kd.V (Kd.int .i64) 3 w' w.heap.size (fun k_ => (P0_ k_ ∨ w.heap.size ≤ k_) ∧ some k_ ≠ (s_.2.1 : Value).ownBlock ∧ some k_ ≠ (s_.2.2 : Value).ownBlock) (.slice (some ad199) y204.length c0) y204) ∧ (Kd.R (Kd.int .i64) 3 w' w.heap.size (fun k_ => (w.heap.size ≤ k_) ∧ some k_ ≠ (s_.2.2 : Value).ownBlock) s_.2.1 y209) ∧ (Kd.R (Kd.int .i64) 3 w' w.heap.size (fun k_ => (w.heap.size ≤ k_) ∧ some k_ ≠ (s_.2.1 : Value).ownBlock) s_.2.2 y212) ∧ (Kd.V (Kd.int .i64) 3 w' w.heap.size (fun k_ => (P0_ k_ ∨ w.heap.size ≤ k_) ∧ some k_ ≠ (s_.2.1 : Value).ownBlock ∧ some k_ ≠ (s_.2.2 : Value).ownBlock) (.slice A16 y218.length c16) y218) ∧ (Kd.V (Kd.int .i64) 3 w' w.heap.size (fun k_ => (P0_ k_ ∨ w.heap.size ≤ k_) ∧ some k_ ≠ (s_.2.1 : Value).ownBlock ∧ some k_ ≠ (s_.2.2 : Value).ownBlock) (.slice (some ad199) l0.length c0) l0) ∧ (Below w.heap.size w w')) ?_ ?_
           rotate_left
           ·intro hCont
            refine two_ (i := 0) (j := 6) (Ni := some 33) (Nj := some 39) (m_ 13 1839) (m_ 13 1902) rfl rfl rfl rfl (two_of HT_.out (by kernel_rfl)) (by decide) (by decide) (fun K hK => ?_) (fun K hK => ?_)
            ·refine Kd.R_lit_step (Kd.int .i64) _ 3 ?hg (N := 33) ?hd (xs := ([] : List Int)) (inner := []) (ok := fun _ => True) (okp := fun _ => True) ?hr ?hp (fun _ hk => hk) trivial (Below.refl _ _) (Nat.le_refl _) (by simp) ?_; (case hd => rfl); (case hg => rfl); (case hr => (go_simp; done)); (case hp => exact (Reps.none _ _))
             intro v202 w17 ho18 hb hg_ hnew_
             clear hg_ hnew_
             (rw [← Ny201.out] at ho18)
             replace HO_0 := A_.mk (Kd.V_elder' HO_0.out (Kd.R_base ho18) hb)
             replace HO208 := A_.mk (Kd.V_elder' HO208.out (Kd.R_base ho18) hb)
             replace HO222 := A_.mk (Kd.V_elder' HO222.out (Kd.R_base ho18) hb)
             have HO203 := A_.mk (Kd.R_lower (Kd.R_newM (M := fun k_ => (w.heap.size ≤ k_)) ho18 (below_size HB.out) (fun k_ h_ => h_)) (below_size HB.out))
             replace HB := A_.mk (below_step HB.out hb)
             clear hb ho18
             refine hK.out _ _ trivial (fun hHeld => ?_)
             clear hK K
             refine norm_ (a' := ?_) ?_ ?_
             rotate_left
             ·show Act.put _ (some 33) _ = _
              simp only [Act.put, sI_, s0_, s1_, i64_w, i32_w]
              rfl
             refine two_ (i := 4) (j := 6) (Ni := some 37) (Nj := some 39) (m_ 13 1855) (m_ 13 1903) rfl rfl rfl rfl (two_of HT_.out (by kernel_rfl)) (by decide) (by decide) (fun K hK => ?_) (fun K hK => ?_)
             ·refine Kd.R_append_rows_step (Kd.int .i64) (w0 := w) w.heap.size (by rfl) (.tmp 33) (.tmp 36) 22 3 (.int .i64 0) 8 rfl Tryd.underlying22 info3 rfl (by decide) (by omega) v202 y201 y204 _ _ _ (fun k_ => (w.heap.size ≤ k_)) (fun _ => False) rfl rfl ?aO ?aR (fun _ _ h => h) (fun _ h => h.elim) ?aF ?aB ?aS ?aL ?_
              (case aR => repeat (exact (Kd.V_reads' HO208.out).2.2))
              (case aB => exact HB.out)
              (case aF => exact (fun k_ hk => (Nat.le_trans (below_size HB.out) hk)))
              (case aO => exact (by (with_reducible repeat (apply Kd.R_alloc)); exact Kd.R_mono HO203.out (fun _ hk => hk.1)))
              (case aS => exact (below_size HB.out))
              (case aL => have := LMc9.out; omega)
              intro v210 w19 ho hb hg hat
              rw [← Ny209.out] at ho
              replace HO_0 := A_.mk (Kd.V_afterv (ok := (fun k_ => (P0_ k_ ∨ w.heap.size ≤ k_))) HO_0.out hg hat)
              replace HO208 := A_.mk (Kd.V_afterv (ok := (fun k_ => (P0_ k_ ∨ w.heap.size ≤ k_))) HO208.out hg hat)
              replace HO222 := A_.mk (Kd.V_afterv (ok := (fun k_ => (P0_ k_ ∨ w.heap.size ≤ k_))) HO222.out hg hat)
              replace HB := A_.mk (hb)
              have HO211 := A_.mk (ho)
              clear HO203
              clear ho hb hg hat
              refine hK.out _ _ trivial (fun hHeld => ?_)
              clear hK K
              refine norm_ (a' := ?_) ?_ ?_
              rotate_left
              ·show Act.put _ (some 37) _ = _
               simp only [Act.put, sI_, s0_, s1_, i64_w, i32_w]
               rfl
              refine one_ (i := 6) (N := some 39) (m_ 13 1919) rfl rfl (one_of HT_.out (by kernel_rfl)) (by decide) (fun K hK => ?_)
              refine Kd.R_lit_step (Kd.int .i64) _ 3 ?hg (N := 39) ?hd (xs := ([a1] : List Int)) (inner := [.int .i64 a1]) (ok := fun _ => True) (okp := fun _ => True) ?hr ?hp (fun _ hk => hk) trivial (Below.refl _ _) (Nat.le_refl _) (by simp) ?_; (case hd => rfl); (case hg => rfl); (case hr => (go_simp; done)); (case hp => exact (Reps.one (show Kd.M (Kd.int .i64) _ _ _ a1 [.int .i64 a1] from rfl) (Reps.none _ _)))
              intro v213 w20 ho21 hb hg_ hnew_
              clear hg_ hnew_
              (rw [← Ny212.out] at ho21)
              replace HO_0 := A_.mk (Kd.V_elder' HO_0.out (Kd.R_base ho21) hb)
              replace HO208 := A_.mk (Kd.V_elder' HO208.out (Kd.R_base ho21) hb)
              replace HO222 := A_.mk (Kd.V_elder' HO222.out (Kd.R_base ho21) hb)
              have HO214 := A_.mk (Kd.R_lower (Kd.R_new' (Kd.R_newM (M := fun k_ => (w.heap.size ≤ k_)) ho21 (below_size HB.out) (fun k_ h_ => h_)) (Kd.R_lt HO211.out)) (below_size HB.out))
              replace HO211 := A_.mk (Kd.R_elder' HO211.out (Kd.R_base ho21) hb)
              replace HB := A_.mk (below_step HB.out hb)
              clear hb ho21
              refine hK.out _ _ trivial (fun hHeld => ?_)
              clear hK K
              refine norm_ (a' := ?_) ?_ ?_
              rotate_left
              ·show Act.put _ (some 39) _ = _
               simp only [Act.put, sI_, s0_, s1_, i64_w, i32_w]
               rfl
              exact norm_ (by simp only [putAll, Act.put, sI_, s0_, s1_]) (hCont (v202, v210, v213) _ ⟨(by (with_reducible repeat (apply Kd.V_alloc)); exact Kd.V_mono HO208.out (fun _ hk => ⟨hk.1.1, ⟨hk.1.2, hk.2⟩⟩)), HO211.out, (by (with_reducible repeat (apply Kd.R_alloc)); exact Kd.R_mono HO214.out (fun _ hk => ⟨hk.1.1, hk.2⟩)), (by (with_reducible repeat (apply Kd.V_alloc)); exact Kd.V_mono HO222.out (fun _ hk => ⟨hk.1.1, ⟨hk.1.2, hk.2⟩⟩)), (by (with_reducible repeat (apply Kd.V_alloc)); exact Kd.V_mono HO_0.out (fun _ hk => ⟨hk.1.1, ⟨hk.1.2, hk.2⟩⟩)), HB.out⟩)
             ·refine Kd.R_lit_step (Kd.int .i64) _ 3 ?hg (N := 39) ?hd (xs := ([a1] : List Int)) (inner := [.int .i64 a1]) (ok := fun _ => True) (okp := fun _ => True) ?hr ?hp (fun _ hk => hk) trivial (Below.refl _ _) (Nat.le_refl _) (by simp) ?_; (case hd => rfl); (case hg => rfl); (case hr => (go_simp; done)); (case hp => exact (Reps.one (show Kd.M (Kd.int .i64) _ _ _ a1 [.int .i64 a1] from rfl) (Reps.none _ _)))
              intro v213 w19 ho20 hb hg_ hnew_
              clear hg_ hnew_
              (rw [← Ny212.out] at ho20)
              replace HO_0 := A_.mk (Kd.V_elder' HO_0.out (Kd.R_base ho20) hb)
              replace HO208 := A_.mk (Kd.V_elder' HO208.out (Kd.R_base ho20) hb)
              replace HO222 := A_.mk (Kd.V_elder' HO222.out (Kd.R_base ho20) hb)
              have HO214 := A_.mk (Kd.R_lower (Kd.R_new' (Kd.R_newM (M := fun k_ => (w.heap.size ≤ k_)) ho20 (below_size HB.out) (fun k_ h_ => h_)) (Kd.R_lt HO203.out)) (below_size HB.out))
              replace HO203 := A_.mk (Kd.R_elder' HO203.out (Kd.R_base ho20) hb)
              replace HB := A_.mk (below_step HB.out hb)
              clear hb ho20
              refine hK.out _ _ trivial (fun hHeld => ?_)
              clear hK K
              refine norm_ (a' := ?_) ?_ ?_
              rotate_left
              ·show Act.put _ (some 39) _ = _
               simp only [Act.put, sI_, s0_, s1_, i64_w, i32_w]
               rfl
              refine one_ (i := 4) (N := some 37) (m_ 13 1919) rfl rfl (one_of HT_.out (by kernel_rfl)) (by decide) (fun K hK => ?_)
              refine Kd.R_append_rows_step (Kd.int .i64) (w0 := w) w.heap.size (by rfl) (.tmp 33) (.tmp 36) 22 3 (.int .i64 0) 8 rfl Tryd.underlying22 info3 rfl (by decide) (by omega) v202 y201 y204 _ _ _ (fun k_ => (w.heap.size ≤ k_) ∧ some k_ ≠ (v213 : Value).ownBlock) (fun _ => False) rfl rfl ?aO ?aR (fun _ _ h => h) (fun _ h => h.elim) ?aF ?aB ?aS ?aL ?_
              (case aR => repeat (exact (Kd.V_reads' HO208.out).2.2))
              (case aB => exact HB.out)
              (case aF => exact (fun k_ hk => ⟨(Nat.le_trans (below_size HB.out) hk), Kd.fresh' (Kd.R_lt HO214.out) k_ hk⟩))
              (case aO => exact (by (with_reducible repeat (apply Kd.R_alloc)); exact Kd.R_mono HO203.out (fun _ hk => ⟨hk.1.1, hk.2⟩)))
              (case aS => exact (below_size HB.out))
              (case aL => have := LMc9.out; omega)
              intro v210 w21 ho hb hg hat
              rw [← Ny209.out] at ho
              replace HO_0 := A_.mk (Kd.V_afterv (ok := (fun k_ => (P0_ k_ ∨ w.heap.size ≤ k_) ∧ some k_ ≠ (v213 : Value).ownBlock)) (by (with_reducible repeat (apply Kd.V_alloc)); exact Kd.V_mono HO_0.out (fun _ hk => ⟨⟨hk.1.1, hk.2⟩, hk.1.2⟩)) hg hat)
              replace HO208 := A_.mk (Kd.V_afterv (ok := (fun k_ => (P0_ k_ ∨ w.heap.size ≤ k_) ∧ some k_ ≠ (v213 : Value).ownBlock)) (by (with_reducible repeat (apply Kd.V_alloc)); exact Kd.V_mono HO208.out (fun _ hk => ⟨⟨hk.1.1, hk.2⟩, hk.1.2⟩)) hg hat)
              replace HO222 := A_.mk (Kd.V_afterv (ok := (fun k_ => (P0_ k_ ∨ w.heap.size ≤ k_) ∧ some k_ ≠ (v213 : Value).ownBlock)) (by (with_reducible repeat (apply Kd.V_alloc)); exact Kd.V_mono HO222.out (fun _ hk => ⟨⟨hk.1.1, hk.2⟩, hk.1.2⟩)) hg hat)
              replace HO214 := A_.mk (Kd.R_after (ok := (fun k_ => (w.heap.size ≤ k_))) (by (with_reducible repeat (apply Kd.R_alloc)); exact Kd.R_mono HO214.out (fun _ hk => ⟨hk.1.1, hk.2⟩)) hg hat)
              replace HB := A_.mk (hb)
              have HO211 := A_.mk (ho)
              clear HO203
              clear ho hb hg hat
              refine hK.out _ _ trivial (fun hHeld => ?_)
              clear hK K
              refine norm_ (a' := ?_) ?_ ?_
              rotate_left
              ·show Act.put _ (some 37) _ = _
               simp only [Act.put, sI_, s0_, s1_, i64_w, i32_w]
               rfl
              exact norm_ (by simp only [putAll, Act.put, sI_, s0_, s1_]) (hCont (v202, v210, v213) _ ⟨(by (with_reducible repeat (apply Kd.V_alloc)); exact Kd.V_mono HO208.out (fun _ hk => ⟨hk.1.1, ⟨hk.2, hk.1.2⟩⟩)), HO211.out, HO214.out, (by (with_reducible repeat (apply Kd.V_alloc)); exact Kd.V_mono HO222.out (fun _ hk => ⟨hk.1.1, ⟨hk.2, hk.1.2⟩⟩)), (by (with_reducible repeat (apply Kd.V_alloc)); exact Kd.V_mono HO_0.out (fun _ hk => ⟨hk.1.1, ⟨hk.2, hk.1.2⟩⟩)), HB.out⟩)
            ·refine Kd.R_lit_step (Kd.int .i64) _ 3 ?hg (N := 39) ?hd (xs := ([a1] : List Int)) (inner := [.int .i64 a1]) (ok := fun _ => True) (okp := fun _ => True) ?hr ?hp (fun _ hk => hk) trivial (Below.refl _ _) (Nat.le_refl _) (by simp) ?_; (case hd => rfl); (case hg => rfl); (case hr => (go_simp; done)); (case hp => exact (Reps.one (show Kd.M (Kd.int .i64) _ _ _ a1 [.int .i64 a1] from rfl) (Reps.none _ _)))
             intro v213 w17 ho18 hb hg_ hnew_
             clear hg_ hnew_
             (rw [← Ny212.out] at ho18)
             replace HO_0 := A_.mk (Kd.V_elder' HO_0.out (Kd.R_base ho18) hb)
             replace HO208 := A_.mk (Kd.V_elder' HO208.out (Kd.R_base ho18) hb)
             replace HO222 := A_.mk (Kd.V_elder' HO222.out (Kd.R_base ho18) hb)
             have HO214 := A_.mk (Kd.R_lower (Kd.R_newM (M := fun k_ => (w.heap.size ≤ k_)) ho18 (below_size HB.out) (fun k_ h_ => h_)) (below_size HB.out))
             replace HB := A_.mk (below_step HB.out hb)
             clear hb ho18
             refine hK.out _ _ trivial (fun hHeld => ?_)
             clear hK K
             refine norm_ (a' := ?_) ?_ ?_
             rotate_left
             ·show Act.put _ (some 39) _ = _
              simp only [Act.put, sI_, s0_, s1_, i64_w, i32_w]
              rfl
             refine one_ (i := 0) (N := some 33) (m_ 13 1903) rfl rfl (one_of HT_.out (by kernel_rfl)) (by decide) (fun K hK => ?_)
             refine Kd.R_lit_step (Kd.int .i64) _ 3 ?hg (N := 33) ?hd (xs := ([] : List Int)) (inner := []) (ok := fun _ => True) (okp := fun _ => True) ?hr ?hp (fun _ hk => hk) trivial (Below.refl _ _) (Nat.le_refl _) (by simp) ?_; (case hd => rfl); (case hg => rfl); (case hr => (go_simp; done)); (case hp => exact (Reps.none _ _))
             intro v202 w19 ho20 hb hg_ hnew_
             clear hg_ hnew_
             (rw [← Ny201.out] at ho20)
             replace HO_0 := A_.mk (Kd.V_elder' HO_0.out (Kd.R_base ho20) hb)
             replace HO208 := A_.mk (Kd.V_elder' HO208.out (Kd.R_base ho20) hb)
             replace HO222 := A_.mk (Kd.V_elder' HO222.out (Kd.R_base ho20) hb)
             have HO203 := A_.mk (Kd.R_lower (Kd.R_new' (Kd.R_newM (M := fun k_ => (w.heap.size ≤ k_)) ho20 (below_size HB.out) (fun k_ h_ => h_)) (Kd.R_lt HO214.out)) (below_size HB.out))
             replace HO214 := A_.mk (Kd.R_elder' HO214.out (Kd.R_base ho20) hb)
             replace HB := A_.mk (below_step HB.out hb)
             clear hb ho20
             refine hK.out _ _ trivial (fun hHeld => ?_)
             clear hK K
             refine norm_ (a' := ?_) ?_ ?_
             rotate_left
             ·show Act.put _ (some 33) _ = _
              simp only [Act.put, sI_, s0_, s1_, i64_w, i32_w]
              rfl
             refine one_ (i := 4) (N := some 37) (m_ 13 1919) rfl rfl (one_of HT_.out (by kernel_rfl)) (by decide) (fun K hK => ?_)
             refine Kd.R_append_rows_step (Kd.int .i64) (w0 := w) w.heap.size (by rfl) (.tmp 33) (.tmp 36) 22 3 (.int .i64 0) 8 rfl Tryd.underlying22 info3 rfl (by decide) (by omega) v202 y201 y204 _ _ _ (fun k_ => (w.heap.size ≤ k_) ∧ some k_ ≠ (v213 : Value).ownBlock) (fun _ => False) rfl rfl ?aO ?aR (fun _ _ h => h) (fun _ h => h.elim) ?aF ?aB ?aS ?aL ?_
             (case aR => repeat (exact (Kd.V_reads' HO208.out).2.2))
             (case aB => exact HB.out)
             (case aF => exact (fun k_ hk => ⟨(Nat.le_trans (below_size HB.out) hk), Kd.fresh' (Kd.R_lt HO214.out) k_ hk⟩))
             (case aO => exact (by (with_reducible repeat (apply Kd.R_alloc)); exact Kd.R_mono HO203.out (fun _ hk => ⟨hk.1.1, hk.2⟩)))
             (case aS => exact (below_size HB.out))
             (case aL => have := LMc9.out; omega)
             intro v210 w21 ho hb hg hat
             rw [← Ny209.out] at ho
             replace HO_0 := A_.mk (Kd.V_afterv (ok := (fun k_ => (P0_ k_ ∨ w.heap.size ≤ k_) ∧ some k_ ≠ (v213 : Value).ownBlock)) HO_0.out hg hat)
             replace HO208 := A_.mk (Kd.V_afterv (ok := (fun k_ => (P0_ k_ ∨ w.heap.size ≤ k_) ∧ some k_ ≠ (v213 : Value).ownBlock)) HO208.out hg hat)
             replace HO222 := A_.mk (Kd.V_afterv (ok := (fun k_ => (P0_ k_ ∨ w.heap.size ≤ k_) ∧ some k_ ≠ (v213 : Value).ownBlock)) HO222.out hg hat)
             replace HO214 := A_.mk (Kd.R_after (ok := (fun k_ => (w.heap.size ≤ k_))) (by (with_reducible repeat (apply Kd.R_alloc)); exact Kd.R_mono HO214.out (fun _ hk => ⟨hk.1.1, hk.2⟩)) hg hat)
             replace HB := A_.mk (hb)
             have HO211 := A_.mk (ho)
             clear HO203
             clear ho hb hg hat
             refine hK.out _ _ trivial (fun hHeld => ?_)
             clear hK K
             refine norm_ (a' := ?_) ?_ ?_
             rotate_left
             ·show Act.put _ (some 37) _ = _
              simp only [Act.put, sI_, s0_, s1_, i64_w, i32_w]
              rfl
             exact norm_ (by simp only [putAll, Act.put, sI_, s0_, s1_]) (hCont (v202, v210, v213) _ ⟨(by (with_reducible repeat (apply Kd.V_alloc)); exact Kd.V_mono HO208.out (fun _ hk => ⟨hk.1.1, ⟨hk.2, hk.1.2⟩⟩)), HO211.out, HO214.out, (by (with_reducible repeat (apply Kd.V_alloc)); exact Kd.V_mono HO222.out (fun _ hk => ⟨hk.1.1, ⟨hk.2, hk.1.2⟩⟩)), (by (with_reducible repeat (apply Kd.V_alloc)); exact Kd.V_mono HO_0.out (fun _ hk => ⟨hk.1.1, ⟨hk.2, hk.1.2⟩⟩)), HB.out⟩)
           rintro ⟨v202, v210, v213⟩ w22 ⟨h0_, h1_, h2_, h3_, h4_, h5_⟩
           have n0_ : A_ (Kd.V (Kd.int .i64) 3 w22 w.heap.size (fun k_ => (P0_ k_ ∨ w.heap.size ≤ k_) ∧ some k_ ≠ (v210 : Value).ownBlock ∧ some k_ ≠ (v213 : Value).ownBlock) (.slice (some ad199) y204.length c0) y204) := ⟨h0_⟩
           have n1_ : A_ (Kd.R (Kd.int .i64) 3 w22 w.heap.size (fun k_ => (w.heap.size ≤ k_) ∧ some k_ ≠ (v213 : Value).ownBlock) v210 y209) := ⟨h1_⟩
           have n2_ : A_ (Kd.R (Kd.int .i64) 3 w22 w.heap.size (fun k_ => (w.heap.size ≤ k_) ∧ some k_ ≠ (v210 : Value).ownBlock) v213 y212) := ⟨h2_⟩
           have n3_ : A_ (Kd.V (Kd.int .i64) 3 w22 w.heap.size (fun k_ => (P0_ k_ ∨ w.heap.size ≤ k_) ∧ some k_ ≠ (v210 : Value).ownBlock ∧ some k_ ≠ (v213 : Value).ownBlock) (.slice A16 y218.length c16) y218) := ⟨h3_⟩
           have n4_ : A_ (Kd.V (Kd.int .i64) 3 w22 w.heap.size (fun k_ => (P0_ k_ ∨ w.heap.size ≤ k_) ∧ some k_ ≠ (v210 : Value).ownBlock ∧ some k_ ≠ (v213 : Value).ownBlock) (.slice (some ad199) l0.length c0) l0) := ⟨h4_⟩
           have n5_ : A_ (Below w.heap.size w w22) := ⟨h5_⟩
           clear HO_0
           clear HB
           clear h0_ h1_ h2_ h3_ h4_ h5_
           have HO208 := n0_
           have HO211 := n1_
           have HO214 := n2_
           have HO222 := n3_
           have HO_0 := n4_
           have HB := n5_
           clear n0_ n1_ n2_ n3_ n4_ n5_
           have hHeld := trivial
           obtain ⟨Ao24, co24, eo24⟩ := Kd.R_slice HO214.out
           (subst eo24)
           refine norm_ (a' := ?_) ?_ ?_
           rotate_left
           ·simp only [putAll, Act.put, sI_, s0_, s1_]
            rfl
           refine one_ (i := 7) (N := some 40) (m_ 13 2047) rfl rfl (one_of HT_.out (by kernel_rfl)) (by decide) (fun K hK => ?_)
           refine Kd.R_append_rows_step (Kd.int .i64) (w0 := w) w.heap.size (by rfl) (.tmp 37) (.tmp 39) 22 3 (.int .i64 0) 8 rfl Tryd.underlying22 info3 rfl (by decide) (by omega) v210 y209 y212 _ _ _ (fun k_ => (w.heap.size ≤ k_) ∧ some k_ ≠ (.slice Ao24 y212.length co24 : Value).ownBlock) (fun _ => False) rfl rfl ?aO ?aR (fun _ _ h => h) (fun _ h => h.elim) ?aF ?aB ?aS ?aL ?_
           (case aR => repeat (exact (Kd.R_reads' HO214.out).2.2))
           (case aB => exact HB.out)
           (case aF => exact (fun k_ hk => ⟨(Nat.le_trans (below_size HB.out) hk), Kd.fresh' (Kd.R_lt HO214.out) k_ hk⟩))
           (case aO => exact HO211.out)
           (case aS => exact (below_size HB.out))
           (case aL => have := LMc10.out; omega)
           intro v216 w23 ho hb hg hat
           rw [← Ny215.out] at ho
           replace HO_0 := A_.mk (Kd.V_afterv (ok := (fun k_ => (P0_ k_ ∨ w.heap.size ≤ k_) ∧ some k_ ≠ (.slice Ao24 y212.length co24 : Value).ownBlock)) (by (with_reducible repeat (apply Kd.V_alloc)); exact Kd.V_mono HO_0.out (fun _ hk => ⟨⟨hk.1, hk.2.2⟩, hk.2.1⟩)) hg hat)
           replace HO208 := A_.mk (Kd.V_afterv (ok := (fun k_ => (P0_ k_ ∨ w.heap.size ≤ k_) ∧ some k_ ≠ (.slice Ao24 y212.length co24 : Value).ownBlock)) (by (with_reducible repeat (apply Kd.V_alloc)); exact Kd.V_mono HO208.out (fun _ hk => ⟨⟨hk.1, hk.2.2⟩, hk.2.1⟩)) hg hat)
           replace HO222 := A_.mk (Kd.V_afterv (ok := (fun k_ => (P0_ k_ ∨ w.heap.size ≤ k_) ∧ some k_ ≠ (.slice Ao24 y212.length co24 : Value).ownBlock)) (by (with_reducible repeat (apply Kd.V_alloc)); exact Kd.V_mono HO222.out (fun _ hk => ⟨⟨hk.1, hk.2.2⟩, hk.2.1⟩)) hg hat)
           replace HO214 := A_.mk (Kd.R_after (ok := (fun k_ => (w.heap.size ≤ k_))) HO214.out hg hat)
           replace HB := A_.mk (hb)
           have HO217 := A_.mk (ho)
           clear HO211
           clear ho hb hg hat
           refine hK.out _ _ trivial (fun hHeld => ?_)
           clear hK K
           refine norm_ (a' := ?_) ?_ ?_
           rotate_left
           ·show Act.put _ (some 40) _ = _
            simp only [Act.put, sI_, s0_, s1_, i64_w, i32_w]
            rfl
           refine one_ (i := 11) (N := some 44) (m_ 13 4095) rfl rfl (one_of HT_.out (by kernel_rfl)) (by decide) (fun K hK => ?_)
           refine Kd.R_append_rows_step (Kd.int .i64) (w0 := w) w.heap.size (by rfl) (.tmp 40) (.tmp 43) 22 3 (.int .i64 0) 8 rfl Tryd.underlying22 info3 rfl (by decide) (by omega) v216 y215 y218 _ _ _ (fun k_ => (w.heap.size ≤ k_) ∧ some k_ ≠ (.slice Ao24 y212.length co24 : Value).ownBlock) (fun _ => False) rfl rfl ?aO ?aR (fun _ _ h => h) (fun _ h => h.elim) ?aF ?aB ?aS ?aL ?_
           (case aR => repeat (exact (Kd.V_reads' HO222.out).2.2))
           (case aB => exact HB.out)
           (case aF => exact (fun k_ hk => ⟨(Nat.le_trans (below_size HB.out) hk), Kd.fresh' (Kd.R_lt HO214.out) k_ hk⟩))
           (case aO => exact HO217.out)
           (case aS => exact (below_size HB.out))
           (case aL => have := LMc13.out; omega)
           intro v224 w25 ho hb hg hat
           rw [← Ny223.out] at ho
           replace HO_0 := A_.mk (Kd.V_afterv (ok := (fun k_ => (P0_ k_ ∨ w.heap.size ≤ k_) ∧ some k_ ≠ (.slice Ao24 y212.length co24 : Value).ownBlock)) HO_0.out hg hat)
           replace HO208 := A_.mk (Kd.V_afterv (ok := (fun k_ => (P0_ k_ ∨ w.heap.size ≤ k_) ∧ some k_ ≠ (.slice Ao24 y212.length co24 : Value).ownBlock)) HO208.out hg hat)
           replace HO222 := A_.mk (Kd.V_afterv (ok := (fun k_ => (P0_ k_ ∨ w.heap.size ≤ k_) ∧ some k_ ≠ (.slice Ao24 y212.length co24 : Value).ownBlock)) HO222.out hg hat)
           replace HO214 := A_.mk (Kd.R_after (ok := (fun k_ => (w.heap.size ≤ k_))) HO214.out hg hat)
           replace HB := A_.mk (hb)
           have HO225 := A_.mk (ho)
           clear HO217
           clear ho hb hg hat
           refine hK.out _ _ trivial (fun hHeld => ?_)
           clear hK K
           refine norm_ (a' := ?_) ?_ ?_
           rotate_left
           ·show Act.put _ (some 44) _ = _
            simp only [Act.put, sI_, s0_, s1_, i64_w, i32_w]
            rfl
           refine pure_ (i := 12) (N := some 4) (v := ?_) (a' := ?_) (m_ 13 8191) rfl rfl (any_of HT_.out (by kernel_rfl)) (fun _ _ _ h => h) (Or.inl ⟨by rfl, ?_⟩) ?_ ?_
           rotate_left
           ·intro w'
            go_simp
            with_reducible rfl
           rotate_left
           ·simp only [Act.put, sI_, s0_, s1_, i64_w, i32_w]
            rfl
           refine done_ (done_of HT_.out (by kernel_rfl)) ?_
           try go_wp2
           go_ret
           exact ⟨_, by rfl, .inr (Kd.R_mono (by (with_reducible repeat (apply Kd.R_alloc)); exact Kd.R_mono HO225.out (fun _ hk => hk.1)) (fun _ _ => trivial)), by repeat ((with_reducible (exact HB.out)))⟩
          ·rw [if_neg c13] at H
           exact absurd H (by simp)
         ·rw [if_neg c10] at H
          exact absurd H (by simp)
        ·rw [if_neg c9] at H
         exact absurd H (by simp)
       ·rw [if_neg c8] at H
        exact absurd H (by simp)
    ·rw [if_neg c4] at H
     exact absurd H (by simp)
   ·rw [if_neg c3] at H
    have c3b0 : decide (x5_1 < (l0.length : Int)) = false := decide_eq_false c3
    clear c3
    obtain ⟨y226, hy226⟩ : ∃ y_ : List Int, y_ = (([] : List Int)) := ⟨_, rfl⟩
    replace H : (if 0 ≤ x5_1 then (if x5_1 ≤ (l0.length : Int) then ((some (l0.take (x5_1 : Int).toNat : List Int)).bind fun y229 => (if y226.length + y229.length < 17592186044416 then ((some (y226 ++ y229 : List Int)).bind fun y234 => ((some (([a1] : List Int) : List Int)).bind fun y237 => (if y234.length + y237.length < 17592186044416 then ((some (y234 ++ y237 : List Int)).bind fun y240 => ((some (l0.drop (x5_1 : Int).toNat : List Int)).bind fun y243 => (if y240.length + y243.length < 17592186044416 then (some (y240 ++ y243)) else (none)))) else (none)))) else (none))) else (none)) else (none)) = some r := by (have H2_ := (Option.bind_some _ _).symm.trans H; rw [hy226]; with_reducible exact H2_)
    have Ny226 := A_.mk hy226
    clear hy226
    by_cases c26 : 0 ≤ x5_1
    ·rw [if_pos c26] at H
     have c26b0 := eq_true c26
     have c26b1 : decide (0 ≤ x5_1) = true := decide_eq_true c26
     clear c26
     by_cases c27 : x5_1 ≤ (l0.length : Int)
     ·rw [if_pos c27] at H
      have c27b0 := eq_true c27
      have c27b1 : decide (x5_1 ≤ (l0.length : Int)) = true := decide_eq_true c27
      clear c27
      obtain ⟨y229, hy229⟩ : ∃ y_ : List Int, y_ = (l0.take (x5_1 : Int).toNat) := ⟨_, rfl⟩
      replace H : (if y226.length + y229.length < 17592186044416 then ((some (y226 ++ y229 : List Int)).bind fun y234 => ((some (([a1] : List Int) : List Int)).bind fun y237 => (if y234.length + y237.length < 17592186044416 then ((some (y234 ++ y237 : List Int)).bind fun y240 => ((some (l0.drop (x5_1 : Int).toNat : List Int)).bind fun y243 => (if y240.length + y243.length < 17592186044416 then (some (y240 ++ y243)) else (none)))) else (none)))) else (none)) = some r := by (have H2_ := (Option.bind_some _ _).symm.trans H; rw [hy229]; with_reducible exact H2_)
      have Ny229 := A_.mk hy229
      clear hy229
      by_cases c28 : y226.length + y229.length < 17592186044416
      ·rw [if_pos c28] at H
       have LMc28 := A_.mk c28
       clear c28
       obtain ⟨y234, hy234⟩ : ∃ y_ : List Int, y_ = (y226 ++ y229) := ⟨_, rfl⟩
       replace H : ((some (([a1] : List Int) : List Int)).bind fun y237 => (if y234.length + y237.length < 17592186044416 then ((some (y234 ++ y237 : List Int)).bind fun y240 => ((some (l0.drop (x5_1 : Int).toNat : List Int)).bind fun y243 => (if y240.length + y243.length < 17592186044416 then (some (y240 ++ y243)) else (none)))) else (none))) = some r := by (have H2_ := (Option.bind_some _ _).symm.trans H; rw [hy234]; with_reducible exact H2_)
       have Ny234 := A_.mk hy234
       clear hy234
       obtain ⟨y237, hy237⟩ : ∃ y_ : List Int, y_ = (([a1] : List Int)) := ⟨_, rfl⟩
       replace H : (if y234.length + y237.length < 17592186044416 then ((some (y234 ++ y237 : List Int)).bind fun y240 => ((some (l0.drop (x5_1 : Int).toNat : List Int)).bind fun y243 => (if y240.length + y243.length < 17592186044416 then (some (y240 ++ y243)) else (none)))) else (none)) = some r := by (have H2_ := (Option.bind_some _ _).symm.trans H; rw [hy237]; with_reducible exact H2_)
       have Ny237 := A_.mk hy237
       clear hy237
       by_cases c29 : y234.length + y237.length < 17592186044416
       ·rw [if_pos c29] at H
        have LMc29 := A_.mk c29
        clear c29
        obtain ⟨y240, hy240⟩ : ∃ y_ : List Int, y_ = (y234 ++ y237) := ⟨_, rfl⟩
        replace H : ((some (l0.drop (x5_1 : Int).toNat : List Int)).bind fun y243 => (if y240.length + y243.length < 17592186044416 then (some (y240 ++ y243)) else (none))) = some r := by (have H2_ := (Option.bind_some _ _).symm.trans H; rw [hy240]; with_reducible exact H2_)
        have Ny240 := A_.mk hy240
        clear hy240
        have c30b0 := eq_true (of_decide_eq_true (by (with_reducible assumption)) : 0 ≤ x5_1)
        have c31b0 := eq_true (of_decide_eq_true (by (with_reducible assumption)) : x5_1 ≤ (l0.length : Int))
        obtain ⟨y243, hy243⟩ : ∃ y_ : List Int, y_ = (l0.drop (x5_1 : Int).toNat) := ⟨_, rfl⟩
        replace H : (if y240.length + y243.length < 17592186044416 then (some (y240 ++ y243)) else (none)) = some r := by (have H2_ := (Option.bind_some _ _).symm.trans H; rw [hy243]; with_reducible exact H2_)
        have Ny243 := A_.mk hy243
        clear hy243
        by_cases c32 : y240.length + y243.length < 17592186044416
        ·rw [if_pos c32] at H
         have LMc32 := A_.mk c32
         clear c32
         obtain ⟨y248, hy248⟩ : ∃ y_ : List Int, y_ = (y240 ++ y243) := ⟨_, rfl⟩
         replace H : (some y248) = some r := by (rw [hy248]; with_reducible exact H)
         have Ny248 := A_.mk hy248
         clear hy248
         obtain rfl := Option.some.inj H
         try go_wp2
         replace HO_0 := A_.mk (Kd.V_drew HO_0.out)
         replace HB := A_.mk (below_drew1 HB.out)
         have q34 : (x5_1 : Int) ≤ ((l0.length : Int) : Int) := of_decide_eq_true (by (with_reducible assumption))
         obtain ⟨i034, hi034, _, hsz34, _⟩ := info_parts info3
         have hroom34 : l0.length ≤ c0 := (Kd.V_reads' HO_0.out).2.1
         have hC34 : Kd.F (Kd.int .i64) _ _ A0 l0.length l0 := (Kd.V_at (base := w.heap.size) HO_0.out).2.2
         have hcut34 := cut_to (P := Tryd.prog) 22 3 .i64 Tryd.underlying22 hi034 A0 l0.length c0 x5_1 (of_decide_eq_true (by (with_reducible assumption))) q34 hroom34
         have hr34 := Kd.F_take (m := (x5_1 : Int).toNat) hC34 (by omega)
         have hy34 : y229.length = (x5_1 : Int).toNat := (by rw [Ny229.out, List.length_take]; omega)
         rw [← Ny229.out] at hr34
         rw [← hy34] at hcut34
         have HO233 := A_.mk (show Kd.V (Kd.int .i64) 3 _ w.heap.size _ (.slice A0 y229.length c0) y229 from Kd.V_mk (by omega) hr34)
         have HC233 := A_.mk (show y229.length ≤ c0 from by omega)
         clear hr34 hC34 hroom34 hi034 hsz34
         have KY34 := A_.mk hy34
         clear hy34
         replace q34 := eq_true q34
         have q35 : (x5_1 : Int) ≤ ((l0.length : Int) : Int) := of_decide_eq_true (by (with_reducible assumption))
         obtain ⟨i035, hi035, _, hsz35, _⟩ := info_parts info3
         have hroom35 : l0.length ≤ c0 := (Kd.V_reads' HO_0.out).2.1
         have hC35 : Kd.F (Kd.int .i64) _ _ A0 l0.length l0 := (Kd.V_at (base := w.heap.size) HO_0.out).2.2
         have q035 : (0 : Int) ≤ (x5_1 : Int) := of_decide_eq_true (by (with_reducible assumption))
         have hcut35 := cut_from (P := Tryd.prog) 22 3 .i64 Tryd.underlying22 hi035 1 hsz35 A0 l0.length c0 x5_1 q035 q35
         have hr35 := Kd.F_cut (m := (x5_1 : Int).toNat) (c := c0) hC35 (by omega) hroom35
         obtain ⟨A35, hA35⟩ : ∃ A1, A1 = (if c0 = (x5_1 : Int).toNat then A0 else (A0 : Option Addr).map (·.add ((x5_1 : Int).toNat * 1))) := ⟨_, rfl⟩
         obtain ⟨c35, hc35⟩ : ∃ c1, c1 = c0 - (x5_1 : Int).toNat := ⟨_, rfl⟩
         have hy35 : y243.length = l0.length - (x5_1 : Int).toNat := (by rw [Ny243.out, List.length_drop] <;> omega)
         rw [show (l0).drop (x5_1 : Int).toNat = y243 from Ny243.out.symm] at hr35
         replace hr35 : Kd.F (Kd.int .i64) _ _ A35 y243.length y243 := (by rw [hA35]; exact hr35)
         rw [← hy35, ← hA35, ← hc35] at hcut35
         have HO247 := A_.mk (show Kd.V (Kd.int .i64) 3 _ w.heap.size _ (.slice A35 y243.length c35) y243 from Kd.V_mk (by rw [hy35, hc35]; exact Nat.sub_le_sub_right hroom35 _) hr35)
         have HC247 := A_.mk (show y243.length ≤ c35 from by rw [hy35, hc35]; exact Nat.sub_le_sub_right hroom35 _)
         clear hr35 hC35 hroom35 hi035 hsz35 hc35
         have KY35 := A_.mk hy35
         have KA35 := A_.mk hA35
         clear hy35 hA35
         replace q35 := eq_true q35
         refine start_ (n := 13) (S := fun w' => True) (ds := []) (m_ 13 0) (by kernel_rfl) rfl rfl trivial (fun hHeld => ?_); refine with_tabW spec_l1Put.tab6 spec_l1Put.bits6 (fun HT_ HW_ => ?_)
         generalize wr.drew = w33 at HO_0 HB HO233 HO247 hHeld ⊢
         refine pure_ (i := 1) (N := some 34) (v := ?_) (a' := ?_) (m_ 13 2) rfl rfl (any_of HT_.out (by kernel_rfl)) (fun _ _ _ h => h) (Or.inl ⟨by rfl, ?_⟩) ?_ ?_
         rotate_left
         ·intro w'
          go_simp
          with_reducible rfl
         rotate_left
         ·simp only [Act.put, sI_, s0_, s1_, i64_w, i32_w]
          rfl
         refine pure_ (i := 2) (N := some 35) (v := ?_) (a' := ?_) (m_ 13 6) rfl rfl (any_of HT_.out (by kernel_rfl)) (fun _ _ _ h => h) (Or.inl ⟨by rfl, ?_⟩) ?_ ?_
         rotate_left
         ·intro w'
          go_simp
          with_reducible rfl
         rotate_left
         ·simp only [Act.put, sI_, s0_, s1_, i64_w, i32_w]
          rfl
         refine pure_ (i := 3) (N := some 36) (v := ?_) (a' := ?_) (m_ 13 14) rfl rfl (any_of HT_.out (by kernel_rfl)) (fun _ _ _ h => h) (Or.inl ⟨by rfl, ?_⟩) ?_ ?_
         rotate_left
         ·intro w'
          go_simp
          with_reducible rfl
         rotate_left
         ·simp only [Act.put, sI_, s0_, s1_, i64_w, i32_w]
          rfl
         refine pure_ (i := 5) (N := some 38) (v := ?_) (a' := ?_) (m_ 13 46) rfl rfl (any_of HT_.out (by kernel_rfl)) (fun _ _ _ h => h) (Or.inl ⟨by rfl, ?_⟩) ?_ ?_
         rotate_left
         ·intro w'
          go_simp
          with_reducible rfl
         rotate_left
         ·simp only [Act.put, sI_, s0_, s1_, i64_w, i32_w]
          rfl
         refine pure_ (i := 8) (N := some 41) (v := ?_) (a' := ?_) (m_ 13 302) rfl rfl (any_of HT_.out (by kernel_rfl)) (fun _ _ _ h => h) (Or.inl ⟨by rfl, ?_⟩) ?_ ?_
         rotate_left
         ·intro w'
          go_simp
          with_reducible rfl
         rotate_left
         ·simp only [Act.put, sI_, s0_, s1_, i64_w, i32_w]
          rfl
         refine pure_ (i := 9) (N := some 42) (v := ?_) (a' := ?_) (m_ 13 814) rfl rfl (any_of HT_.out (by kernel_rfl)) (fun _ _ _ h => h) (Or.inl ⟨by rfl, ?_⟩) ?_ ?_
         rotate_left
         ·intro w'
          go_simp
          with_reducible rfl
         rotate_left
         ·simp only [Act.put, sI_, s0_, s1_, i64_w, i32_w]
          rfl
         refine pure_ (i := 10) (N := some 43) (v := ?_) (a' := ?_) (m_ 13 1838) rfl rfl (any_of HT_.out (by kernel_rfl)) (fun _ _ _ h => h) (Or.inl ⟨by rfl, ?_⟩) ?_ ?_
         rotate_left
         ·intro w'
          go_simp
          with_reducible rfl
         rotate_left
         ·simp only [Act.put, sI_, s0_, s1_, i64_w, i32_w]
          rfl
         refine join_ (σ := Value × Value × Value) 3 (m_ 13 1919) (fun s_ => [(33, s_.1), (37, s_.2.1), (39, s_.2.2)]) (fun s_ w' => (Kd.V (Kd.int .i64) 3 w' w.heap.size (fun k_ => (P0_ k_ ∨ w.heap.size ≤ k_) ∧ some k_ ≠ (s_.2.1 : Value).ownBlock ∧ some k_ ≠ (s_.2.2 : Value).ownBlock) (.slice A0 y229.length c0) y229) ∧ (Kd.R (Kd.int .i64) 3 w' w.heap.size (fun k_ => (w.heap.size ≤ k_) ∧ some k_ ≠ (s_.2.2 : Value).ownBlock) s_.2.1 y234) ∧ (Kd.R (Kd.int .i64) 3 w' w.heap.size (fun k_ => (w.heap.size ≤ k_) ∧ some k_ ≠ (s_.2.1 : Value).ownBlock) s_.2.2 y237) ∧ (Kd.V (Kd.int .i64) 3 w' w.heap.size (fun k_ => (P0_ k_ ∨ w.heap.size ≤ k_) ∧ some k_ ≠ (s_.2.1 : Value).ownBlock ∧ some k_ ≠ (s_.2.2 : Value).ownBlock) (.slice A35 y243.length c35) y243) ∧ (Kd.V (Kd.int .i64) 3 w' w.heap.size (fun k_ => (P0_ k_ ∨ w.heap.size ≤ k_) ∧ some k_ ≠ (s_.2.1 : Value).ownBlock ∧ some k_ ≠ (s_.2.2 : Value).ownBlock) (.slice A0 l0.length c0) l0) ∧ (Below w.heap.size w w')) ?_ ?_
         rotate_left
         ·intro hCont
          refine two_ (i := 0) (j := 6) (Ni := some 33) (Nj := some 39) (m_ 13 1839) (m_ 13 1902) rfl rfl rfl rfl (two_of HT_.out (by kernel_rfl)) (by decide) (by decide) (fun K hK => ?_) (fun K hK => ?_)
          ·refine Kd.R_lit_step (Kd.int .i64) _ 3 ?hg (N := 33) ?hd (xs := ([] : List Int)) (inner := []) (ok := fun _ => True) (okp := fun _ => True) ?hr ?hp (fun _ hk => hk) trivial (Below.refl _ _) (Nat.le_refl _) (by simp) ?_; (case hd => rfl); (case hg => rfl); (case hr => (go_simp; done)); (case hp => exact (Reps.none _ _))
           intro v227 w36 ho37 hb hg_ hnew_
           clear hg_ hnew_
           (rw [← Ny226.out] at ho37)
           replace HO_0 := A_.mk (Kd.V_elder' HO_0.out (Kd.R_base ho37) hb)
           replace HO233 := A_.mk (Kd.V_elder' HO233.out (Kd.R_base ho37) hb)
           replace HO247 := A_.mk (Kd.V_elder' HO247.out (Kd.R_base ho37) hb)
           have HO228 := A_.mk (Kd.R_lower (Kd.R_newM (M := fun k_ => (w.heap.size ≤ k_)) ho37 (below_size HB.out) (fun k_ h_ => h_)) (below_size HB.out))
           replace HB := A_.mk (below_step HB.out hb)
           clear hb ho37
           refine hK.out _ _ trivial (fun hHeld => ?_)
           clear hK K
           refine norm_ (a' := ?_) ?_ ?_
           rotate_left
           ·show Act.put _ (some 33) _ = _
            simp only [Act.put, sI_, s0_, s1_, i64_w, i32_w]
            rfl
           refine two_ (i := 4) (j := 6) (Ni := some 37) (Nj := some 39) (m_ 13 1855) (m_ 13 1903) rfl rfl rfl rfl (two_of HT_.out (by kernel_rfl)) (by decide) (by decide) (fun K hK => ?_) (fun K hK => ?_)
           ·refine Kd.R_append_rows_step (Kd.int .i64) (w0 := w) w.heap.size (by rfl) (.tmp 33) (.tmp 36) 22 3 (.int .i64 0) 8 rfl Tryd.underlying22 info3 rfl (by decide) (by omega) v227 y226 y229 _ _ _ (fun k_ => (w.heap.size ≤ k_)) (fun _ => False) rfl rfl ?aO ?aR (fun _ _ h => h) (fun _ h => h.elim) ?aF ?aB ?aS ?aL ?_
            (case aR => repeat (exact (Kd.V_reads' HO233.out).2.2))
            (case aB => exact HB.out)
            (case aF => exact (fun k_ hk => (Nat.le_trans (below_size HB.out) hk)))
            (case aO => exact (by (with_reducible repeat (apply Kd.R_alloc)); exact Kd.R_mono HO228.out (fun _ hk => hk.1)))
            (case aS => exact (below_size HB.out))
            (case aL => have := LMc28.out; omega)
            intro v235 w38 ho hb hg hat
            rw [← Ny234.out] at ho
            replace HO_0 := A_.mk (Kd.V_afterv (ok := (fun k_ => (P0_ k_ ∨ w.heap.size ≤ k_))) HO_0.out hg hat)
            replace HO233 := A_.mk (Kd.V_afterv (ok := (fun k_ => (P0_ k_ ∨ w.heap.size ≤ k_))) HO233.out hg hat)
            replace HO247 := A_.mk (Kd.V_afterv (ok := (fun k_ => (P0_ k_ ∨ w.heap.size ≤ k_))) HO247.out hg hat)
            replace HB := A_.mk (hb)
            have HO236 := A_.mk (ho)
            clear HO228
            clear ho hb hg hat
            refine hK.out _ _ trivial (fun hHeld => ?_)
            clear hK K
            refine norm_ (a' := ?_) ?_ ?_
            rotate_left
            ·show Act.put _ (some 37) _ = _
             simp only [Act.put, sI_, s0_, s1_, i64_w, i32_w]
             rfl
            refine one_ (i := 6) (N := some 39) (m_ 13 1919) rfl rfl (one_of HT_.out (by kernel_rfl)) (by decide) (fun K hK => ?_)
            refine Kd.R_lit_step (Kd.int .i64) _ 3 ?hg (N := 39) ?hd (xs := ([a1] : List Int)) (inner := [.int .i64 a1]) (ok := fun _ => True) (okp := fun _ => True) ?hr ?hp (fun _ hk => hk) trivial (Below.refl _ _) (Nat.le_refl _) (by simp) ?_; (case hd => rfl); (case hg => rfl); (case hr => (go_simp; done)); (case hp => exact (Reps.one (show Kd.M (Kd.int .i64) _ _ _ a1 [.int .i64 a1] from rfl) (Reps.none _ _)))
            intro v238 w39 ho40 hb hg_ hnew_
            clear hg_ hnew_
            (rw [← Ny237.out] at ho40)
            replace HO_0 := A_.mk (Kd.V_elder' HO_0.out (Kd.R_base ho40) hb)
            replace HO233 := A_.mk (Kd.V_elder' HO233.out (Kd.R_base ho40) hb)
            replace HO247 := A_.mk (Kd.V_elder' HO247.out (Kd.R_base ho40) hb)
            have HO239 := A_.mk (Kd.R_lower (Kd.R_new' (Kd.R_newM (M := fun k_ => (w.heap.size ≤ k_)) ho40 (below_size HB.out) (fun k_ h_ => h_)) (Kd.R_lt HO236.out)) (below_size HB.out))
            replace HO236 := A_.mk (Kd.R_elder' HO236.out (Kd.R_base ho40) hb)
            replace HB := A_.mk (below_step HB.out hb)
            clear hb ho40
            refine hK.out _ _ trivial (fun hHeld => ?_)
            clear hK K
            refine norm_ (a' := ?_) ?_ ?_
            rotate_left
            ·show Act.put _ (some 39) _ = _
             simp only [Act.put, sI_, s0_, s1_, i64_w, i32_w]
             rfl
            exact norm_ (by simp only [putAll, Act.put, sI_, s0_, s1_]) (hCont (v227, v235, v238) _ ⟨(by (with_reducible repeat (apply Kd.V_alloc)); exact Kd.V_mono HO233.out (fun _ hk => ⟨hk.1.1, ⟨hk.1.2, hk.2⟩⟩)), HO236.out, (by (with_reducible repeat (apply Kd.R_alloc)); exact Kd.R_mono HO239.out (fun _ hk => ⟨hk.1.1, hk.2⟩)), (by (with_reducible repeat (apply Kd.V_alloc)); exact Kd.V_mono HO247.out (fun _ hk => ⟨hk.1.1, ⟨hk.1.2, hk.2⟩⟩)), (by (with_reducible repeat (apply Kd.V_alloc)); exact Kd.V_mono HO_0.out (fun _ hk => ⟨hk.1.1, ⟨hk.1.2, hk.2⟩⟩)), HB.out⟩)
           ·refine Kd.R_lit_step (Kd.int .i64) _ 3 ?hg (N := 39) ?hd (xs := ([a1] : List Int)) (inner := [.int .i64 a1]) (ok := fun _ => True) (okp := fun _ => True) ?hr ?hp (fun _ hk => hk) trivial (Below.refl _ _) (Nat.le_refl _) (by simp) ?_; (case hd => rfl); (case hg => rfl); (case hr => (go_simp; done)); (case hp => exact (Reps.one (show Kd.M (Kd.int .i64) _ _ _ a1 [.int .i64 a1] from rfl) (Reps.none _ _)))
            intro v238 w38 ho39 hb hg_ hnew_
            clear hg_ hnew_
            (rw [← Ny237.out] at ho39)
            replace HO_0 := A_.mk (Kd.V_elder' HO_0.out (Kd.R_base ho39) hb)
            replace HO233 := A_.mk (Kd.V_elder' HO233.out (Kd.R_base ho39) hb)
            replace HO247 := A_.mk (Kd.V_elder' HO247.out (Kd.R_base ho39) hb)
            have HO239 := A_.mk (Kd.R_lower (Kd.R_new' (Kd.R_newM (M := fun k_ => (w.heap.size ≤ k_)) ho39 (below_size HB.out) (fun k_ h_ => h_)) (Kd.R_lt HO228.out)) (below_size HB.out))
            replace HO228 := A_.mk (Kd.R_elder' HO228.out (Kd.R_base ho39) hb)
            replace HB := A_.mk (below_step HB.out hb)
            clear hb ho39
            refine hK.out _ _ trivial (fun hHeld => ?_)
            clear hK K
            refine norm_ (a' := ?_) ?_ ?_
            rotate_left
            ·show Act.put _ (some 39) _ = _
             simp only [Act.put, sI_, s0_, s1_, i64_w, i32_w]
             rfl
            refine one_ (i := 4) (N := some 37) (m_ 13 1919) rfl rfl (one_of HT_.out (by kernel_rfl)) (by decide) (fun K hK => ?_)
            refine Kd.R_append_rows_step (Kd.int .i64) (w0 := w) w.heap.size (by rfl) (.tmp 33) (.tmp 36) 22 3 (.int .i64 0) 8 rfl Tryd.underlying22 info3 rfl (by decide) (by omega) v227 y226 y229 _ _ _ (fun k_ => (w.heap.size ≤ k_) ∧ some k_ ≠ (v238 : Value).ownBlock) (fun _ => False) rfl rfl ?aO ?aR (fun _ _ h => h) (fun _ h => h.elim) ?aF ?aB ?aS ?aL ?_
            (case aR => repeat (exact (Kd.V_reads' HO233.out).2.2))
            (case aB => exact HB.out)
            (case aF => exact (fun k_ hk => ⟨(Nat.le_trans (below_size HB.out) hk), Kd.fresh' (Kd.R_lt HO239.out) k_ hk⟩))
            (case aO => exact (by (with_reducible repeat (apply Kd.R_alloc)); exact Kd.R_mono HO228.out (fun _ hk => ⟨hk.1.1, hk.2⟩)))
            (case aS => exact (below_size HB.out))
            (case aL => have := LMc28.out; omega)
            intro v235 w40 ho hb hg hat
            rw [← Ny234.out] at ho
            replace HO_0 := A_.mk (Kd.V_afterv (ok := (fun k_ => (P0_ k_ ∨ w.heap.size ≤ k_) ∧ some k_ ≠ (v238 : Value).ownBlock)) (by (with_reducible repeat (apply Kd.V_alloc)); exact Kd.V_mono HO_0.out (fun _ hk => ⟨⟨hk.1.1, hk.2⟩, hk.1.2⟩)) hg hat)
            replace HO233 := A_.mk (Kd.V_afterv (ok := (fun k_ => (P0_ k_ ∨ w.heap.size ≤ k_) ∧ some k_ ≠ (v238 : Value).ownBlock)) (by (with_reducible repeat (apply Kd.V_alloc)); exact Kd.V_mono HO233.out (fun _ hk => ⟨⟨hk.1.1, hk.2⟩, hk.1.2⟩)) hg hat)
            replace HO247 := A_.mk (Kd.V_afterv (ok := (fun k_ => (P0_ k_ ∨ w.heap.size ≤ k_) ∧ some k_ ≠ (v238 : Value).ownBlock)) (by (with_reducible repeat (apply Kd.V_alloc)); exact Kd.V_mono HO247.out (fun _ hk => ⟨⟨hk.1.1, hk.2⟩, hk.1.2⟩)) hg hat)
            replace HO239 := A_.mk (Kd.R_after (ok := (fun k_ => (w.heap.size ≤ k_))) (by (with_reducible repeat (apply Kd.R_alloc)); exact Kd.R_mono HO239.out (fun _ hk => ⟨hk.1.1, hk.2⟩)) hg hat)
            replace HB := A_.mk (hb)
            have HO236 := A_.mk (ho)
            clear HO228
            clear ho hb hg hat
            refine hK.out _ _ trivial (fun hHeld => ?_)
            clear hK K
            refine norm_ (a' := ?_) ?_ ?_
            rotate_left
            ·show Act.put _ (some 37) _ = _
             simp only [Act.put, sI_, s0_, s1_, i64_w, i32_w]
             rfl
            exact norm_ (by simp only [putAll, Act.put, sI_, s0_, s1_]) (hCont (v227, v235, v238) _ ⟨(by (with_reducible repeat (apply Kd.V_alloc)); exact Kd.V_mono HO233.out (fun _ hk => ⟨hk.1.1, ⟨hk.2, hk.1.2⟩⟩)), HO236.out, HO239.out, (by (with_reducible repeat (apply Kd.V_alloc)); exact Kd.V_mono HO247.out (fun _ hk => ⟨hk.1.1, ⟨hk.2, hk.1.2⟩⟩)), (by (with_reducible repeat (apply Kd.V_alloc)); exact Kd.V_mono HO_0.out (fun _ hk => ⟨hk.1.1, ⟨hk.2, hk.1.2⟩⟩)), HB.out⟩)
          ·refine Kd.R_lit_step (Kd.int .i64) _ 3 ?hg (N := 39) ?hd (xs := ([a1] : List Int)) (inner := [.int .i64 a1]) (ok := fun _ => True) (okp := fun _ => True) ?hr ?hp (fun _ hk => hk) trivial (Below.refl _ _) (Nat.le_refl _) (by simp) ?_; (case hd => rfl); (case hg => rfl); (case hr => (go_simp; done)); (case hp => exact (Reps.one (show Kd.M (Kd.int .i64) _ _ _ a1 [.int .i64 a1] from rfl) (Reps.none _ _)))
           intro v238 w36 ho37 hb hg_ hnew_
           clear hg_ hnew_
           (rw [← Ny237.out] at ho37)
           replace HO_0 := A_.mk (Kd.V_elder' HO_0.out (Kd.R_base ho37) hb)
           replace HO233 := A_.mk (Kd.V_elder' HO233.out (Kd.R_base ho37) hb)
           replace HO247 := A_.mk (Kd.V_elder' HO247.out (Kd.R_base ho37) hb)
           have HO239 := A_.mk (Kd.R_lower (Kd.R_newM (M := fun k_ => (w.heap.size ≤ k_)) ho37 (below_size HB.out) (fun k_ h_ => h_)) (below_size HB.out))
           replace HB := A_.mk (below_step HB.out hb)
           clear hb ho37
           refine hK.out _ _ trivial (fun hHeld => ?_)
           clear hK K
           refine norm_ (a' := ?_) ?_ ?_
           rotate_left
           ·show Act.put _ (some 39) _ = _
            simp only [Act.put, sI_, s0_, s1_, i64_w, i32_w]
            rfl
           refine one_ (i := 0) (N := some 33) (m_ 13 1903) rfl rfl (one_of HT_.out (by kernel_rfl)) (by decide) (fun K hK => ?_)
           refine Kd.R_lit_step (Kd.int .i64) _ 3 ?hg (N := 33) ?hd (xs := ([] : List Int)) (inner := []) (ok := fun _ => True) (okp := fun _ => True) ?hr ?hp (fun _ hk => hk) trivial (Below.refl _ _) (Nat.le_refl _) (by simp) ?_; (case hd => rfl); (case hg => rfl); (case hr => (go_simp; done)); (case hp => exact (Reps.none _ _))
           intro v227 w38 ho39 hb hg_ hnew_
           clear hg_ hnew_
           (rw [← Ny226.out] at ho39)
           replace HO_0 := A_.mk (Kd.V_elder' HO_0.out (Kd.R_base ho39) hb)
           replace HO233 := A_.mk (Kd.V_elder' HO233.out (Kd.R_base ho39) hb)
           replace HO247 := A_.mk (Kd.V_elder' HO247.out (Kd.R_base ho39) hb)
           have HO228 := A_.mk (Kd.R_lower (Kd.R_new' (Kd.R_newM (M := fun k_ => (w.heap.size ≤ k_)) ho39 (below_size HB.out) (fun k_ h_ => h_)) (Kd.R_lt HO239.out)) (below_size HB.out))
           replace HO239 := A_.mk (Kd.R_elder' HO239.out (Kd.R_base ho39) hb)
           replace HB := A_.mk (below_step HB.out hb)
           clear hb ho39
           refine hK.out _ _ trivial (fun hHeld => ?_)
           clear hK K
           refine norm_ (a' := ?_) ?_ ?_
           rotate_left
           ·show Act.put _ (some 33) _ = _
            simp only [Act.put, sI_, s0_, s1_, i64_w, i32_w]
            rfl
           refine one_ (i := 4) (N := some 37) (m_ 13 1919) rfl rfl (one_of HT_.out (by kernel_rfl)) (by decide) (fun K hK => ?_)
           refine Kd.R_append_rows_step (Kd.int .i64) (w0 := w) w.heap.size (by rfl) (.tmp 33) (.tmp 36) 22 3 (.int .i64 0) 8 rfl Tryd.underlying22 info3 rfl (by decide) (by omega) v227 y226 y229 _ _ _ (fun k_ => (w.heap.size ≤ k_) ∧ some k_ ≠ (v238 : Value).ownBlock) (fun _ => False) rfl rfl ?aO ?aR (fun _ _ h => h) (fun _ h => h.elim) ?aF ?aB ?aS ?aL ?_
           (case aR => repeat (exact (Kd.V_reads' HO233.out).2.2))
           (case aB => exact HB.out)
           (case aF => exact (fun k_ hk => ⟨(Nat.le_trans (below_size HB.out) hk), Kd.fresh' (Kd.R_lt HO239.out) k_ hk⟩))
           (case aO => exact (by (with_reducible repeat (apply Kd.R_alloc)); exact Kd.R_mono HO228.out (fun _ hk => ⟨hk.1.1, hk.2⟩)))
           (case aS => exact (below_size HB.out))
           (case aL => have := LMc28.out; omega)
           intro v235 w40 ho hb hg hat
           rw [← Ny234.out] at ho
           replace HO_0 := A_.mk (Kd.V_afterv (ok := (fun k_ => (P0_ k_ ∨ w.heap.size ≤ k_) ∧ some k_ ≠ (v238 : Value).ownBlock)) HO_0.out hg hat)
           replace HO233 := A_.mk (Kd.V_afterv (ok := (fun k_ => (P0_ k_ ∨ w.heap.size ≤ k_) ∧ some k_ ≠ (v238 : Value).ownBlock)) HO233.out hg hat)
           replace HO247 := A_.mk (Kd.V_afterv (ok := (fun k_ => (P0_ k_ ∨ w.heap.size ≤ k_) ∧ some k_ ≠ (v238 : Value).ownBlock)) HO247.out hg hat)
           replace HO239 := A_.mk (Kd.R_after (ok := (fun k_ => (w.heap.size ≤ k_))) (by (with_reducible repeat (apply Kd.R_alloc)); exact Kd.R_mono HO239.out (fun _ hk => ⟨hk.1.1, hk.2⟩)) hg hat)
           replace HB := A_.mk (hb)
           have HO236 := A_.mk (ho)
           clear HO228
           clear ho hb hg hat
           refine hK.out _ _ trivial (fun hHeld => ?_)
           clear hK K
           refine norm_ (a' := ?_) ?_ ?_
           rotate_left
           ·show Act.put _ (some 37) _ = _
            simp only [Act.put, sI_, s0_, s1_, i64_w, i32_w]
            rfl
           exact norm_ (by simp only [putAll, Act.put, sI_, s0_, s1_]) (hCont (v227, v235, v238) _ ⟨(by (with_reducible repeat (apply Kd.V_alloc)); exact Kd.V_mono HO233.out (fun _ hk => ⟨hk.1.1, ⟨hk.2, hk.1.2⟩⟩)), HO236.out, HO239.out, (by (with_reducible repeat (apply Kd.V_alloc)); exact Kd.V_mono HO247.out (fun _ hk => ⟨hk.1.1, ⟨hk.2, hk.1.2⟩⟩)), (by (with_reducible repeat (apply Kd.V_alloc)); exact Kd.V_mono HO_0.out (fun _ hk => ⟨hk.1.1, ⟨hk.2, hk.1.2⟩⟩)), HB.out⟩)
         rintro ⟨v227, v235, v238⟩ w41 ⟨h0_, h1_, h2_, h3_, h4_, h5_⟩
         have n0_ : A_ (Kd.V (Kd.int .i64) 3 w41 w.heap.size (fun k_ => (P0_ k_ ∨ w.heap.size ≤ k_) ∧ some k_ ≠ (v235 : Value).ownBlock ∧ some k_ ≠ (v238 : Value).ownBlock) (.slice A0 y229.length c0) y229) := ⟨h0_⟩
         have n1_ : A_ (Kd.R (Kd.int .i64) 3 w41 w.heap.size (fun k_ => (w.heap.size ≤ k_) ∧ some k_ ≠ (v238 : Value).ownBlock) v235 y234) := ⟨h1_⟩
         have n2_ : A_ (Kd.R (Kd.int .i64) 3 w41 w.heap.size (fun k_ => (w.heap.size ≤ k_) ∧ some k_ ≠ (v235 : Value).ownBlock) v238 y237) := ⟨h2_⟩
         have n3_ : A_ (Kd.V (Kd.int .i64) 3 w41 w.heap.size (fun k_ => (P0_ k_ ∨ w.heap.size ≤ k_) ∧ some k_ ≠ (v235 : Value).ownBlock ∧ some k_ ≠ (v238 : Value).ownBlock) (.slice A35 y243.length c35) y243) := ⟨h3_⟩
         have n4_ : A_ (Kd.V (Kd.int .i64) 3 w41 w.heap.size (fun k_ => (P0_ k_ ∨ w.heap.size ≤ k_) ∧ some k_ ≠ (v235 : Value).ownBlock ∧ some k_ ≠ (v238 : Value).ownBlock) (.slice A0 l0.length c0) l0) := ⟨h4_⟩
         have n5_ : A_ (Below w.heap.size w w41) := ⟨h5_⟩
         clear HO_0
         clear HB
         clear h0_ h1_ h2_ h3_ h4_ h5_
         have HO233 := n0_
         have HO236 := n1_
         have HO239 := n2_
         have HO247 := n3_
         have HO_0 := n4_
         have HB := n5_
         clear n0_ n1_ n2_ n3_ n4_ n5_
         have hHeld := trivial
         obtain ⟨Ao43, co43, eo43⟩ := Kd.R_slice HO239.out
         (subst eo43)
         refine norm_ (a' := ?_) ?_ ?_
         rotate_left
         ·simp only [putAll, Act.put, sI_, s0_, s1_]
          rfl
         refine one_ (i := 7) (N := some 40) (m_ 13 2047) rfl rfl (one_of HT_.out (by kernel_rfl)) (by decide) (fun K hK => ?_)
         refine Kd.R_append_rows_step (Kd.int .i64) (w0 := w) w.heap.size (by rfl) (.tmp 37) (.tmp 39) 22 3 (.int .i64 0) 8 rfl Tryd.underlying22 info3 rfl (by decide) (by omega) v235 y234 y237 _ _ _ (fun k_ => (w.heap.size ≤ k_) ∧ some k_ ≠ (.slice Ao43 y237.length co43 : Value).ownBlock) (fun _ => False) rfl rfl ?aO ?aR (fun _ _ h => h) (fun _ h => h.elim) ?aF ?aB ?aS ?aL ?_
         (case aR => repeat (exact (Kd.R_reads' HO239.out).2.2))
         (case aB => exact HB.out)
         (case aF => exact (fun k_ hk => ⟨(Nat.le_trans (below_size HB.out) hk), Kd.fresh' (Kd.R_lt HO239.out) k_ hk⟩))
         (case aO => exact HO236.out)
         (case aS => exact (below_size HB.out))
         (case aL => have := LMc29.out; omega)
         intro v241 w42 ho hb hg hat
         rw [← Ny240.out] at ho
         replace HO_0 := A_.mk (Kd.V_afterv (ok := (fun k_ => (P0_ k_ ∨ w.heap.size ≤ k_) ∧ some k_ ≠ (.slice Ao43 y237.length co43 : Value).ownBlock)) (by (with_reducible repeat (apply Kd.V_alloc)); exact Kd.V_mono HO_0.out (fun _ hk => ⟨⟨hk.1, hk.2.2⟩, hk.2.1⟩)) hg hat)
         replace HO233 := A_.mk (Kd.V_afterv (ok := (fun k_ => (P0_ k_ ∨ w.heap.size ≤ k_) ∧ some k_ ≠ (.slice Ao43 y237.length co43 : Value).ownBlock)) (by (with_reducible repeat (apply Kd.V_alloc)); exact Kd.V_mono HO233.out (fun _ hk => ⟨⟨hk.1, hk.2.2⟩, hk.2.1⟩)) hg hat)
         replace HO247 := A_.mk (Kd.V_afterv (ok := (fun k_ => (P0_ k_ ∨ w.heap.size ≤ k_) ∧ some k_ ≠ (.slice Ao43 y237.length co43 : Value).ownBlock)) (by (with_reducible repeat (apply Kd.V_alloc)); exact Kd.V_mono HO247.out (fun _ hk => ⟨⟨hk.1, hk.2.2⟩, hk.2.1⟩)) hg hat)
         replace HO239 := A_.mk (Kd.R_after (ok := (fun k_ => (w.heap.size ≤ k_))) HO239.out hg hat)
         replace HB := A_.mk (hb)
         have HO242 := A_.mk (ho)
         clear HO236
         clear ho hb hg hat
         refine hK.out _ _ trivial (fun hHeld => ?_)
         clear hK K
         refine norm_ (a' := ?_) ?_ ?_
         rotate_left
         ·show Act.put _ (some 40) _ = _
          simp only [Act.put, sI_, s0_, s1_, i64_w, i32_w]
          rfl
         refine one_ (i := 11) (N := some 44) (m_ 13 4095) rfl rfl (one_of HT_.out (by kernel_rfl)) (by decide) (fun K hK => ?_)
         refine Kd.R_append_rows_step (Kd.int .i64) (w0 := w) w.heap.size (by rfl) (.tmp 40) (.tmp 43) 22 3 (.int .i64 0) 8 rfl Tryd.underlying22 info3 rfl (by decide) (by omega) v241 y240 y243 _ _ _ (fun k_ => (w.heap.size ≤ k_) ∧ some k_ ≠ (.slice Ao43 y237.length co43 : Value).ownBlock) (fun _ => False) rfl rfl ?aO ?aR (fun _ _ h => h) (fun _ h => h.elim) ?aF ?aB ?aS ?aL ?_
         (case aR => repeat (exact (Kd.V_reads' HO247.out).2.2))
         (case aB => exact HB.out)
         (case aF => exact (fun k_ hk => ⟨(Nat.le_trans (below_size HB.out) hk), Kd.fresh' (Kd.R_lt HO239.out) k_ hk⟩))
         (case aO => exact HO242.out)
         (case aS => exact (below_size HB.out))
         (case aL => have := LMc32.out; omega)
         intro v249 w44 ho hb hg hat
         rw [← Ny248.out] at ho
         replace HO_0 := A_.mk (Kd.V_afterv (ok := (fun k_ => (P0_ k_ ∨ w.heap.size ≤ k_) ∧ some k_ ≠ (.slice Ao43 y237.length co43 : Value).ownBlock)) HO_0.out hg hat)
         replace HO233 := A_.mk (Kd.V_afterv (ok := (fun k_ => (P0_ k_ ∨ w.heap.size ≤ k_) ∧ some k_ ≠ (.slice Ao43 y237.length co43 : Value).ownBlock)) HO233.out hg hat)
         replace HO247 := A_.mk (Kd.V_afterv (ok := (fun k_ => (P0_ k_ ∨ w.heap.size ≤ k_) ∧ some k_ ≠ (.slice Ao43 y237.length co43 : Value).ownBlock)) HO247.out hg hat)
         replace HO239 := A_.mk (Kd.R_after (ok := (fun k_ => (w.heap.size ≤ k_))) HO239.out hg hat)
         replace HB := A_.mk (hb)
         have HO250 := A_.mk (ho)
         clear HO242
         clear ho hb hg hat
         refine hK.out _ _ trivial (fun hHeld => ?_)
         clear hK K
         refine norm_ (a' := ?_) ?_ ?_
         rotate_left
         ·show Act.put _ (some 44) _ = _
          simp only [Act.put, sI_, s0_, s1_, i64_w, i32_w]
          rfl
         refine pure_ (i := 12) (N := some 4) (v := ?_) (a' := ?_) (m_ 13 8191) rfl rfl (any_of HT_.out (by kernel_rfl)) (fun _ _ _ h => h) (Or.inl ⟨by rfl, ?_⟩) ?_ ?_
         rotate_left
         ·intro w'
          go_simp
          with_reducible rfl
         rotate_left
         ·simp only [Act.put, sI_, s0_, s1_, i64_w, i32_w]
          rfl
         refine done_ (done_of HT_.out (by kernel_rfl)) ?_
         try go_wp2
         go_ret
         exact ⟨_, by rfl, .inr (Kd.R_mono (by (with_reducible repeat (apply Kd.R_alloc)); exact Kd.R_mono HO250.out (fun _ hk => hk.1)) (fun _ _ => trivial)), by repeat ((with_reducible (exact HB.out)))⟩
        ·rw [if_neg c32] at H
         exact absurd H (by simp)
       ·rw [if_neg c29] at H
        exact absurd H (by simp)
      ·rw [if_neg c28] at H
       exact absurd H (by simp)
     ·rw [if_neg c27] at H
      exact absurd H (by simp)
    ·rw [if_neg c26] at H
     exact absurd H (by simp)

end Go.Proofs.YtihifglmnjocfaaDoor.PFnExactChanceOfFinal
