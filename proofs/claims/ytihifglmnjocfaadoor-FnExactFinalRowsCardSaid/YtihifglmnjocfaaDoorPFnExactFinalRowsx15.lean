/- Given functions as plain Lean functions, and that their calls answer these. -/
import Derived.Test.YtihifglmnjocfaaDoorPFnExactFinalRowsx0
import Derived.Test.YtihifglmnjocfaaDoorPFnExactFinalRowsx1
import Derived.Test.YtihifglmnjocfaaDoorPFnExactFinalRowsx10
import Derived.Test.YtihifglmnjocfaaDoorPFnExactFinalRowsx13
import Derived.Test.YtihifglmnjocfaaDoorPFnExactFinalRowsx14
namespace Go.Proofs.YtihifglmnjocfaaDoor.PFnExactFinalRows
open Go.RowKit Go.Proofs.YtihifglmnjocfaaDoorW.PrintWords Go.Proofs.YtihifglmnjocfaaDoorW.PrintLast Go.Proofs.YtihifglmnjocfaaDoorW.PrintMore
attribute [local go_sem] max2_int min2_int max_two min_two max_three min_three max_four min_four
set_option maxHeartbeats 8000000
set_option maxRecDepth 100000
set_option linter.unusedVariables false
set_option linter.unusedSimpArgs false

/-! ### laws_markRowS: function 17 -/
set_option linter.unnecessarySimpa false
/-- Rows, marked one after the other. -/
def markRs (k : Nat) : List S29 → Int → Option (Int × List S29)
 | [], m => some (m, [])
 | s :: ss, m => (laws_markIntS.f k s.f2 (wrap64 (wrap64 (m + 1) + 1))).bind fun p => (markRs k ss p.1).bind fun q => some (q.1, ⟨m, Int.tmod (wrap64 (m + 1)) 3 == 0, p.2⟩ :: q.2)
theorem grown_of {w0 W w1 : World} {row : Option Nat} (h0 : Below w0.heap.size w0 W) (h1 : Below w0.heap.size w0 w1) (hk : Kept W w1 (fun k => some k = row)) : W.grownBy w1 row :=
 ⟨h1.os.trans h0.os.symm, h1.tape.trans h0.tape.symm, h1.output.trans h0.output.symm, hk.1, fun k hk' hne => hk.2 k hk' hne⟩
theorem markRs_calls (k : Nat) (P : Nat → Prop) (v : Value) (L : List S29) (m mf : Int) (L' : List S29) (w0 w : World) (hB : Below w0.heap.size w0 w) (hs : Kd.S k29 29 w w0.heap.size P v L) (hl : L.length ≤ 1000000) (h : markRs k L m = some (mf, L')) :
  Calls Tryd.prog 17 #[v, .int .i64 m] w fun e w' => e = .returned (.int .i64 mf) ∧ Kd.S k29 29 w' w0.heap.size P v L' ∧ Below w0.heap.size w0 w' := by
 have hu29 := Tryd.underlying29
 have hu34 := Tryd.underlying34
 obtain ⟨A, c, ev⟩ := Kd.S_slice hs
 subst ev
 have HS := A_.mk hs
 have HB := A_.mk hB
 have HH := A_.mk h
 have HL := A_.mk hl
 clear hs hB h hl
 go_enter Tryd.func17, Tryd.ntmps17
 go_wp2
 go_loopg [1, 5] (L.length + 1) (fun kq v1 v5 w' => ∃ (i : Nat) (mi : Int) (D Rf : List S29), v5 = .int .i64 (i : Int) ∧ v1 = .int .i64 mi ∧ D.length = i ∧ i + kq = L.length + 1 ∧ i ≤ L.length ∧ A_ (markRs k (L.drop i) mi = some (mf, Rf)) ∧ A_ (D ++ Rf = L') ∧ A_ (Kd.S k29 29 w' w0.heap.size P (.slice A L.length c) (D ++ L.drop i)) ∧ A_ (Below w0.heap.size w0 w'))
 case atStart => exact ⟨0, m, [], L', rfl, rfl, rfl, by omega, by omega, ⟨by rw [List.drop_zero]; exact HH.out⟩, ⟨rfl⟩, ⟨by rw [List.drop_zero]; exact HS.out⟩, HB⟩
 case round =>
  obtain ⟨i, mi, D, Rf, rfl, rfl, hD, hik, hi, HMi, HEi, HSi, HBi⟩ := hrel
  cases gk with
  | zero => omega
  | succ k1 =>
  by_cases hlt : i < L.length
  ·have c5 : decide ((i : Int) < (L.length : Int)) = true := decide_eq_true (by omega)
   have hM := HMi.out
   rw [List.drop_eq_getElem_cons hlt] at hM
   simp only [markRs] at hM
   obtain ⟨⟨m1, l1⟩, h1, hM⟩ := Option.bind_eq_some_iff.mp hM
   obtain ⟨⟨m2, R2⟩, h2, hM⟩ := Option.bind_eq_some_iff.mp hM
   simp only [Option.some.injEq, Prod.mk.injEq] at hM
   obtain ⟨rfl, rfl⟩ := hM
   have hlen : (D ++ L.drop i).length = L.length := by simp; omega
   obtain ⟨g, cap, ev, hgb, hgl, -⟩ := Kd.S_form HSi.out (by omega)
   injection ev with ev1 ev2 ev3
   subst ev1
   obtain ⟨oki, cs, hcl, hMi, hcc, hoki, hH⟩ := Kd.S_lend HSi.out z29 (i : Int) (by omega) (by omega)
   have hget : (D ++ L.drop i).getD (i : Int).toNat z29 = L[i] := by
    rw [Int.toNat_natCast, List.getD_eq_getElem?_getD, List.getElem?_append_right (by omega), hD, Nat.sub_self, List.getElem?_drop]
    simp [hlt]
   rw [hget] at hMi
   obtain ⟨v2, rfl, hR2⟩ := k29_openM hMi
   obtain ⟨-, hfr⟩ := Kd.H_at hH (by omega) (by omega)
   obtain ⟨hs2, hg2⟩ := Kd.S_seg0 hH (by omega) (by omega) (seg := [.int .i64 mi, .bool (Int.tmod (wrap64 (mi + 1)) 3 == 0)]) (j := 0) (show (0 : Nat) + 2 ≤ 3 by omega) (x' := ⟨mi, Int.tmod (wrap64 (mi + 1)) 3 == 0, L[i].f2⟩) (okp := oki) (k29_mkM wr _ _ ⟨mi, Int.tmod (wrap64 (mi + 1)) 3 == 0, L[i].f2⟩ hR2) (fun _ h => h)
   have hc0 := hcc 0 _ rfl
   have hc1 := hcc 1 _ rfl
   have hf0 := hfr 0
   have hf1 := hfr 1
   rw [show k29.sz = 3 from rfl, Int.toNat_natCast] at hc0 hc1 hf0 hf1
   rw [Nat.add_zero] at hc0 hf0
   have hset : (D ++ L.drop i).set (i : Int).toNat (⟨mi, Int.tmod (wrap64 (mi + 1)) 3 == 0, L[i].f2⟩ : S29) = (D ++ [(⟨mi, Int.tmod (wrap64 (mi + 1)) 3 == 0, L[i].f2⟩ : S29)]) ++ L.drop (i + 1) := by
    rw [Int.toNat_natCast, List.drop_eq_getElem_cons hlt, List.set_append_right _ _ (by omega), hD, Nat.sub_self, List.set_cons_zero, List.append_assoc]
    rfl
   rw [hset] at hs2
   have S2 := A_.mk (show Kd.S k29 29 ((wr.setCell ⟨g, i * 3, none⟩ (.int .i64 mi)).setCell ⟨g, i * 3 + 1, none⟩ (.bool (Int.tmod (wrap64 (mi + 1)) 3 == 0))) w0.heap.size P (.slice (some ⟨g, 0, none⟩) L.length c) ((D ++ [(⟨mi, Int.tmod (wrap64 (mi + 1)) 3 == 0, L[i].f2⟩ : S29)]) ++ L.drop (i + 1)) from hs2)
   have B2 := A_.mk (show Below w0.heap.size w0 ((wr.setCell ⟨g, i * 3, none⟩ (.int .i64 mi)).setCell ⟨g, i * 3 + 1, none⟩ (.bool (Int.tmod (wrap64 (mi + 1)) 3 == 0))) from HBi.out.grown hg2 (below_size HBi.out) (fun j hj => by cases hj; exact hgb))
   have H2 := A_.mk h2
   have H1 := A_.mk h1
   have HD := A_.mk hD
   clear hcc hfr hs2 hg2 hH hMi hR2 h1 h2 hcl hoki hget hlen hgb hgl ev2 ev3 hset
   go_upto_region 8 with fail
   generalize (wr.setCell ⟨g, i * 3, none⟩ (.int .i64 mi)).setCell ⟨g, i * 3 + 1, none⟩ (.bool (Int.tmod (wrap64 (mi + 1)) 3 == 0)) = w2 at S2 B2 ⊢
   clear hc0 hc1 hf0 hf1 HSi HBi
   obtain ⟨oki, cs, hcl, hMi, hcc, hoki, hback⟩ := Kd.S_borrow S2.out z29 (i : Int) (by omega) (by omega)
   have hget : ((D ++ [(⟨mi, Int.tmod (wrap64 (mi + 1)) 3 == 0, L[i].f2⟩ : S29)]) ++ L.drop (i + 1)).getD (i : Int).toNat z29 = ⟨mi, Int.tmod (wrap64 (mi + 1)) 3 == 0, L[i].f2⟩ := by
    rw [Int.toNat_natCast, List.getD_eq_getElem?_getD, List.append_assoc, List.getElem?_append_right (by omega), hD, Nat.sub_self]
    rfl
   rw [hget] at hMi
   obtain ⟨u2, rfl, hu⟩ := k29_openM hMi
   obtain ⟨Au, cu, eu⟩ := Kd.R_slice hu
   subst eu
   have hcell : w2.cell? ⟨g, i * 3 + 2, none⟩ = some (.slice Au L[i].f2.length cu) := by
    have h := hcc 2 _ rfl
    rwa [show k29.sz = 3 from rfl, Int.toNat_natCast, add_plain] at h
   have hu0 := hu.1
   have hut := A_.mk (Kd.R_tight rfl hu)
   have HBk := A_.mk (@hback)
   have Hu0 := A_.mk hu0
   clear hback hoki hcc hu hu0 hget hMi hcl
   go_wp2_with (go_at_call 42; go_loud ((with_reducible refine (laws_markIntS.calls k (fun k_ => some k_ = (Value.slice Au L[i].f2.length cu).ownBlock) (.slice Au L[i].f2.length cu) L[i].f2 _ m1 l1 w0 _ B2.out hut.out H1.out).mono ?_); rintro e w3 ⟨rfl, hr2, hb2, hk2⟩; have S3 := A_.mk (HBk.out (x' := ⟨mi, Int.tmod (wrap64 (mi + 1)) 3 == 0, l1⟩) (grown_of B2.out hb2 hk2) (fun k hk => Hu0.out k hk) (k29_mkM _ _ _ ⟨mi, Int.tmod (wrap64 (mi + 1)) 3 == 0, l1⟩ (Kd.R_mono (Kd.R_tight rfl hr2) (fun k hk => Hu0.out k hk.symm)))); have B3 := A_.mk hb2; clear hr2 hb2 hk2))
   have hset2 : ((D ++ [(⟨mi, Int.tmod (wrap64 (mi + 1)) 3 == 0, L[i].f2⟩ : S29)]) ++ L.drop (i + 1)).set (i : Int).toNat (⟨mi, Int.tmod (wrap64 (mi + 1)) 3 == 0, l1⟩ : S29) = (D ++ [(⟨mi, Int.tmod (wrap64 (mi + 1)) 3 == 0, l1⟩ : S29)]) ++ L.drop (i + 1) := by
    rw [Int.toNat_natCast, List.append_assoc, List.set_append_right _ _ (by have := HD.out; omega), HD.out, Nat.sub_self, List.append_assoc]
    rfl
   rw [hset2] at S3
   go_roundg k1
   case measure => omega
   case rel => exact ⟨i + 1, m1, D ++ [⟨mi, Int.tmod (wrap64 (mi + 1)) 3 == 0, l1⟩], R2, by have := HL.out; rw [show wrap64 ((i : Int) + 1) = ((i + 1 : Nat) : Int) by unfold wrap64; omega], rfl, by have := HD.out; simp [this], by omega, by omega, H2, ⟨by rw [List.append_assoc]; exact HEi.out⟩, S3, B3⟩
  ·obtain rfl : i = L.length := by omega
   have c5 : decide ((L.length : Int) < (L.length : Int)) = false := decide_eq_false (by omega)
   have hM := HMi.out
   rw [List.drop_length] at hM
   simp only [markRs, Option.some.injEq, Prod.mk.injEq] at hM
   obtain ⟨rfl, rfl⟩ := hM
   have e1 := HEi.out
   rw [List.append_nil] at e1
   subst e1
   have S1 := HSi.out
   rw [List.drop_length, List.append_nil] at S1
   have S2 := A_.mk S1
   clear S1
   go_wp2
   go_ret
   exact ⟨rfl, S2.out, HBi.out⟩

/-! ### laws_heldIntS: function 43 -/
def laws_heldIntS.l0 : Nat → List Int → Int → Int → Option (Int)
 | 0, _, _, _ => none
 | k + 1, x0, x1, x5 => if x5 < (x0.length : Int) then (if 0 ≤ x5 then (if (rd x0 x5) = x1 then (laws_heldIntS.l0 k x0 (wrap64 (x1 + 1)) (wrap64 (x5 + 1))) else (some (-1))) else (none)) else (some x1)
def laws_heldIntS.f (k : Nat) (l0 : List Int) (a1 : Int) : Option (Int) := laws_heldIntS.l0 k l0 a1 0
theorem laws_heldIntS.mono_l : ∀ k, (∀ y0 y1 y2, LeO (laws_heldIntS.l0 k y0 y1 y2) (laws_heldIntS.l0 (k + 1) y0 y1 y2))
 | 0 => fun _ _ _ r h => by simp [laws_heldIntS.l0] at h
 | k + 1 => by
  have ih0 := laws_heldIntS.mono_l k
  ·intro y0 y1 y2
   unfold laws_heldIntS.l0
   repeat' first
   | (with_reducible exact ih0 _ _ _)
   | (with_reducible exact LeO.refl _)
   | (with_reducible exact LeO.none _)
   | (with_reducible refine LeO.ite ?_ ?_)
   | (with_reducible refine LeO.bind ?_ (fun _ => ?_))
   | exact ih0 _ _ _
   | exact LeO.none _
   | refine LeO.ite ?_ ?_
   | refine LeO.bind ?_ (fun _ => ?_)
theorem laws_heldIntS.mono : ∀ a0 a1 k, LeO (laws_heldIntS.f k a0 a1) (laws_heldIntS.f (k + 1) a0 a1) := by
 intro a0 a1 k
 have ih0 := laws_heldIntS.mono_l k
 unfold laws_heldIntS.f
 repeat' first
   | (with_reducible exact ih0 _ _ _)
   | (with_reducible exact LeO.refl _)
   | (with_reducible exact LeO.none _)
   | (with_reducible refine LeO.ite ?_ ?_)
   | (with_reducible refine LeO.bind ?_ (fun _ => ?_))
   | exact ih0 _ _ _
   | exact LeO.none _
   | refine LeO.ite ?_ ?_
   | refine LeO.bind ?_ (fun _ => ?_)
theorem laws_heldIntS.calls (k : Nat) (A0 : Option Addr) (c0 : Nat) (l0 : List Int) (a1 : Int) (r : Int) (w : World) (hr0 : Kd.C (Kd.int .i64) w A0 l0.length l0) (hc0 : l0.length ≤ c0) (h : laws_heldIntS.f k l0 a1 = some r) :
  Calls Tryd.prog 43 #[.slice A0 l0.length c0, .int .i64 a1] w fun e w' => e = .returned (.int .i64 r) ∧ Drawn0 w w' := by
 have HR0 := A_.mk hr0
 have HC0 := A_.mk hc0
 clear hr0 hc0
 have H : (laws_heldIntS.l0 k l0 a1 0) = some r := h
 clear h
 have H' := A_.mk H
 clear H
 go_enter Tryd.func43, Tryd.ntmps43
 go_wp2
 go_loopg [1, 5] k (fun kq v1 v5 w' => ∃ (x1_1 : Int) (x5_1 : Int), v1 = .int .i64 x1_1 ∧ v5 = .int .i64 x5_1 ∧ A_ (laws_heldIntS.l0 kq l0 x1_1 x5_1 = some r) ∧ A_ (kq ≤ k) ∧ Drawn0 w w')
 case atStart => exact ⟨(a1), (0), (by rfl), (by rfl), H', ⟨Nat.le_refl _⟩, by repeat (exact Drawn0.refl _)⟩
 case round =>
  clear H'
  try clear p2
  obtain ⟨x1_1, x5_1, rfl, rfl, HA, HK1, ⟨m1, rfl⟩⟩ := hrel
  cases gk with
  | zero => exact absurd HA.out (by simp [laws_heldIntS.l0])
  | succ k1 =>
   have H := HA.out
   clear HA
   simp only [laws_heldIntS.l0] at H
   by_cases c3 : x5_1 < (l0.length : Int)
   ·rw [if_pos c3] at H
    have c3b0 : decide (x5_1 < (l0.length : Int)) = true := decide_eq_true c3
    clear c3
    by_cases c4 : 0 ≤ x5_1
    ·rw [if_pos c4] at H
     have c4b0 : decide (0 ≤ x5_1) = true := decide_eq_true c4
     clear c4
     by_cases c5 : (rd l0 x5_1) = x1_1
     ·rw [if_pos c5] at H
      have c5b0 : ((rd l0 x5_1) == x1_1) = true := beq_iff_eq.mpr c5
      have c5b1 : ((rd l0 x5_1) != x1_1) = false := bne_eq_false_iff_eq.mpr c5
      clear c5
      have H' := A_.mk H
      clear H
      have p354 : 0 ≤ (x5_1 : Int) := of_decide_eq_true (by (with_reducible assumption))
      have q354 : x5_1 < (l0.length : Int) := of_decide_eq_true (by (with_reducible assumption))
      skip
      obtain ⟨ad354, e354, hx354_0⟩ := Kd.at_int HR0.out x5_1 p354 q354
      cases e354
      replace p354 := eq_true p354
      replace q354 := eq_true q354
      go_wp2
      go_roundg k1
      case measure => have := HK1.out; omega
      case rel => exact ⟨(wrap64 (x1_1 + 1)), (wrap64 (x5_1 + 1)), (by rfl), (by rfl), H', ⟨by have := HK1.out; omega⟩, by repeat (first | exact Drawn0.refl _ | apply Drawn0.step)⟩
     ·rw [if_neg c5] at H
      have c5b0 : ((rd l0 x5_1) == x1_1) = false := beq_eq_false_iff_ne.mpr c5
      have c5b1 : ((rd l0 x5_1) != x1_1) = true := bne_iff_ne.mpr c5
      obtain rfl := Option.some.inj H
      have p354 : 0 ≤ (x5_1 : Int) := of_decide_eq_true (by (with_reducible assumption))
      have q354 : x5_1 < (l0.length : Int) := of_decide_eq_true (by (with_reducible assumption))
      skip
      obtain ⟨ad354, e354, hx354_0⟩ := Kd.at_int HR0.out x5_1 p354 q354
      cases e354
      replace p354 := eq_true p354
      replace q354 := eq_true q354
      go_wp2
      go_ret
      exact ⟨by rfl, by repeat (first | exact Drawn0.refl _ | apply Drawn0.step)⟩
    ·rw [if_neg c4] at H
     exact absurd H (by simp)
   ·rw [if_neg c3] at H
    have c3b0 : decide (x5_1 < (l0.length : Int)) = false := decide_eq_false c3
    clear c3
    obtain rfl := Option.some.inj H
    go_wp2
    go_ret
    exact ⟨by rfl, by repeat (first | exact Drawn0.refl _ | apply Drawn0.step)⟩

/-! ### laws_heldRowS: function 18 -/
def laws_heldRowS.l0 : Nat → List (S29) → Int → Int → Option (Int)
 | 0, _, _, _ => none
 | k + 1, x0, x1, x5 => if x5 < (x0.length : Int) then (if 0 ≤ x5 then (if ((rd_T29 x0 x5).f0) = x1 then (if (((rd_T29 x0 x5).f1) != ((Int.tmod (wrap64 (x1 + 1)) 3) == 0)) = true then (some (-1)) else ((laws_heldIntS.f k ((rd_T29 x0 x5).f2) (wrap64 ((wrap64 (x1 + 1)) + 1))).bind fun t358 => (if t358 < 0 then (some (-1)) else (laws_heldRowS.l0 k x0 t358 (wrap64 (x5 + 1)))))) else (some (-1))) else (none)) else (some x1)
def laws_heldRowS.f (k : Nat) (l0 : List (S29)) (a1 : Int) : Option (Int) := laws_heldRowS.l0 k l0 a1 0
theorem laws_heldRowS.mono_l : ∀ k, (∀ y0 y1 y2, LeO (laws_heldRowS.l0 k y0 y1 y2) (laws_heldRowS.l0 (k + 1) y0 y1 y2))
 | 0 => fun _ _ _ r h => by simp [laws_heldRowS.l0] at h
 | k + 1 => by
  have ih0 := laws_heldRowS.mono_l k
  ·intro y0 y1 y2
   unfold laws_heldRowS.l0
   repeat' first
   | (with_reducible exact ih0 _ _ _)
   | (with_reducible exact laws_heldIntS.mono _ _ _)
   | (with_reducible exact LeO.refl _)
   | (with_reducible exact LeO.none _)
   | (with_reducible refine LeO.ite ?_ ?_)
   | (with_reducible refine LeO.bind ?_ (fun _ => ?_))
   | exact ih0 _ _ _
   | exact laws_heldIntS.mono _ _ _
   | exact LeO.none _
   | refine LeO.ite ?_ ?_
   | refine LeO.bind ?_ (fun _ => ?_)
theorem laws_heldRowS.mono : ∀ a0 a1 k, LeO (laws_heldRowS.f k a0 a1) (laws_heldRowS.f (k + 1) a0 a1) := by
 intro a0 a1 k
 have ih0 := laws_heldRowS.mono_l k
 unfold laws_heldRowS.f
 repeat' first
   | (with_reducible exact ih0 _ _ _)
   | (with_reducible exact laws_heldIntS.mono _ _ _)
   | (with_reducible exact LeO.refl _)
   | (with_reducible exact LeO.none _)
   | (with_reducible refine LeO.ite ?_ ?_)
   | (with_reducible refine LeO.bind ?_ (fun _ => ?_))
   | exact ih0 _ _ _
   | exact laws_heldIntS.mono _ _ _
   | exact LeO.none _
   | refine LeO.ite ?_ ?_
   | refine LeO.bind ?_ (fun _ => ?_)
theorem laws_heldRowS.calls (k : Nat) (A0 : Option Addr) (c0 : Nat) (l0 : List (S29)) (a1 : Int) (r : Int) (w : World) (hr0 : Kd.C k29 w A0 l0.length l0) (hc0 : l0.length ≤ c0) (h : laws_heldRowS.f k l0 a1 = some r) :
  Calls Tryd.prog 18 #[.slice A0 l0.length c0, .int .i64 a1] w fun e w' => e = .returned (.int .i64 r) ∧ Drawn0 w w' := by
 have HR0 := A_.mk hr0
 have HC0 := A_.mk hc0
 clear hr0 hc0
 have H : (laws_heldRowS.l0 k l0 a1 0) = some r := h
 clear h
 have H' := A_.mk H
 clear H
 go_enter Tryd.func18, Tryd.ntmps18
 go_wp2
 go_loopg [1, 5] k (fun kq v1 v5 w' => ∃ (x1_1 : Int) (x5_1 : Int), v1 = .int .i64 x1_1 ∧ v5 = .int .i64 x5_1 ∧ A_ (laws_heldRowS.l0 kq l0 x1_1 x5_1 = some r) ∧ A_ (kq ≤ k) ∧ Drawn0 w w')
 case atStart => exact ⟨(a1), (0), (by rfl), (by rfl), H', ⟨Nat.le_refl _⟩, by repeat (exact Drawn0.refl _)⟩
 case round =>
  clear H'
  try clear c1
  try clear p2
  obtain ⟨x1_1, x5_1, rfl, rfl, HA, HK1, ⟨m1, rfl⟩⟩ := hrel
  cases gk with
  | zero => exact absurd HA.out (by simp [laws_heldRowS.l0])
  | succ k1 =>
   have H := HA.out
   clear HA
   simp only [laws_heldRowS.l0] at H
   by_cases c3 : x5_1 < (l0.length : Int)
   ·rw [if_pos c3] at H
    have c3b0 : decide (x5_1 < (l0.length : Int)) = true := decide_eq_true c3
    clear c3
    by_cases c4 : 0 ≤ x5_1
    ·rw [if_pos c4] at H
     have c4b0 : decide (0 ≤ x5_1) = true := decide_eq_true c4
     clear c4
     by_cases c5 : ((rd_T29 l0 x5_1).f0) = x1_1
     ·rw [if_pos c5] at H
      have c5b0 : (((rd_T29 l0 x5_1).f0) == x1_1) = true := beq_iff_eq.mpr c5
      have c5b1 : (((rd_T29 l0 x5_1).f0) != x1_1) = false := bne_eq_false_iff_eq.mpr c5
      clear c5
      by_cases c6 : (((rd_T29 l0 x5_1).f1) != ((Int.tmod (wrap64 (x1_1 + 1)) 3) == 0)) = true
      ·rw [if_pos c6] at H
       have c6b0 : (((rd_T29 l0 x5_1).f1) != ((Int.tmod (wrap64 (x1_1 + 1)) 3) == 0)) = true := c6
       (try (have c6b1 : decide (((rd_T29 l0 x5_1).f1) = ((Int.tmod (wrap64 (x1_1 + 1)) 3) == 0)) = false := by simpa using c6))
       (try (have c6b2 : (((rd_T29 l0 x5_1).f1) == ((Int.tmod (wrap64 (x1_1 + 1)) 3) == 0)) = false := by simpa using c6))
       (try (have c6b3 : ¬ (((rd_T29 l0 x5_1).f1) = ((Int.tmod (wrap64 (x1_1 + 1)) 3) == 0)) := by simpa using c6))
       clear c6
       obtain rfl := Option.some.inj H
       have p355 : 0 ≤ (x5_1 : Int) := of_decide_eq_true (by (with_reducible assumption))
       have q355 : x5_1 < (l0.length : Int) := of_decide_eq_true (by (with_reducible assumption))
       skip
       obtain ⟨ad355, A355_2, c355_2, e355, hx355_0, hx355_1, hx355_2, hl355_2, hi355_2⟩ := at_T29 HR0.out x5_1 p355 q355
       cases e355
       have HR355_2 := A_.mk hi355_2
       have HC355_2 := A_.mk hl355_2
       clear hi355_2 hl355_2
       replace p355 := eq_true p355
       replace q355 := eq_true q355
       have p356 : 0 ≤ (x5_1 : Int) := of_decide_eq_true (by (with_reducible assumption))
       have q356 : x5_1 < (l0.length : Int) := of_decide_eq_true (by (with_reducible assumption))
       skip
       obtain ⟨ad356, A356_2, c356_2, e356, hx356_0, hx356_1, hx356_2, hl356_2, hi356_2⟩ := at_T29 HR0.out x5_1 p356 q356
       obtain rfl : ad355 = ad356 := (by injection e356)
       have HR356_2 := A_.mk hi356_2
       have HC356_2 := A_.mk hl356_2
       clear hi356_2 hl356_2
       replace p356 := eq_true p356
       replace q356 := eq_true q356
       have ea_ := Option.some.inj (hx355_2.symm.trans hx356_2)
       injection ea_ with ea_ en_ ec_
       subst ea_
       subst ec_
       clear en_
       go_wp2
       go_ret
       exact ⟨by rfl, by repeat (first | exact Drawn0.refl _ | apply Drawn0.step)⟩
      ·rw [if_neg c6] at H
       have c6b0 : (((rd_T29 l0 x5_1).f1) != ((Int.tmod (wrap64 (x1_1 + 1)) 3) == 0)) = false := by simpa using c6
       (try (have c6b1 : decide (((rd_T29 l0 x5_1).f1) = ((Int.tmod (wrap64 (x1_1 + 1)) 3) == 0)) = true := by simpa using c6))
       (try (have c6b2 : (((rd_T29 l0 x5_1).f1) == ((Int.tmod (wrap64 (x1_1 + 1)) 3) == 0)) = true := by simpa using c6))
       clear c6
       replace H := Option.bind_eq_some_iff.mp H
       obtain ⟨t358, A70, H⟩ := H
       replace H : (if t358 < 0 then (some (-1)) else (laws_heldRowS.l0 k1 l0 t358 (wrap64 (x5_1 + 1)))) = some r := H
       have A7 := A_.mk A70
       clear A70
       by_cases c8 : t358 < 0
       ·rw [if_pos c8] at H
        have c8b0 : decide (t358 < 0) = true := decide_eq_true c8
        clear c8
        obtain rfl := Option.some.inj H
        have p355 : 0 ≤ (x5_1 : Int) := of_decide_eq_true (by (with_reducible assumption))
        have q355 : x5_1 < (l0.length : Int) := of_decide_eq_true (by (with_reducible assumption))
        skip
        obtain ⟨ad355, A355_2, c355_2, e355, hx355_0, hx355_1, hx355_2, hl355_2, hi355_2⟩ := at_T29 HR0.out x5_1 p355 q355
        cases e355
        have HR355_2 := A_.mk hi355_2
        have HC355_2 := A_.mk hl355_2
        clear hi355_2 hl355_2
        replace p355 := eq_true p355
        replace q355 := eq_true q355
        have p356 : 0 ≤ (x5_1 : Int) := of_decide_eq_true (by (with_reducible assumption))
        have q356 : x5_1 < (l0.length : Int) := of_decide_eq_true (by (with_reducible assumption))
        skip
        obtain ⟨ad356, A356_2, c356_2, e356, hx356_0, hx356_1, hx356_2, hl356_2, hi356_2⟩ := at_T29 HR0.out x5_1 p356 q356
        obtain rfl : ad355 = ad356 := (by injection e356)
        have HR356_2 := A_.mk hi356_2
        have HC356_2 := A_.mk hl356_2
        clear hi356_2 hl356_2
        replace p356 := eq_true p356
        replace q356 := eq_true q356
        have ea_ := Option.some.inj (hx355_2.symm.trans hx356_2)
        injection ea_ with ea_ en_ ec_
        subst ea_
        subst ec_
        clear en_
        have p357 : 0 ≤ (x5_1 : Int) := of_decide_eq_true (by (with_reducible assumption))
        have q357 : x5_1 < (l0.length : Int) := of_decide_eq_true (by (with_reducible assumption))
        skip
        obtain ⟨ad357, A357_2, c357_2, e357, hx357_0, hx357_1, hx357_2, hl357_2, hi357_2⟩ := at_T29 HR0.out x5_1 p357 q357
        obtain rfl : ad355 = ad357 := (by injection e357)
        have HR357_2 := A_.mk hi357_2
        have HC357_2 := A_.mk hl357_2
        clear hi357_2 hl357_2
        replace p357 := eq_true p357
        replace q357 := eq_true q357
        have ea_ := Option.some.inj (hx355_2.symm.trans hx357_2)
        injection ea_ with ea_ en_ ec_
        subst ea_
        subst ec_
        clear en_
        go_wp2_with ((with_reducible refine gate_callee (f := 43) rfl ?_); refine goesL_ (some 38) rfl rfl Tryd.func43 (by kernel_rfl) rfl #[.slice A355_2 ((rd_T29 l0 x5_1).f2).length c355_2, .int .i64 (wrap64 ((wrap64 (x1_1 + 1)) + 1))] rfl (by (try simp only [List.map_toArray, List.map_cons, List.map_nil]); (rfl)) ?_; (with_reducible refine (laws_heldIntS.calls k1 _ _ ((rd_T29 l0 x5_1).f2) (wrap64 ((wrap64 (x1_1 + 1)) + 1)) t358 _ ?side1 ?side2 A7.out).mono ?_); (case side1 => repeat (exact HR357_2.out)); (case side2 => exact HC357_2.out); rintro e w' ⟨rfl, ⟨nd, rfl⟩⟩; refine ⟨_, rfl, ?_⟩)
        go_ret
        exact ⟨by rfl, by repeat (first | exact Drawn0.refl _ | apply Drawn0.step)⟩
       ·rw [if_neg c8] at H
        have c8b0 : decide (t358 < 0) = false := decide_eq_false c8
        clear c8
        have H' := A_.mk H
        clear H
        have p355 : 0 ≤ (x5_1 : Int) := of_decide_eq_true (by (with_reducible assumption))
        have q355 : x5_1 < (l0.length : Int) := of_decide_eq_true (by (with_reducible assumption))
        skip
        obtain ⟨ad355, A355_2, c355_2, e355, hx355_0, hx355_1, hx355_2, hl355_2, hi355_2⟩ := at_T29 HR0.out x5_1 p355 q355
        cases e355
        have HR355_2 := A_.mk hi355_2
        have HC355_2 := A_.mk hl355_2
        clear hi355_2 hl355_2
        replace p355 := eq_true p355
        replace q355 := eq_true q355
        have p356 : 0 ≤ (x5_1 : Int) := of_decide_eq_true (by (with_reducible assumption))
        have q356 : x5_1 < (l0.length : Int) := of_decide_eq_true (by (with_reducible assumption))
        skip
        obtain ⟨ad356, A356_2, c356_2, e356, hx356_0, hx356_1, hx356_2, hl356_2, hi356_2⟩ := at_T29 HR0.out x5_1 p356 q356
        obtain rfl : ad355 = ad356 := (by injection e356)
        have HR356_2 := A_.mk hi356_2
        have HC356_2 := A_.mk hl356_2
        clear hi356_2 hl356_2
        replace p356 := eq_true p356
        replace q356 := eq_true q356
        have ea_ := Option.some.inj (hx355_2.symm.trans hx356_2)
        injection ea_ with ea_ en_ ec_
        subst ea_
        subst ec_
        clear en_
        have p357 : 0 ≤ (x5_1 : Int) := of_decide_eq_true (by (with_reducible assumption))
        have q357 : x5_1 < (l0.length : Int) := of_decide_eq_true (by (with_reducible assumption))
        skip
        obtain ⟨ad357, A357_2, c357_2, e357, hx357_0, hx357_1, hx357_2, hl357_2, hi357_2⟩ := at_T29 HR0.out x5_1 p357 q357
        obtain rfl : ad355 = ad357 := (by injection e357)
        have HR357_2 := A_.mk hi357_2
        have HC357_2 := A_.mk hl357_2
        clear hi357_2 hl357_2
        replace p357 := eq_true p357
        replace q357 := eq_true q357
        have ea_ := Option.some.inj (hx355_2.symm.trans hx357_2)
        injection ea_ with ea_ en_ ec_
        subst ea_
        subst ec_
        clear en_
        go_wp2_with ((with_reducible refine gate_callee (f := 43) rfl ?_); refine goesL_ (some 38) rfl rfl Tryd.func43 (by kernel_rfl) rfl #[.slice A355_2 ((rd_T29 l0 x5_1).f2).length c355_2, .int .i64 (wrap64 ((wrap64 (x1_1 + 1)) + 1))] rfl (by (try simp only [List.map_toArray, List.map_cons, List.map_nil]); (rfl)) ?_; (with_reducible refine (laws_heldIntS.calls k1 _ _ ((rd_T29 l0 x5_1).f2) (wrap64 ((wrap64 (x1_1 + 1)) + 1)) t358 _ ?side1 ?side2 A7.out).mono ?_); (case side1 => repeat (exact HR357_2.out)); (case side2 => exact HC357_2.out); rintro e w' ⟨rfl, ⟨nd, rfl⟩⟩; refine ⟨_, rfl, ?_⟩)
        go_roundg k1
        case measure => have := HK1.out; omega
        case rel => exact ⟨(t358), (wrap64 (x5_1 + 1)), (by rfl), (by rfl), H', ⟨by have := HK1.out; omega⟩, by repeat (first | exact Drawn0.refl _ | apply Drawn0.step)⟩
     ·rw [if_neg c5] at H
      have c5b0 : (((rd_T29 l0 x5_1).f0) == x1_1) = false := beq_eq_false_iff_ne.mpr c5
      have c5b1 : (((rd_T29 l0 x5_1).f0) != x1_1) = true := bne_iff_ne.mpr c5
      obtain rfl := Option.some.inj H
      have p355 : 0 ≤ (x5_1 : Int) := of_decide_eq_true (by (with_reducible assumption))
      have q355 : x5_1 < (l0.length : Int) := of_decide_eq_true (by (with_reducible assumption))
      skip
      obtain ⟨ad355, A355_2, c355_2, e355, hx355_0, hx355_1, hx355_2, hl355_2, hi355_2⟩ := at_T29 HR0.out x5_1 p355 q355
      cases e355
      have HR355_2 := A_.mk hi355_2
      have HC355_2 := A_.mk hl355_2
      clear hi355_2 hl355_2
      replace p355 := eq_true p355
      replace q355 := eq_true q355
      go_wp2
      go_ret
      exact ⟨by rfl, by repeat (first | exact Drawn0.refl _ | apply Drawn0.step)⟩
    ·rw [if_neg c4] at H
     exact absurd H (by simp)
   ·rw [if_neg c3] at H
    have c3b0 : decide (x5_1 < (l0.length : Int)) = false := decide_eq_false c3
    clear c3
    obtain rfl := Option.some.inj H
    go_wp2
    go_ret
    exact ⟨by rfl, by repeat (first | exact Drawn0.refl _ | apply Drawn0.step)⟩

/-! ### laws_FnExactFinalRows: function 4 -/
set_option linter.unnecessarySimpa false
def laws_FnExactFinalRows.f (k : Nat) (n : Int) (ring : Bool) (l : List Int) : Option Bool :=
 (laws_szRow.f n ring l 1048576).bind fun z => if z < 0 then some true else
  (laws_toRow.f k n ring l).bind fun x => (spec_FinalRows.f k x.1 x.2.1 x.2.2).bind fun s => (impl_FinalRows.f k x.1 x.2.1 x.2.2 s.1).bind fun b =>
   (laws_eqRowS.f k s.1 s.1).bind fun t => (laws_eqRow.f k x.1 x.2.1 x.2.2 x.1 x.2.1 x.2.2).bind fun t2 => (laws_markRow.f k x.1 x.2.1 x.2.2 1).bind fun m0 => (markRs k s.1 1).bind fun m => (laws_heldRowS.f k m.2 1).bind fun q =>
    if (t = true ∧ t2 = true ∧ b = s.2) ∧ (0 ≤ m0.1 ∧ 0 ≤ q ∧ q = m.1) ∧ s.1.length ≤ 1000000 ∧ m.2.length = s.1.length then some true else none
theorem law_small (k : Nat) (n : Int) (ring : Bool) (A : Option Addr) (c : Nat) (l : List Int) (z : Int) (w : World) (hr : Kd.C (Kd.int .i64) w A l.length l) (hc : l.length ≤ c) (hz : laws_szRow.f n ring l 1048576 = some z) (hz0 : z < 0) :
  Calls Tryd.prog 4 #[.agg #[.int .i64 n, .bool ring, .slice A l.length c]] w fun e w' => e = .returned (.bool true) ∧ Below w.heap.size w w' := by
 have HR := A_.mk hr
 have HC := A_.mk hc
 have HZ := A_.mk hz
 have cz : decide (z < 0) = true := decide_eq_true hz0
 have HBw := A_.mk (Below.refl w.heap.size w)
 clear hr hc hz hz0
 go_enter Tryd.func4, Tryd.ntmps4
 go_upto_region 1 with (first
  | ((with_reducible refine gate_dst (N := 1) rfl ?_); refine box_event ?hg (N := 1) ?hd (cs := #[.int .i64 n, .bool ring, .slice A l.length c]) (t := 24) ?hr ?_; (case hd => rfl); (case hg => rfl); (case hr => (go_simp; done)); intro ga hg w1 hbox hb; have BA1 := A_.mk hbox; have B1 := A_.mk (below_step HBw.out hb); clear hg hbox hb))
 have s0 : w1.cell? ⟨ga, 0, none⟩ = some (.int .i64 n) := (blk_cell BA1.out 0).trans rfl
 have s1 : w1.cell? ⟨ga, 1, none⟩ = some (.bool ring) := (blk_cell BA1.out 1).trans rfl
 have s2 : w1.cell? ⟨ga, 2, none⟩ = some (.slice A l.length c) := (blk_cell BA1.out 2).trans rfl
 go_wp2_with (go_at_call 7; (with_reducible refine (laws_szRow.calls n ring A c l 1048576 z _ (Kd.C_below HR.out B1.out) HC.out HZ.out).mono ?_); rintro e w2 ⟨rfl, hb⟩; have B2 := A_.mk (below_step B1.out hb); clear hb s0 s1 s2)
 go_ret
 exact ⟨rfl, B2.out⟩
theorem law_big (k : Nat) (n n1 : Int) (ring r1 : Bool) (A : Option Addr) (c : Nat) (l lx lm : List Int) (z m0 q : Int) (S M : List S29) (b : Bool) (w : World) (hr : Kd.C (Kd.int .i64) w A l.length l) (hc : l.length ≤ c) (hT : XTab w) (hz : laws_szRow.f n ring l 1048576 = some z) (hz0 : ¬ z < 0) (hx : laws_toRow.f k n ring l = some (n1, r1, lx)) (hs : spec_FinalRows.f k n1 r1 lx = some (S, b)) (hg : impl_FinalRows.f k n1 r1 lx S = some b) (he : laws_eqRowS.f k S S = some true) (he2 : laws_eqRow.f k n1 r1 lx n1 r1 lx = some true) (hm : laws_markRow.f k n1 r1 lx 1 = some (m0, lm)) (hm0 : 0 ≤ m0) (hM : markRs k S 1 = some (q, M)) (hH : laws_heldRowS.f k M 1 = some q) (hq : 0 ≤ q) (hl : S.length ≤ 1000000) (hlen : M.length = S.length) :
  Calls Tryd.prog 4 #[.agg #[.int .i64 n, .bool ring, .slice A l.length c]] w fun e w' => e = .returned (.bool true) ∧ Below w.heap.size w w' := by
 have hu29 := Tryd.underlying29
 have HR := A_.mk hr
 have HC := A_.mk hc
 have HT := A_.mk hT
 have HZ := A_.mk hz
 have HX := A_.mk hx
 have HS := A_.mk hs
 have HG := A_.mk hg
 have HE := A_.mk he
 have HE2 := A_.mk he2
 have HM := A_.mk hm
 have HMM := A_.mk hM
 have HH := A_.mk hH
 have HL := A_.mk hl
 have HN := A_.mk hlen
 have cz : decide (z < 0) = false := decide_eq_false hz0
 have cm : decide (m0 < 0) = false := decide_eq_false (by omega)
 have cq : decide (q < 0) = false := decide_eq_false (by omega)
 have HBw := A_.mk (Below.refl w.heap.size w)
 clear hr hc hT hz hz0 hx hs hg he he2 hm hm0 hM hH hq hl hlen
 go_enter Tryd.func4, Tryd.ntmps4
 go_upto_region 1 with (first
  | ((with_reducible refine gate_dst (N := 1) rfl ?_); refine box_event ?hg (N := 1) ?hd (cs := #[.int .i64 n, .bool ring, .slice A l.length c]) (t := 24) ?hr ?_; (case hd => rfl); (case hg => rfl); (case hr => (go_simp; done)); intro ga hg w1 hbox hb; have BA1 := A_.mk hbox; have B1 := A_.mk (below_step HBw.out hb); clear hg hbox hb))
 have s0 : w1.cell? ⟨ga, 0, none⟩ = some (.int .i64 n) := (blk_cell BA1.out 0).trans rfl
 have s1 : w1.cell? ⟨ga, 1, none⟩ = some (.bool ring) := (blk_cell BA1.out 1).trans rfl
 have s2 : w1.cell? ⟨ga, 2, none⟩ = some (.slice A l.length c) := (blk_cell BA1.out 2).trans rfl
 go_upto_region 5 with (go_at_call 7; (with_reducible refine (laws_szRow.calls n ring A c l 1048576 z _ (Kd.C_below HR.out B1.out) HC.out HZ.out).mono ?_); rintro e w2 ⟨rfl, hb⟩; have B2 := A_.mk (below_step B1.out hb); have BA2 := A_.mk (blk_below (g := ga) (o := .cells #[.int .i64 n, .bool ring, .slice A l.length c] 24 (0, 0)) BA1.out hb); clear hb s0 s1 s2)
 clear B1 BA1
 have s0 : w2.cell? ⟨ga, 0, none⟩ = some (.int .i64 n) := (blk_cell BA2.out 0).trans rfl
 have s1 : w2.cell? ⟨ga, 1, none⟩ = some (.bool ring) := (blk_cell BA2.out 1).trans rfl
 have s2 : w2.cell? ⟨ga, 2, none⟩ = some (.slice A l.length c) := (blk_cell BA2.out 2).trans rfl
 go_upto_region 6 with (first
  | (go_at_call 9; (with_reducible refine (laws_toRow.calls k n ring A c l n1 r1 lx _ (Kd.C_below HR.out B2.out) HC.out HX.out).mono ?_); rintro e w3 ⟨v3, rfl, hr3, hb⟩; obtain ⟨A3, c3, rfl⟩ := Kd.R_slice hr3; have B3 := A_.mk (below_step B2.out hb); have BA3 := A_.mk (blk_below (g := ga) (o := .cells #[.int .i64 n, .bool ring, .slice A l.length c] 24 (0, 0)) BA2.out hb); have R3 := A_.mk (Kd.R_reads' hr3).2; clear hb hr3 s0 s1 s2)
  | (go_at_call 13; (with_reducible refine (spec_FinalRows.calls k n1 r1 A3 c3 lx S b _ R3.out.2 R3.out.1 HS.out).mono ?_); rintro e w4 ⟨A1, c1, rfl, hl1, hr1, hb⟩; have B4 := A_.mk (below_step B3.out hb); have BA4 := A_.mk (blk_below (g := ga) (o := .cells #[.int .i64 n, .bool ring, .slice A l.length c] 24 (0, 0)) BA3.out hb); have CS := A_.mk hr1; have LS := A_.mk hl1; clear hb hl1 hr1))
 clear B2 BA2 B3 BA3 R3
 have s0 : w4.cell? ⟨ga, 0, none⟩ = some (.int .i64 n) := (blk_cell BA4.out 0).trans rfl
 have s1 : w4.cell? ⟨ga, 1, none⟩ = some (.bool ring) := (blk_cell BA4.out 1).trans rfl
 have s2 : w4.cell? ⟨ga, 2, none⟩ = some (.slice A l.length c) := (blk_cell BA4.out 2).trans rfl
 go_upto_region 7 with (first
  | (go_at_call 9; (with_reducible refine (laws_toRow.calls k n ring A c l n1 r1 lx _ (Kd.C_below HR.out B4.out) HC.out HX.out).mono ?_); rintro e w5 ⟨v5, rfl, hr5, hb⟩; obtain ⟨A5, c5, rfl⟩ := Kd.R_slice hr5; have D5 := A_.mk hb; have R5 := A_.mk hr5; clear hb hr5 s0 s1 s2))
 have BX6 := A_.mk (show (w5.alloc (.cells #[.int .i64 n1, .bool r1, .slice A5 lx.length c5] 29)).heap[w5.heap.size]? = some (.cells #[.int .i64 n1, .bool r1, .slice A5 lx.length c5] 29 (0, 0)) from blk_new w5 _)
 have D6 := A_.mk (below_alloc D5.out (.cells #[.int .i64 n1, .bool r1, .slice A5 lx.length c5] 29))
 have R6 := A_.mk (Kd.R_alloc R5.out (.cells #[.int .i64 n1, .bool r1, .slice A5 lx.length c5] 29))
 obtain ⟨gx, hgx⟩ : ∃ g, g = w5.heap.size := ⟨_, rfl⟩
 have GX := A_.mk (show w4.heap.size ≤ gx by rw [hgx]; exact below_size D5.out)
 rw [← hgx] at BX6 ⊢
 clear hgx D5 R5
 generalize w5.alloc (.cells #[.int .i64 n1, .bool r1, .slice A5 lx.length c5] 29) = w6 at BX6 D6 R6 ⊢
 have x0 : w6.cell? ⟨gx, 0, none⟩ = some (.int .i64 n1) := (blk_cell BX6.out 0).trans rfl
 have x1 : w6.cell? ⟨gx, 1, none⟩ = some (.bool r1) := (blk_cell BX6.out 1).trans rfl
 have x2 : w6.cell? ⟨gx, 2, none⟩ = some (.slice A5 lx.length c5) := (blk_cell BX6.out 2).trans rfl
 have LT5 := A_.mk (Kd.R_lt R6.out)
 have LE6 := A_.mk (below_size D6.out)
 have RX := A_.mk (Kd.R_reads' R6.out).2
 have B6 := A_.mk (B4.out.trans (D6.out.mono (below_size B4.out)))
 go_upto_region 8 with (go_at_call 14; (with_reducible refine (impl_FinalRows.calls k n1 r1 A5 c5 lx S b _ RX.out.2 RX.out.1 (XTab.below HT.out B6.out) HG.out).mono ?_); rintro e w7 ⟨vg, rfl, hsg, hb⟩; obtain ⟨Ag, cg, rfl⟩ := Kd.S_slice hsg; have D7 := A_.mk (below_step D6.out hb); have BX7 := A_.mk (blk_below (g := gx) (o := .cells #[.int .i64 n1, .bool r1, .slice A5 lx.length c5] 29 (0, 0)) BX6.out hb); have R7 := A_.mk (Kd.R_below R6.out hb); have SG := A_.mk (Kd.S_mono (ok' := fun j => w6.heap.size ≤ j) (Kd.S_bound hsg) (fun j hj => hj.2.1)); clear hb hsg x0 x1 x2)
 clear BX6 D6 R6 RX B6
 go_upto_region 10 with (go_at_call 15; (with_reducible refine (laws_eqRowS.calls k _ _ S _ _ S true _ (Kd.S_reads' SG.out).2.2 (Kd.S_reads' SG.out).2.1 (Kd.C_below CS.out D7.out) LS.out HE.out).mono ?_); rintro e w8 ⟨rfl, hb⟩; have D8 := A_.mk (below_step D7.out hb); have BX8 := A_.mk (blk_below (g := gx) (o := .cells #[.int .i64 n1, .bool r1, .slice A5 lx.length c5] 29 (0, 0)) BX7.out hb); have R8 := A_.mk (Kd.R_below R7.out hb); have SG8 := A_.mk (Kd.S_below SG.out hb); clear hb)
 clear D7 BX7 R7 SG
 have SA := A_.mk (show ∀ w', Below w4.heap.size w4 w' → w'.cell? ⟨ga, 0, none⟩ = some (.int .i64 n) ∧ w'.cell? ⟨ga, 1, none⟩ = some (.bool ring) ∧ w'.cell? ⟨ga, 2, none⟩ = some (.slice A l.length c) from fun w' hb => ⟨(blk_cell (blk_below (g := ga) (o := .cells #[.int .i64 n, .bool ring, .slice A l.length c] 24 (0, 0)) BA4.out hb) 0).trans rfl, (blk_cell (blk_below (g := ga) (o := .cells #[.int .i64 n, .bool ring, .slice A l.length c] 24 (0, 0)) BA4.out hb) 1).trans rfl, (blk_cell (blk_below (g := ga) (o := .cells #[.int .i64 n, .bool ring, .slice A l.length c] 24 (0, 0)) BA4.out hb) 2).trans rfl⟩)
 have BW := A_.mk (show ∀ w', Below w4.heap.size w4 w' → Below w.heap.size w w' from fun w' hb => B4.out.trans (hb.mono (below_size B4.out)))
 obtain ⟨s0, s1, s2⟩ := SA.out _ D8.out
 have x0 : w8.cell? ⟨gx, 0, none⟩ = some (.int .i64 n1) := (blk_cell BX8.out 0).trans rfl
 have x1 : w8.cell? ⟨gx, 1, none⟩ = some (.bool r1) := (blk_cell BX8.out 1).trans rfl
 have x2 : w8.cell? ⟨gx, 2, none⟩ = some (.slice A5 lx.length c5) := (blk_cell BX8.out 2).trans rfl
 have D9 := A_.mk (below_drew1 D8.out)
 have BX9 := A_.mk (blk_drew BX8.out)
 have R9 := A_.mk (Kd.R_drew R8.out)
 have SG9 := A_.mk (Kd.S_drew SG8.out)
 clear D8 BX8 R8 SG8
 refine start_ (n := 5) (S := fun w' => w'.cell? ⟨ga, 0, none⟩ = some (.int .i64 n) ∧ w'.cell? ⟨ga, 1, none⟩ = some (.bool ring) ∧ w'.cell? ⟨ga, 2, none⟩ = some (.slice A l.length c) ∧ w'.cell? ⟨gx, 0, none⟩ = some (.int .i64 n1) ∧ w'.cell? ⟨gx, 1, none⟩ = some (.bool r1) ∧ w'.cell? ⟨gx, 2, none⟩ = some (.slice A5 lx.length c5)) (ds := [3]) (m_ 5 0) (by kernel_rfl) rfl rfl ⟨s0, s1, s2, x0, x1, x2⟩ (fun hHeld => ?_)
 generalize w8.drew = wd at *
 clear s0 s1 s2 x0 x1 x2
 refine take_ (i := 0) (N := some 41) (v := ?_) (a' := ?_) (m_ 5 1) rfl rfl (by kernel_rfl) (fun _ _ _ h => h) (Or.inl ⟨by rfl, ?_⟩) hHeld ?_ ?_
 rotate_left
 ·intro w' sh
  obtain ⟨s0, s1, s2, s3, s4, s5⟩ := sh
  go_simp
  with_reducible rfl
 rotate_left
 ·simp only [Act.put, sI_, s0_, s1_, i64_w, i32_w]
  rfl
 refine take_ (i := 1) (N := some 42) (v := ?_) (a' := ?_) (m_ 5 3) rfl rfl (by kernel_rfl) (fun _ _ _ h => h) (Or.inl ⟨by rfl, ?_⟩) hHeld ?_ ?_
 rotate_left
 ·intro w' sh
  obtain ⟨s0, s1, s2, s3, s4, s5⟩ := sh
  go_simp
  with_reducible rfl
 rotate_left
 ·simp only [Act.put, sI_, s0_, s1_, i64_w, i32_w]
  rfl
 refine one_ (i := 2) (N := some 43) (m_ 5 7) rfl rfl (by kernel_rfl) (by decide) (fun K hK => ?_)
 refine goes_ Tryd.func9 (by kernel_rfl) rfl #[.agg #[.int .i64 n, .bool ring, .slice A l.length c]] (by rfl) rfl rfl (by (try simp only [List.map_toArray, List.map_cons, List.map_nil]); (rfl)) ?_
 refine (laws_toRow.calls k n ring A c l n1 r1 lx wd (Kd.C_below HR.out (BW.out _ D9.out)) HC.out HX.out).mono ?_
 rintro e w10 ⟨v10, rfl, hr10, hb⟩
 obtain ⟨A10, c10, rfl⟩ := Kd.R_slice hr10
 refine ⟨_, rfl, ?_⟩
 have D10 := A_.mk (below_step D9.out hb)
 have BX10 := A_.mk (blk_below (g := gx) (o := .cells #[.int .i64 n1, .bool r1, .slice A5 lx.length c5] 29 (0, 0)) BX9.out hb)
 have R10 := A_.mk (Kd.R_below R9.out hb)
 have SG10 := A_.mk (Kd.S_below SG9.out hb)
 have Q10 := A_.mk (Kd.R_reads' hr10).2
 refine hK.out _ _ ⟨(SA.out _ D10.out).1, (SA.out _ D10.out).2.1, (SA.out _ D10.out).2.2, (blk_cell BX10.out 0).trans rfl, (blk_cell BX10.out 1).trans rfl, (blk_cell BX10.out 2).trans rfl⟩ (fun hHeld2 => ?_)
 clear hK K hb hr10 D9 BX9 R9 SG9 hHeld
 refine norm_ (a' := ?_) ?_ ?_
 rotate_left
 ·show Act.put _ (some 43) _ = _
  simp only [Act.put, sI_, s0_, s1_, i64_w, i32_w]
  rfl
 refine last_ (i := 3) (N := some 44) (m_ 5 15) rfl rfl (by kernel_rfl) (by decide) (fun K hK => ?_)
 refine goes_ Tryd.func12 (by kernel_rfl) rfl #[.agg #[.int .i64 n1, .bool r1, .slice A5 lx.length c5], .agg #[.int .i64 n1, .bool r1, .slice A10 lx.length c10]] (by rfl) rfl rfl (by (try simp only [List.map_toArray, List.map_cons, List.map_nil]); (rfl)) ?_
 refine (laws_eqRow.calls k n1 r1 A5 c5 lx n1 r1 A10 c10 lx true w10 (Kd.R_reads' R10.out).2.2 (Kd.R_reads' R10.out).2.1 Q10.out.2 Q10.out.1 HE2.out).mono ?_
 rintro e w11 ⟨rfl, hb⟩
 refine ⟨_, rfl, ?_⟩
 have D11 := A_.mk (below_step D10.out hb)
 have BX11 := A_.mk (blk_below (g := gx) (o := .cells #[.int .i64 n1, .bool r1, .slice A5 lx.length c5] 29 (0, 0)) BX10.out hb)
 have R11 := A_.mk (Kd.R_below R10.out hb)
 have SG11 := A_.mk (Kd.S_below SG10.out hb)
 refine hK.out _ _ ?_
 clear hK K hb D10 BX10 R10 SG10 Q10
 refine norm_ (a' := ?_) ?_ ?_
 rotate_left
 ·show Act.put _ (some 44) _ = _
  simp only [Act.put, sI_, s0_, s1_, i64_w, i32_w]
  rfl
 refine pure_ (i := 4) (N := some 45) (v := ?_) (a' := ?_) (m_ 5 31) rfl rfl (by kernel_rfl) (fun _ _ _ h => h) (Or.inl ⟨by rfl, ?_⟩) ?_ ?_
 rotate_left
 ·intro w'
  go_simp
  with_reducible rfl
 rotate_left
 ·simp only [Act.put, sI_, s0_, s1_, i64_w, i32_w]
  rfl
 refine done_ (by kernel_rfl) ?_
 have x0 : w11.cell? ⟨gx, 0, none⟩ = some (.int .i64 n1) := (blk_cell BX11.out 0).trans rfl
 have x1 : w11.cell? ⟨gx, 1, none⟩ = some (.bool r1) := (blk_cell BX11.out 1).trans rfl
 have x2 : w11.cell? ⟨gx, 2, none⟩ = some (.slice A5 lx.length c5) := (blk_cell BX11.out 2).trans rfl
 have RT := A_.mk (Kd.R_tight rfl R11.out)
 go_upto_region 14 with (go_at_call 16; (with_reducible refine (laws_markRow.calls k n1 r1 (fun j => some j = (Value.slice A5 lx.length c5).ownBlock) (.slice A5 lx.length c5) lx 1 m0 lm w4 _ D11.out RT.out HM.out).mono ?_); rintro e w12 ⟨rfl, -, hb, hk⟩; have D12 := A_.mk hb; have SG12 := A_.mk (Kd.S_step SG11.out (fun j hj hlt => hk.2 j hlt (fun e => Nat.lt_irrefl _ (Nat.lt_of_lt_of_le (LT5.out j e.symm) hj)))); clear hb hk x0 x1 x2)
 clear D11 BX11 R11 SG11 RT
 go_upto_region 17 with (go_at_call 15; (with_reducible refine (laws_eqRowS.calls k _ _ S _ _ S true _ (Kd.S_reads' SG12.out).2.2 (Kd.S_reads' SG12.out).2.1 (Kd.C_below CS.out D12.out) LS.out HE.out).mono ?_); rintro e w13 ⟨rfl, hb⟩; have D13 := A_.mk (below_step D12.out hb); have SG13 := A_.mk (Kd.S_lower (Kd.S_below SG12.out hb) (show w4.heap.size ≤ w6.heap.size from LE6.out)); clear hb)
 clear D12 SG12
 go_upto_region 19 with (go_at_call 17; (with_reducible refine (markRs_calls k (fun j => w6.heap.size ≤ j) _ S 1 q M w4 _ D13.out SG13.out HL.out HMM.out).mono ?_); rintro e w14 ⟨rfl, hs14, hb⟩; have D14 := A_.mk hb; have SG14 := A_.mk hs14; clear hb hs14)
 clear D13 SG13
 go_upto_region 24 with (go_at_call 18; (have h18 := laws_heldRowS.calls k _ cg M 1 q _ (Kd.S_reads' SG14.out).2.2 (by rw [HN.out]; exact (Kd.S_reads' SG14.out).2.1) HH.out); rw [HN.out] at h18; refine h18.mono ?_; rintro e w15 ⟨rfl, hd⟩; have D15 := A_.mk (below_step D14.out hd.below); have SG15 := A_.mk (Kd.S_below SG14.out hd.below); clear hd h18)
 clear D14 SG14
 obtain ⟨s0, s1, s2⟩ := SA.out _ D15.out
 go_upto_region 25 with (first
  | (go_at_call 9; (with_reducible refine (laws_toRow.calls k n ring A c l n1 r1 lx _ (Kd.C_below HR.out (BW.out _ D15.out)) HC.out HX.out).mono ?_); rintro e w16 ⟨v16, rfl, hr16, hb⟩; obtain ⟨A16, c16, rfl⟩ := Kd.R_slice hr16; have D16 := A_.mk (below_step D15.out hb); have SG16 := A_.mk (Kd.S_below SG15.out hb); have Q16 := A_.mk (Kd.R_reads' hr16).2; clear hb hr16 s0 s1 s2)
  | (go_at_call 14; (with_reducible refine (impl_FinalRows.calls k n1 r1 A16 c16 lx S b _ Q16.out.2 Q16.out.1 (XTab.below HT.out (BW.out _ D16.out)) HG.out).mono ?_); rintro e w17 ⟨vh, rfl, hsh, hb⟩; obtain ⟨Ah, ch, rfl⟩ := Kd.S_slice hsh; have D17 := A_.mk (below_step D16.out hb); have SG17 := A_.mk (Kd.S_below SG16.out hb); have SH17 := A_.mk hsh; clear hb hsh))
 clear D15 SG15 D16 SG16 Q16
 go_upto_region 28 with (go_at_call 15; (with_reducible refine (laws_eqRowS.calls k _ _ S _ _ S true _ (Kd.S_reads' SH17.out).2.2 (Kd.S_reads' SH17.out).2.1 (Kd.C_below CS.out D17.out) LS.out HE.out).mono ?_); rintro e w18 ⟨rfl, hb⟩; have D18 := A_.mk (below_step D17.out hb); have SG18 := A_.mk (Kd.S_below SG17.out hb); clear hb)
 clear D17 SG17 SH17
 go_wp2_with (go_at_call 18; (have h18 := laws_heldRowS.calls k _ cg M 1 q _ (Kd.S_reads' SG18.out).2.2 (by rw [HN.out]; exact (Kd.S_reads' SG18.out).2.1) HH.out); rw [HN.out] at h18; refine h18.mono ?_; rintro e w19 ⟨rfl, hd⟩; have D19 := A_.mk (below_step D18.out hd.below); clear hd h18)
 go_ret
 exact ⟨rfl, BW.out _ D19.out⟩
theorem laws_FnExactFinalRows.calls (k : Nat) (n : Int) (ring : Bool) (A : Option Addr) (c : Nat) (l : List Int) (w : World) (hr : Kd.C (Kd.int .i64) w A l.length l) (hc : l.length ≤ c) (hT : XTab w) (h : laws_FnExactFinalRows.f k n ring l = some true) :
  Calls Tryd.prog 4 #[.agg #[.int .i64 n, .bool ring, .slice A l.length c]] w fun e w' => e = .returned (.bool true) ∧ Below w.heap.size w w' := by
 unfold laws_FnExactFinalRows.f at h
 obtain ⟨z, hz, h⟩ := Option.bind_eq_some_iff.mp h
 by_cases hz0 : z < 0
 ·exact law_small k n ring A c l z w hr hc hz hz0
 ·rw [if_neg hz0] at h
  obtain ⟨⟨n1, r1, lx⟩, hx, h⟩ := Option.bind_eq_some_iff.mp h
  obtain ⟨⟨S, b2⟩, hs, h⟩ := Option.bind_eq_some_iff.mp h
  obtain ⟨b, hg, h⟩ := Option.bind_eq_some_iff.mp h
  obtain ⟨t, he, h⟩ := Option.bind_eq_some_iff.mp h
  obtain ⟨t2, he2, h⟩ := Option.bind_eq_some_iff.mp h
  obtain ⟨⟨m0, lm⟩, hm, h⟩ := Option.bind_eq_some_iff.mp h
  obtain ⟨⟨m, M⟩, hM, h⟩ := Option.bind_eq_some_iff.mp h
  obtain ⟨q, hH, h⟩ := Option.bind_eq_some_iff.mp h
  by_cases c0 : (t = true ∧ t2 = true ∧ b = b2) ∧ (0 ≤ m0 ∧ 0 ≤ q ∧ q = m) ∧ S.length ≤ 1000000 ∧ M.length = S.length
  ·obtain ⟨⟨rfl, rfl, rfl⟩, ⟨hm0, hq, rfl⟩, hl, hlen⟩ := c0
   exact law_big k n n1 ring r1 A c l lx lm z m0 q S M b w hr hc hT hz hz0 hx hs hg he he2 hm hm0 hM hH hq hl hlen
  ·rw [if_neg c0] at h; cases h

/-- THE ONE PURE STATEMENT of laws_FnExactFinalRows: yours. -/
def laws_FnExactFinalRows.Pure : Prop := ∀ (a0_0 : Int) (a0_1 : Bool) (l0_2 : List Int), (Lit.int .i64 a0_0).wf = true → l0_2.length ≤ maxLen → (∀ x ∈ l0_2, (Lit.int .i64 x).wf = true) → ∃ k, laws_FnExactFinalRows.f k a0_0 a0_1 l0_2 = some true
theorem laws_FnExactFinalRows.walk (P : laws_FnExactFinalRows.Pure) (a0_0 : Int) (a0_1 : Bool) (a0_2 : Option Addr) (len0_2 cap0_2 : Nat) (z0_2 : List Int) (w : World) (w0_0 : (Lit.int .i64 a0_0).wf = true) (w0_2 : (a0_2 = none ∧ len0_2 = 0 ∧ cap0_2 = 0 ∧ z0_2 = []) ∨ ∃ x, a0_2 = some x ∧ len0_2 ≤ cap0_2 ∧ cap0_2 ≤ maxLen ∧ z0_2.length = cap0_2 ∧ (∀ i, i < z0_2.length → w.cell? (x.add i) = some (.int .i64 (z0_2.getD i 0))) ∧ ∀ n ∈ z0_2, (Lit.int .i64 n).wf = true) (hT : XTab w) :
  Calls Tryd.prog 4 #[.agg #[.int .i64 a0_0, .bool a0_1, .slice a0_2 len0_2 cap0_2]] w fun e w' => e = .returned (.bool true) ∧ Below w.heap.size w w' := by
 obtain ⟨l0_2, rfl, hr0_2, hm0_2, hw0_2, hc0_2⟩ := ReadsInt.ofRowC w0_2
 obtain ⟨k, h⟩ := P a0_0 a0_1 l0_2 w0_0 hm0_2 hw0_2
 refine (laws_FnExactFinalRows.calls k a0_0 a0_1 _ _ l0_2 w (Kd.C_of_reads (d := (0 : Int)) (h1 := fun _ => rfl) hr0_2) hc0_2 hT h).mono ?_
 rintro e w' ⟨rfl, hd⟩
 exact ⟨rfl, hd⟩

end Go.Proofs.YtihifglmnjocfaaDoor.PFnExactFinalRows
