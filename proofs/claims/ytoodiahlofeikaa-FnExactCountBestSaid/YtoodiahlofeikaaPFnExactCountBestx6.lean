/- Written by a program of this session (wip/xprint) out of Lean's own print of the given functions: each function as a plain Lean function, and the proof that the call answers it. -/
import Derived.Test.YtoodiahlofeikaaPFnExactCountBestx0
import Derived.Test.YtoodiahlofeikaaPFnExactCountBestx5
import Derived.Test.YtoodiahlofeikaaJFnExactCountBest6
namespace Go.Proofs.Ytoodiahlofeikaa.PFnExactCountBest
open Go.RowKit Go.Proofs.YtoodiahlofeikaaW.PrintWords Go.Proofs.YtoodiahlofeikaaW.PrintLast Go.Proofs.YtoodiahlofeikaaW.PrintMore
attribute [local go_sem] max2_int min2_int max_two min_two max_three min_three max_four min_four   -- for this text's walks alone
set_option linter.unusedVariables false
set_option linter.unusedSimpArgs false

theorem joinX6_ {P : Program} {md : Region.Mode} {ops : Array Oper} {Q : Exit → Act → World → Prop} {S : World → Prop} {ds : List Nat} {σ : Type} {fuel : Nat} {l : Array Bool} {a : Act} {w : World} (fuel' : Nat) (l' : Array Bool) (ns : σ → List (Tmp × Value)) (F : σ → World → Prop)
    (h : (∀ s w', F s w' → wpAnyLast P md ops Q S ds fuel' l' (putAll a (ns s)) w') → wpAnyLast P md ops Q S ds fuel l a w)
    (hcont : ∀ s w', F s w' → wpAnyLast P md ops Q S ds fuel' l' (putAll a (ns s)) w') : wpAnyLast P md ops Q S ds fuel l a w := join_ fuel' l' ns F hcont h
/-! ### impl_board: function 57 -/
mutual
def impl_board.l0 : Nat → Int → Int → List Int → List Int → List Int → List Int → Int → Int → List Int → List Int → List Int → List (List Int) → Option (List Int × List Int × List Int × (List (List Int)))
 | 0, _, _, _, _, _, _, _, _, _, _, _, _ => none
 | k + 1, x0, x1, x2, x8, x9, x10, x11, x12, x237000, x237001, x237002, x237003 => if x11 > 0 then (impl_board.l1 k x0 x1 x2 x8 x9 x10 x11 x12 x2 (x2.length : Int) 0 x237000 x237001 x237002 x237003) else (some (x237000, x237001, x237002, x237003))
def impl_board.l1 : Nat → Int → Int → List Int → List Int → List Int → List Int → Int → Int → List Int → Int → Int → List Int → List Int → List Int → List (List Int) → Option (List Int × List Int × List Int × (List (List Int)))
 | 0, _, _, _, _, _, _, _, _, _, _, _, _, _, _, _ => none
 | k + 1, x0, x1, x2, x8, x9, x10, x11, x12, x43, x44, x45, x237000, x237001, x237002, x237003 => if x45 < x44 then (if 0 ≤ x45 then (if x45 < (x43.length : Int) then (if 0 ≤ (rd x43 x45) then (if (rd x43 x45) < (x8.length : Int) then (if (rd x8 (rd x43 x45)) = x0 then (impl_board.l1 k x0 x1 x2 x8 x9 x10 x11 x12 x43 x44 (wrap64 (x45 + 1)) x237000 x237001 x237002 x237003) else (if (rd x8 (rd x43 x45)) = (rd x43 x45) then (if (rd x43 x45) < (x9.length : Int) then ((some (x9.set ((rd x43 x45) : Int).toNat (wrap64 ((rd x9 (rd x43 x45)) + 1)) : List Int)).bind fun y267 => (if (rd y267 (rd x43 x45)) = x1 then (if 0 ≤ (rd x8 (rd x43 x45)) then (if (rd x8 (rd x43 x45)) < (x10.length : Int) then (if (rd x43 x45) < (x237000.length : Int) then (impl_board.l1 k x0 x1 x2 (x8.set ((rd x43 x45) : Int).toNat x0) y267 (x10.set ((rd x8 (rd x43 x45)) : Int).toNat (-1)) (wrap64 (x11 - 1)) x12 x43 x44 (wrap64 (x45 + 1)) (x237000.set ((rd x43 x45) : Int).toNat x12) x237001 x237002 x237003) else (none)) else (none)) else (none)) else (impl_board.l1 k x0 x1 x2 x8 y267 x10 x11 x12 x43 x44 (wrap64 (x45 + 1)) x237000 x237001 x237002 x237003))) else (none)) else (if 0 ≤ (wrap64 ((rd x8 (rd x43 x45)) + 1)) then (if (wrap64 ((rd x8 (rd x43 x45)) + 1)) < (x10.length : Int) then (if (rd x10 (wrap64 ((rd x8 (rd x43 x45)) + 1))) < 0 then (if (rd x8 (rd x43 x45)) < 0 then (if (rd x43 x45) < (x237001.length : Int) then (impl_board.l1 k x0 x1 x2 (x8.set ((rd x43 x45) : Int).toNat (wrap64 ((rd x8 (rd x43 x45)) + 1))) x9 (x10.set ((wrap64 ((rd x8 (rd x43 x45)) + 1)) : Int).toNat (rd x43 x45)) x11 x12 x43 x44 (wrap64 (x45 + 1)) x237000 (x237001.set ((rd x43 x45) : Int).toNat x12) x237002 x237003) else (none)) else (if 0 ≤ (rd x8 (rd x43 x45)) then (if (rd x8 (rd x43 x45)) < (x10.length : Int) then (impl_board.l1 k x0 x1 x2 (x8.set ((rd x43 x45) : Int).toNat (wrap64 ((rd x8 (rd x43 x45)) + 1))) x9 ((x10.set ((rd x8 (rd x43 x45)) : Int).toNat (-1)).set ((wrap64 ((rd x8 (rd x43 x45)) + 1)) : Int).toNat (rd x43 x45)) x11 x12 x43 x44 (wrap64 (x45 + 1)) x237000 x237001 x237002 x237003) else (none)) else (none))) else (if (rd x8 (rd x43 x45)) ≥ 0 then (if (rd x43 x45) < (x237002.length : Int) then (impl_board.l1 k x0 x1 x2 x8 x9 x10 x11 x12 x43 x44 (wrap64 (x45 + 1)) x237000 x237001 (x237002.set ((rd x43 x45) : Int).toNat (wrap64 ((rd x237002 (rd x43 x45)) + 1))) x237003) else (none)) else (impl_board.l1 k x0 x1 x2 x8 x9 x10 x11 x12 x43 x44 (wrap64 (x45 + 1)) x237000 x237001 x237002 x237003))) else (none)) else (none)))) else (none)) else (none)) else (none)) else (none)) else ((slices_Clone_int_int.f x10).bind fun t258 => (if x237003.length < 5864062014805 then (impl_board.l0 k x0 x1 x2 x8 x9 x10 x11 (wrap64 (x12 + 1)) x237000 x237001 x237002 (x237003 ++ [t258])) else (none)))
end
def impl_board.f (k : Nat) (a0 : Int) (a1 : Int) (l2 : List Int) : Option (List Int × List Int × List Int × (List (List Int))) := if 0 ≤ a0 then (if (a0 : Int).toNat ≤ 35184372088832 then ((slices_Repeat_int_int.f (([(-1)] : List Int)) a0).bind fun t240 => ((slices_Repeat_int_int.f (([(-1)] : List Int)) a0).bind fun t249 => ((slices_Clone_int_int.f t249).bind fun t252 => (if ([] : List (List Int)).length < 5864062014805 then (impl_board.l0 k a0 a1 l2 t240 (List.replicate (a0 : Int).toNat 0) t249 a0 1 (List.replicate (a0 : Int).toNat 0) (List.replicate (a0 : Int).toNat 0) (List.replicate (a0 : Int).toNat 0) (([] : List (List Int)) ++ [t252])) else (none))))) else (none)) else (none)
theorem impl_board.mono_l : ∀ k, (∀ y0 y1 y2 y3 y4 y5 y6 y7 y8 y9 y10 y11, LeO (impl_board.l0 k y0 y1 y2 y3 y4 y5 y6 y7 y8 y9 y10 y11) (impl_board.l0 (k + 1) y0 y1 y2 y3 y4 y5 y6 y7 y8 y9 y10 y11)) ∧ (∀ y0 y1 y2 y3 y4 y5 y6 y7 y8 y9 y10 y11 y12 y13 y14, LeO (impl_board.l1 k y0 y1 y2 y3 y4 y5 y6 y7 y8 y9 y10 y11 y12 y13 y14) (impl_board.l1 (k + 1) y0 y1 y2 y3 y4 y5 y6 y7 y8 y9 y10 y11 y12 y13 y14))
 | 0 => ⟨fun _ _ _ _ _ _ _ _ _ _ _ _ r h => by simp [impl_board.l0] at h, fun _ _ _ _ _ _ _ _ _ _ _ _ _ _ _ r h => by simp [impl_board.l1] at h⟩
 | k + 1 => by
  obtain ⟨ih0, ih1⟩ := impl_board.mono_l k
  refine ⟨?_, ?_⟩
  ·intro y0 y1 y2 y3 y4 y5 y6 y7 y8 y9 y10 y11
   unfold impl_board.l0
   repeat' first
   | (with_reducible exact ih0 _ _ _ _ _ _ _ _ _ _ _ _)
   | (with_reducible exact ih1 _ _ _ _ _ _ _ _ _ _ _ _ _ _ _)
   | (with_reducible exact LeO.refl _)
   | (with_reducible exact LeO.none _)
   | (with_reducible refine LeO.ite ?_ ?_)
   | (with_reducible refine LeO.bind ?_ (fun _ => ?_))
   | exact ih0 _ _ _ _ _ _ _ _ _ _ _ _
   | exact ih1 _ _ _ _ _ _ _ _ _ _ _ _ _ _ _
   | exact LeO.none _
   | refine LeO.ite ?_ ?_
   | refine LeO.bind ?_ (fun _ => ?_)
  ·intro y0 y1 y2 y3 y4 y5 y6 y7 y8 y9 y10 y11 y12 y13 y14
   unfold impl_board.l1
   repeat' first
   | (with_reducible exact ih0 _ _ _ _ _ _ _ _ _ _ _ _)
   | (with_reducible exact ih1 _ _ _ _ _ _ _ _ _ _ _ _ _ _ _)
   | (with_reducible exact LeO.refl _)
   | (with_reducible exact LeO.none _)
   | (with_reducible refine LeO.ite ?_ ?_)
   | (with_reducible refine LeO.bind ?_ (fun _ => ?_))
   | exact ih0 _ _ _ _ _ _ _ _ _ _ _ _
   | exact ih1 _ _ _ _ _ _ _ _ _ _ _ _ _ _ _
   | exact LeO.none _
   | refine LeO.ite ?_ ?_
   | refine LeO.bind ?_ (fun _ => ?_)
theorem impl_board.mono : ∀ a0 a1 a2 k, LeO (impl_board.f k a0 a1 a2) (impl_board.f (k + 1) a0 a1 a2) := by
 intro a0 a1 a2 k
 obtain ⟨ih0, ih1⟩ := impl_board.mono_l k
 unfold impl_board.f
 repeat' first
   | (with_reducible exact ih0 _ _ _ _ _ _ _ _ _ _ _ _)
   | (with_reducible exact ih1 _ _ _ _ _ _ _ _ _ _ _ _ _ _ _)
   | (with_reducible exact LeO.refl _)
   | (with_reducible exact LeO.none _)
   | (with_reducible refine LeO.ite ?_ ?_)
   | (with_reducible refine LeO.bind ?_ (fun _ => ?_))
   | exact ih0 _ _ _ _ _ _ _ _ _ _ _ _
   | exact ih1 _ _ _ _ _ _ _ _ _ _ _ _ _ _ _
   | exact LeO.none _
   | refine LeO.ite ?_ ?_
   | refine LeO.bind ?_ (fun _ => ?_)
def impl_board.T4 : Bool × List (List Nat × List Nat) := (true, [([], []), ([0], [0]), ([], []), ([2], [2]), ([3], [3]), ([1, 4, 3], [1, 4]), ([0, 1, 2, 3, 4, 5], []), ([6, 5, 5, 0, 1, 2, 3, 4, 5], [5, 6])])
def impl_board.B4 : List Nat := [0, 1, 0, 4, 12, 31, 63, 127]
theorem impl_board.tab4 : rtab .any (opsOf Try.f57 4) = impl_board.T4 := by kernel_rfl
theorem impl_board.bits4 : waitsOk impl_board.T4.2 impl_board.B4 = true := by kernel_rfl
def impl_board.T16 : Bool × List (List Nat × List Nat) := (true, [([], []), ([], []), ([], []), ([], []), ([], []), ([4], [4]), ([], []), ([], []), ([], []), ([0, 1, 0, 1], [0, 1]), ([9, 0, 1], [9]), ([2, 3, 0, 1, 2, 3, 7, 9, 10], [2, 3]), ([11, 7, 10, 0, 1, 2, 3, 7, 9, 10], [7, 11]), ([5, 6, 0, 1, 2, 3, 4, 5, 6, 7, 8, 9, 10, 11, 12], [5, 6]), ([13, 8, 12, 0, 1, 2, 3, 4, 5, 6, 7, 8, 9, 10, 11, 12], [8, 13])])
def impl_board.B16 : List Nat := [0, 0, 0, 0, 0, 16, 0, 0, 0, 3, 515, 1679, 3727, 8191, 16383]
theorem impl_board.tab16 : rtab .any (opsOf Try.f57 16) = impl_board.T16 := by kernel_rfl
theorem impl_board.bits16 : waitsOk impl_board.T16.2 impl_board.B16 = true := by kernel_rfl
def impl_board.T26 : Bool × List (List Nat × List Nat) := (true, [([], []), ([0], [0]), ([], []), ([2], [2]), ([3], [3]), ([1, 4, 3], [1, 4]), ([0, 1, 2, 3, 4, 5], []), ([6, 5, 5, 0, 1, 2, 3, 4, 5], [5, 6])])
def impl_board.B26 : List Nat := [0, 1, 0, 4, 12, 31, 63, 127]
theorem impl_board.tab26 : rtab .any (opsOf Try.f57 26) = impl_board.T26 := by kernel_rfl
theorem impl_board.bits26 : waitsOk impl_board.T26.2 impl_board.B26 = true := by kernel_rfl
set_option maxHeartbeats 8000000 in
set_option maxRecDepth 100000 in
theorem impl_board.calls (k : Nat) (a0 : Int) (a1 : Int) (A2 : Option Addr) (c2 : Nat) (l2 : List Int) (r1 : List Int) (r2 : List Int) (r3 : List Int) (r4 : List (List Int)) (w : World) (hr2 : Kd.C (Kd.int .i64) w A2 l2.length l2) (hc2 : l2.length ≤ c2) (h : impl_board.f k a0 a1 l2 = some (r1, r2, r3, r4)) :
  Calls Try.prog 57 #[.int .i64 a0, .int .i64 a1, .slice A2 l2.length c2] w fun e w' => ∃ v0_ v1_ v2_ v3_ : Value, e = .returned (.agg #[v0_, v1_, v2_, v3_]) ∧ Kd.R (Kd.int .i64) 3 w' w.heap.size (fun k_ => some k_ ≠ (v1_ : Value).ownBlock ∧ some k_ ≠ (v2_ : Value).ownBlock) v0_ r1 ∧ Kd.R (Kd.int .i64) 3 w' w.heap.size (fun k_ => some k_ ≠ (v0_ : Value).ownBlock ∧ some k_ ≠ (v2_ : Value).ownBlock) v1_ r2 ∧ Kd.R (Kd.int .i64) 3 w' w.heap.size (fun k_ => some k_ ≠ (v0_ : Value).ownBlock ∧ some k_ ≠ (v1_ : Value).ownBlock) v2_ r3 ∧ Kd.S (Kd.slice 3 (Kd.int .i64)) 25 w' w.heap.size (fun k_ => some k_ ≠ (v0_ : Value).ownBlock ∧ some k_ ≠ (v1_ : Value).ownBlock ∧ some k_ ≠ (v2_ : Value).ownBlock) v3_ r4 ∧ Below w.heap.size w w' := by
 have hu79 := Try.underlying79
 have HR2 := Aside0.mk hr2
 have HC2 := Aside0.mk hc2
 clear hr2 hc2
 have HB := Aside0.mk (Below.refl w.heap.size w)
 have H : (if 0 ≤ a0 then (if (a0 : Int).toNat ≤ 35184372088832 then ((slices_Repeat_int_int.f (([(-1)] : List Int)) a0).bind fun t240 => ((slices_Repeat_int_int.f (([(-1)] : List Int)) a0).bind fun t249 => ((slices_Clone_int_int.f t249).bind fun t252 => (if ([] : List (List Int)).length < 5864062014805 then (impl_board.l0 k a0 a1 l2 t240 (List.replicate (a0 : Int).toNat 0) t249 a0 1 (List.replicate (a0 : Int).toNat 0) (List.replicate (a0 : Int).toNat 0) (List.replicate (a0 : Int).toNat 0) (([] : List (List Int)) ++ [t252])) else (none))))) else (none)) else (none)) = some (r1, r2, r3, r4) := h
 clear h
 by_cases c4 : 0 ≤ a0
 ·rw [if_pos c4] at H
  have c4b0 := eq_true c4
  have c4b1 : decide (0 ≤ a0) = true := decide_eq_true c4
  clear c4
  by_cases c5 : (a0 : Int).toNat ≤ 35184372088832
  ·rw [if_pos c5] at H
   have c5b0 := eq_true c5
   have c5b1 : decide ((a0 : Int).toNat ≤ 35184372088832) = true := decide_eq_true c5
   clear c5
   obtain ⟨y227, hy227⟩ : ∃ y_ : List Int, y_ = (List.replicate (a0 : Int).toNat 0) := ⟨_, rfl⟩
   replace H : ((slices_Repeat_int_int.f (([(-1)] : List Int)) a0).bind fun t240 => ((slices_Repeat_int_int.f (([(-1)] : List Int)) a0).bind fun t249 => ((slices_Clone_int_int.f t249).bind fun t252 => (if ([] : List (List Int)).length < 5864062014805 then (impl_board.l0 k a0 a1 l2 t240 (List.replicate (a0 : Int).toNat 0) t249 a0 1 y227 (List.replicate (a0 : Int).toNat 0) (List.replicate (a0 : Int).toNat 0) (([] : List (List Int)) ++ [t252])) else (none))))) = some (r1, r2, r3, r4) := by first | (rw [hy227]; with_reducible exact H) | (have H2_ := (Option.bind_some _ _).symm.trans H; rw [hy227]; with_reducible exact H2_) | (have H2_ := (Option.bind_some _ _).symm.trans H; with_reducible exact H2_) | with_reducible exact H | (rw [hy227]; exact H) | exact H
   have Ny227 := Aside0.mk hy227
   clear hy227
   obtain ⟨y230, hy230⟩ : ∃ y_ : List Int, y_ = (List.replicate (a0 : Int).toNat 0) := ⟨_, rfl⟩
   replace H : ((slices_Repeat_int_int.f (([(-1)] : List Int)) a0).bind fun t240 => ((slices_Repeat_int_int.f (([(-1)] : List Int)) a0).bind fun t249 => ((slices_Clone_int_int.f t249).bind fun t252 => (if ([] : List (List Int)).length < 5864062014805 then (impl_board.l0 k a0 a1 l2 t240 (List.replicate (a0 : Int).toNat 0) t249 a0 1 y227 y230 (List.replicate (a0 : Int).toNat 0) (([] : List (List Int)) ++ [t252])) else (none))))) = some (r1, r2, r3, r4) := by first | (rw [hy230]; with_reducible exact H) | (have H2_ := (Option.bind_some _ _).symm.trans H; rw [hy230]; with_reducible exact H2_) | (have H2_ := (Option.bind_some _ _).symm.trans H; with_reducible exact H2_) | with_reducible exact H | (rw [hy230]; exact H) | exact H
   have Ny230 := Aside0.mk hy230
   clear hy230
   obtain ⟨y233, hy233⟩ : ∃ y_ : List Int, y_ = (List.replicate (a0 : Int).toNat 0) := ⟨_, rfl⟩
   replace H : ((slices_Repeat_int_int.f (([(-1)] : List Int)) a0).bind fun t240 => ((slices_Repeat_int_int.f (([(-1)] : List Int)) a0).bind fun t249 => ((slices_Clone_int_int.f t249).bind fun t252 => (if ([] : List (List Int)).length < 5864062014805 then (impl_board.l0 k a0 a1 l2 t240 (List.replicate (a0 : Int).toNat 0) t249 a0 1 y227 y230 y233 (([] : List (List Int)) ++ [t252])) else (none))))) = some (r1, r2, r3, r4) := by first | (rw [hy233]; with_reducible exact H) | (have H2_ := (Option.bind_some _ _).symm.trans H; rw [hy233]; with_reducible exact H2_) | (have H2_ := (Option.bind_some _ _).symm.trans H; with_reducible exact H2_) | with_reducible exact H | (rw [hy233]; exact H) | exact H
   have Ny233 := Aside0.mk hy233
   clear hy233
   obtain ⟨y237, hy237⟩ : ∃ y_ : List Int, y_ = (([(-1)] : List Int)) := ⟨_, rfl⟩
   replace H : ((slices_Repeat_int_int.f y237 a0).bind fun t240 => ((slices_Repeat_int_int.f (([(-1)] : List Int)) a0).bind fun t249 => ((slices_Clone_int_int.f t249).bind fun t252 => (if ([] : List (List Int)).length < 5864062014805 then (impl_board.l0 k a0 a1 l2 t240 (List.replicate (a0 : Int).toNat 0) t249 a0 1 y227 y230 y233 (([] : List (List Int)) ++ [t252])) else (none))))) = some (r1, r2, r3, r4) := by first | (rw [hy237]; with_reducible exact H) | (have H2_ := (Option.bind_some _ _).symm.trans H; rw [hy237]; with_reducible exact H2_) | (have H2_ := (Option.bind_some _ _).symm.trans H; with_reducible exact H2_) | with_reducible exact H | (rw [hy237]; exact H) | exact H
   have Ny237 := Aside0.mk hy237
   clear hy237
   replace H := Option.bind_eq_some_iff.mp H
   obtain ⟨t240, A60, H⟩ := H
   replace H : ((slices_Repeat_int_int.f (([(-1)] : List Int)) a0).bind fun t249 => ((slices_Clone_int_int.f t249).bind fun t252 => (if ([] : List (List Int)).length < 5864062014805 then (impl_board.l0 k a0 a1 l2 t240 (List.replicate (a0 : Int).toNat 0) t249 a0 1 y227 y230 y233 (([] : List (List Int)) ++ [t252])) else (none)))) = some (r1, r2, r3, r4) := H
   have A6 := Aside0.mk A60
   clear A60
   obtain ⟨y243, hy243⟩ : ∃ y_ : List Int, y_ = (List.replicate (a0 : Int).toNat 0) := ⟨_, rfl⟩
   replace H : ((slices_Repeat_int_int.f (([(-1)] : List Int)) a0).bind fun t249 => ((slices_Clone_int_int.f t249).bind fun t252 => (if ([] : List (List Int)).length < 5864062014805 then (impl_board.l0 k a0 a1 l2 t240 y243 t249 a0 1 y227 y230 y233 (([] : List (List Int)) ++ [t252])) else (none)))) = some (r1, r2, r3, r4) := by first | (rw [hy243]; with_reducible exact H) | (have H2_ := (Option.bind_some _ _).symm.trans H; rw [hy243]; with_reducible exact H2_) | (have H2_ := (Option.bind_some _ _).symm.trans H; with_reducible exact H2_) | with_reducible exact H | (rw [hy243]; exact H) | exact H
   have Ny243 := Aside0.mk hy243
   clear hy243
   obtain ⟨y246, hy246⟩ : ∃ y_ : List Int, y_ = (([(-1)] : List Int)) := ⟨_, rfl⟩
   replace H : ((slices_Repeat_int_int.f y246 a0).bind fun t249 => ((slices_Clone_int_int.f t249).bind fun t252 => (if ([] : List (List Int)).length < 5864062014805 then (impl_board.l0 k a0 a1 l2 t240 y243 t249 a0 1 y227 y230 y233 (([] : List (List Int)) ++ [t252])) else (none)))) = some (r1, r2, r3, r4) := by first | (rw [hy246]; with_reducible exact H) | (have H2_ := (Option.bind_some _ _).symm.trans H; rw [hy246]; with_reducible exact H2_) | (have H2_ := (Option.bind_some _ _).symm.trans H; with_reducible exact H2_) | with_reducible exact H | (rw [hy246]; exact H) | exact H
   have Ny246 := Aside0.mk hy246
   clear hy246
   replace H := Option.bind_eq_some_iff.mp H
   obtain ⟨t249, A70, H⟩ := H
   replace H : ((slices_Clone_int_int.f t249).bind fun t252 => (if ([] : List (List Int)).length < 5864062014805 then (impl_board.l0 k a0 a1 l2 t240 y243 t249 a0 1 y227 y230 y233 (([] : List (List Int)) ++ [t252])) else (none))) = some (r1, r2, r3, r4) := H
   have A7 := Aside0.mk A70
   clear A70
   replace H := Option.bind_eq_some_iff.mp H
   obtain ⟨t252, A80, H⟩ := H
   replace H : (if ([] : List (List Int)).length < 5864062014805 then (impl_board.l0 k a0 a1 l2 t240 y243 t249 a0 1 y227 y230 y233 (([] : List (List Int)) ++ [t252])) else (none)) = some (r1, r2, r3, r4) := H
   have A8 := Aside0.mk A80
   clear A80
   by_cases c9 : ([] : List (List Int)).length < 5864062014805
   ·rw [if_pos c9] at H
    have LMc9 := Aside0.mk c9
    clear c9
    obtain ⟨y255, hy255⟩ : ∃ y_ : List (List Int), y_ = (([] : List (List Int)) ++ [t252]) := ⟨_, rfl⟩
    replace H : (impl_board.l0 k a0 a1 l2 t240 y243 t249 a0 1 y227 y230 y233 y255) = some (r1, r2, r3, r4) := by first | (rw [hy255]; with_reducible exact H) | (have H2_ := (Option.bind_some _ _).symm.trans H; rw [hy255]; with_reducible exact H2_) | (have H2_ := (Option.bind_some _ _).symm.trans H; with_reducible exact H2_) | with_reducible exact H | (rw [hy255]; exact H) | exact H
    have Ny255 := Aside0.mk hy255
    clear hy255
    have H' := Aside0.mk H
    clear H
    go_enter Try.func57, Try.ntmps57
    try go_wp2_with (first | ((with_reducible refine gate_dst (N := 6) rfl ?_); refine box_event ?hg (N := 6) ?hd (cs := #[.slice none 0 0, .slice none 0 0, .slice none 0 0, .slice none 0 0]) (t := 79) ?hr ?_; (case hd => rfl); (case hg => rfl); (case hr => first | (go_simp; done) | (go_simp; rfl)); intro gb226 hg w10 hbox hb; have n0_ := Aside0.mk (below_step (by repeat (first | (with_reducible first | exact HB.out | apply below_alloc | apply pw_below_drewN | apply below_drew1) | exact HB.out)) hb); have n1_ := Aside0.mk (hbox); have n2_ := Aside0.mk ((by rw [hg]; exact (below_size (by repeat (first | (with_reducible first | exact HB.out | apply below_alloc | apply pw_below_drewN | apply below_drew1) | exact HB.out))) : w.heap.size ≤ gb226)); have n3_ := Aside0.mk ((by rw [hg]; exact (below_size (by repeat (first | (with_reducible first | exact HB.out | apply below_alloc | apply pw_below_drewN | apply below_drew1) | exact HB.out))) : w.heap.size ≤ gb226)); clear HB; have HB := n0_; have BK226 := n1_; have GW226 := n2_; have GE226 := n3_; clear n0_ n1_ n2_ n3_; clear hb hbox hg))
    have n0_ := Aside0.mk (blk_drew BK226.out)
    have n1_ := Aside0.mk (below_drew1 HB.out)
    clear BK226
    clear HB
    have BK226 := n0_
    have HB := n1_
    clear n0_ n1_
    refine start_ (n := 9) (S := fun w' => True) (ds := []) #[false, false, false, false, false, false, false, false, false] (by kernel_rfl) rfl rfl trivial (fun hHeld => ?_); refine with_tabW impl_board.tab1 impl_board.bits1 (fun HT_ HW_ => ?_)
    generalize w10.drew = w11 at BK226 HB hHeld ⊢
    refine pure_ (i := 0) (N := some 16) (v := ?_) (a' := ?_) #[true, false, false, false, false, false, false, false, false] rfl rfl (any_of HT_.out (by kernel_rfl)) (fun _ _ _ h => h) (Or.inl ⟨by rfl, ?_⟩) ?_ ?_
    rotate_left
    ·intro w'
     go_simp
     with_reducible rfl
    rotate_left
    ·simp only [Act.put, List.setIfInBounds_toArray, List.set_cons_zero, List.set_cons_succ, i64_w, i32_w]
     rfl
    refine pure_ (i := 2) (N := some 18) (v := ?_) (a' := ?_) #[true, false, true, false, false, false, false, false, false] rfl rfl (any_of HT_.out (by kernel_rfl)) (fun _ _ _ h => h) (Or.inl ⟨by rfl, ?_⟩) ?_ ?_
    rotate_left
    ·intro w'
     go_simp
     with_reducible rfl
    rotate_left
    ·simp only [Act.put, List.setIfInBounds_toArray, List.set_cons_zero, List.set_cons_succ, i64_w, i32_w]
     rfl
    refine pure_ (i := 4) (N := some 20) (v := ?_) (a' := ?_) #[true, false, true, false, true, false, false, false, false] rfl rfl (any_of HT_.out (by kernel_rfl)) (fun _ _ _ h => h) (Or.inl ⟨by rfl, ?_⟩) ?_ ?_
    rotate_left
    ·intro w'
     go_simp
     with_reducible rfl
    rotate_left
    ·simp only [Act.put, List.setIfInBounds_toArray, List.set_cons_zero, List.set_cons_succ, i64_w, i32_w]
     rfl
    refine joinX6_ (σ := Value × Value × Value × Nat) 1 #[true, true, true, true, true, true, true, true, false] (fun s_ => [(17, s_.1), (19, s_.2.1), (21, s_.2.2.1), (7, .pointer (some ⟨s_.2.2.2, 0, none⟩)), (22, .agg #[s_.1, s_.2.1, s_.2.2.1, .slice none 0 0])]) (fun s_ w' => (Kd.R (Kd.int .i64) 3 w' w.heap.size (fun k_ => some k_ ≠ (s_.2.1 : Value).ownBlock ∧ some k_ ≠ (s_.2.2.1 : Value).ownBlock) s_.1 y227) ∧ (Kd.R (Kd.int .i64) 3 w' w.heap.size (fun k_ => some k_ ≠ (s_.1 : Value).ownBlock ∧ some k_ ≠ (s_.2.2.1 : Value).ownBlock) s_.2.1 y230) ∧ (Kd.R (Kd.int .i64) 3 w' w.heap.size (fun k_ => some k_ ≠ (s_.1 : Value).ownBlock ∧ some k_ ≠ (s_.2.1 : Value).ownBlock) s_.2.2.1 y233) ∧ (w'.heap[gb226]? = some (.cells #[.slice none 0 0, .slice none 0 0, .slice none 0 0, .slice none 0 0] 79 (0, 0))) ∧ (w'.heap[s_.2.2.2]? = some (.cells #[.slice none 0 0, .slice none 0 0, .slice none 0 0, .slice none 0 0] 79 (0, 0))) ∧ (w.heap.size ≤ s_.2.2.2) ∧ (w.heap.size ≤ s_.2.2.2) ∧ (gb226 ≠ s_.2.2.2) ∧ (s_.2.2.2 ≠ gb226) ∧ (Below w.heap.size w w')) ?_ ?_
    intro hJ1_3_5_7
    exact impl_board.r1 k a0 a1 A2 c2 l2 w y227 y230 y233 gb226 w11 c4b0 c4b1 c5b0 c5b1 Ny227 Ny230 Ny233 GE226 HT_ BK226 HB _ _ hJ1_3_5_7
    rintro ⟨v228, v231, v234, gb236⟩ w22 ⟨h0_, h1_, h2_, h3_, h4_, h5_, h6_, h7_, h8_, h9_⟩
    have n0_ : Aside0 (Kd.R (Kd.int .i64) 3 w22 w.heap.size (fun k_ => some k_ ≠ (v231 : Value).ownBlock ∧ some k_ ≠ (v234 : Value).ownBlock) v228 y227) := ⟨h0_⟩
    have n1_ : Aside0 (Kd.R (Kd.int .i64) 3 w22 w.heap.size (fun k_ => some k_ ≠ (v228 : Value).ownBlock ∧ some k_ ≠ (v234 : Value).ownBlock) v231 y230) := ⟨h1_⟩
    have n2_ : Aside0 (Kd.R (Kd.int .i64) 3 w22 w.heap.size (fun k_ => some k_ ≠ (v228 : Value).ownBlock ∧ some k_ ≠ (v231 : Value).ownBlock) v234 y233) := ⟨h2_⟩
    have n3_ : Aside0 (w22.heap[gb226]? = some (.cells #[.slice none 0 0, .slice none 0 0, .slice none 0 0, .slice none 0 0] 79 (0, 0))) := ⟨h3_⟩
    have n4_ : Aside0 (w22.heap[gb236]? = some (.cells #[.slice none 0 0, .slice none 0 0, .slice none 0 0, .slice none 0 0] 79 (0, 0))) := ⟨h4_⟩
    have n5_ : Aside0 (w.heap.size ≤ gb236) := ⟨h5_⟩
    have n6_ : Aside0 (w.heap.size ≤ gb236) := ⟨h6_⟩
    have n7_ : Aside0 (gb226 ≠ gb236) := ⟨h7_⟩
    have n8_ : Aside0 (gb236 ≠ gb226) := ⟨h8_⟩
    have n9_ : Aside0 (Below w.heap.size w w22) := ⟨h9_⟩
    clear BK226
    clear HB
    clear h0_ h1_ h2_ h3_ h4_ h5_ h6_ h7_ h8_ h9_
    have HO229 := n0_
    have HO232 := n1_
    have HO235 := n2_
    have BK226 := n3_
    have BK236 := n4_
    have GW236 := n5_
    have GE236 := n6_
    have NB226_236 := n7_
    have NB236_226 := n8_
    have HB := n9_
    clear n0_ n1_ n2_ n3_ n4_ n5_ n6_ n7_ n8_ n9_
    have hHeld := trivial
    obtain ⟨Ao23, co23, eo23⟩ := Kd.R_slice HO235.out
    (first | subst eo23 | (injection eo23 with f1_ f2_ f3_; have f4_ := f1_.symm; have f5_ := f3_.symm; clear f1_ f2_ f3_; subst f4_; subst f5_))
    obtain ⟨Ao24, co24, eo24⟩ := Kd.R_slice HO232.out
    (first | subst eo24 | (injection eo24 with f1_ f2_ f3_; have f4_ := f1_.symm; have f5_ := f3_.symm; clear f1_ f2_ f3_; subst f4_; subst f5_))
    obtain ⟨Ao25, co25, eo25⟩ := Kd.R_slice HO229.out
    (first | subst eo25 | (injection eo25 with f1_ f2_ f3_; have f4_ := f1_.symm; have f5_ := f3_.symm; clear f1_ f2_ f3_; subst f4_; subst f5_))
    refine norm_ (a' := ?_) ?_ ?_
    rotate_left
    ·simp only [putAll, Act.put, List.setIfInBounds_toArray, List.set_cons_zero, List.set_cons_succ]
     rfl
    refine one_ (i := 8) (N := none) #[true, true, true, true, true, true, true, true, true] rfl rfl (one_of HT_.out (by kernel_rfl)) (by decide) (fun K hK => ?_)
    have hs26 : w22.cell? ⟨gb236, 0, none⟩ = some (.slice none 0 0) := (blk_cell BK236.out 0).trans rfl
    have hfs26 := blk_frozen BK236.out 0
    have hns26_0 := NB226_236.out
    have hms26_0 := NB236_226.out
    have hs27 : w22.cell? ⟨gb236, 1, none⟩ = some (.slice none 0 0) := (blk_cell BK236.out 1).trans rfl
    have hfs27 := blk_frozen BK236.out 1
    have hns27_0 := NB226_236.out
    have hms27_0 := NB236_226.out
    have hs28 : w22.cell? ⟨gb236, 2, none⟩ = some (.slice none 0 0) := (blk_cell BK236.out 2).trans rfl
    have hfs28 := blk_frozen BK236.out 2
    have hns28_0 := NB226_236.out
    have hms28_0 := NB236_226.out
    have hs29 : w22.cell? ⟨gb236, 3, none⟩ = some (.slice none 0 0) := (blk_cell BK236.out 3).trans rfl
    have hfs29 := blk_frozen BK236.out 3
    have hns29_0 := NB226_236.out
    have hms29_0 := NB236_226.out
    refine skip_ (w1 := ?_) (by rfl) rfl ?_ ?_
    rotate_left
    ·go_simp
     rfl
    refine hK.out _ _ trivial (fun hHeld => ?_)
    clear hK K
    refine done_ (done_of HT_.out (by kernel_rfl)) ?_
    try go_wp2
    have n0_ : Aside0 (Kd.R (Kd.int .i64) 3 ((((w22.setCell ⟨gb236, 0, none⟩ (.slice Ao25 y227.length co25)).setCell ⟨gb236, 1, none⟩ (.slice Ao24 y230.length co24)).setCell ⟨gb236, 2, none⟩ (.slice Ao23 y233.length co23)).setCell ⟨gb236, 3, none⟩ (.slice none 0 0)) w.heap.size (fun k_ => some k_ ≠ (.slice Ao24 y230.length co24 : Value).ownBlock ∧ some k_ ≠ (.slice Ao23 y233.length co23 : Value).ownBlock) (.slice Ao25 y227.length co25) y227) := ⟨by (with_reducible repeat (first | apply Kd.R_alloc | apply Kd.R_drewN | apply Kd.R_drew)); exact Kd.R_mono (Kd.R_far (p := ⟨gb236, 3, none⟩) (Kd.R_far (p := ⟨gb236, 2, none⟩) (Kd.R_far (p := ⟨gb236, 1, none⟩) (Kd.R_far (p := ⟨gb236, 0, none⟩) (Kd.R_types HO229.out BK236.out (by decide)) (fun _ hk => hk.2) (.slice Ao25 y227.length co25)) (fun _ hk => hk.2) (.slice Ao24 y230.length co24)) (fun _ hk => hk.2) (.slice Ao23 y233.length co23)) (fun _ hk => hk.2) (.slice none 0 0)) (fun _ hk => ⟨hk.1.1, hk.1.2⟩)⟩
    have n1_ : Aside0 (Kd.R (Kd.int .i64) 3 ((((w22.setCell ⟨gb236, 0, none⟩ (.slice Ao25 y227.length co25)).setCell ⟨gb236, 1, none⟩ (.slice Ao24 y230.length co24)).setCell ⟨gb236, 2, none⟩ (.slice Ao23 y233.length co23)).setCell ⟨gb236, 3, none⟩ (.slice none 0 0)) w.heap.size (fun k_ => some k_ ≠ (.slice Ao25 y227.length co25 : Value).ownBlock ∧ some k_ ≠ (.slice Ao23 y233.length co23 : Value).ownBlock) (.slice Ao24 y230.length co24) y230) := ⟨by (with_reducible repeat (first | apply Kd.R_alloc | apply Kd.R_drewN | apply Kd.R_drew)); exact Kd.R_mono (Kd.R_far (p := ⟨gb236, 3, none⟩) (Kd.R_far (p := ⟨gb236, 2, none⟩) (Kd.R_far (p := ⟨gb236, 1, none⟩) (Kd.R_far (p := ⟨gb236, 0, none⟩) (Kd.R_types HO232.out BK236.out (by decide)) (fun _ hk => hk.2) (.slice Ao25 y227.length co25)) (fun _ hk => hk.2) (.slice Ao24 y230.length co24)) (fun _ hk => hk.2) (.slice Ao23 y233.length co23)) (fun _ hk => hk.2) (.slice none 0 0)) (fun _ hk => ⟨hk.1.1, hk.1.2⟩)⟩
    have n2_ : Aside0 (Kd.R (Kd.int .i64) 3 ((((w22.setCell ⟨gb236, 0, none⟩ (.slice Ao25 y227.length co25)).setCell ⟨gb236, 1, none⟩ (.slice Ao24 y230.length co24)).setCell ⟨gb236, 2, none⟩ (.slice Ao23 y233.length co23)).setCell ⟨gb236, 3, none⟩ (.slice none 0 0)) w.heap.size (fun k_ => some k_ ≠ (.slice Ao25 y227.length co25 : Value).ownBlock ∧ some k_ ≠ (.slice Ao24 y230.length co24 : Value).ownBlock) (.slice Ao23 y233.length co23) y233) := ⟨by (with_reducible repeat (first | apply Kd.R_alloc | apply Kd.R_drewN | apply Kd.R_drew)); exact Kd.R_mono (Kd.R_far (p := ⟨gb236, 3, none⟩) (Kd.R_far (p := ⟨gb236, 2, none⟩) (Kd.R_far (p := ⟨gb236, 1, none⟩) (Kd.R_far (p := ⟨gb236, 0, none⟩) (Kd.R_types HO235.out BK236.out (by decide)) (fun _ hk => hk.2) (.slice Ao25 y227.length co25)) (fun _ hk => hk.2) (.slice Ao24 y230.length co24)) (fun _ hk => hk.2) (.slice Ao23 y233.length co23)) (fun _ hk => hk.2) (.slice none 0 0)) (fun _ hk => ⟨hk.1.1, hk.1.2⟩)⟩
    have n3_ : Aside0 (((((w22.setCell ⟨gb236, 0, none⟩ (.slice Ao25 y227.length co25)).setCell ⟨gb236, 1, none⟩ (.slice Ao24 y230.length co24)).setCell ⟨gb236, 2, none⟩ (.slice Ao23 y233.length co23)).setCell ⟨gb236, 3, none⟩ (.slice none 0 0)).heap[gb226]? = some (.cells #[.slice none 0 0, .slice none 0 0, .slice none 0 0, .slice none 0 0] 79 (0, 0))) := ⟨by (with_reducible repeat (first | refine blk_drewN ?_ _ | refine blk_drew ?_ | refine blk_alloc ?_ _)); refine blk_far ?_ NB226_236.out _; (with_reducible repeat (first | refine blk_drewN ?_ _ | refine blk_drew ?_ | refine blk_alloc ?_ _)); refine blk_far ?_ NB226_236.out _; (with_reducible repeat (first | refine blk_drewN ?_ _ | refine blk_drew ?_ | refine blk_alloc ?_ _)); refine blk_far ?_ NB226_236.out _; (with_reducible repeat (first | refine blk_drewN ?_ _ | refine blk_drew ?_ | refine blk_alloc ?_ _)); refine blk_far ?_ NB226_236.out _; (with_reducible repeat (first | refine blk_drewN ?_ _ | refine blk_drew ?_ | refine blk_alloc ?_ _)); exact BK226.out⟩
    have n4_ : Aside0 (((((w22.setCell ⟨gb236, 0, none⟩ (.slice Ao25 y227.length co25)).setCell ⟨gb236, 1, none⟩ (.slice Ao24 y230.length co24)).setCell ⟨gb236, 2, none⟩ (.slice Ao23 y233.length co23)).setCell ⟨gb236, 3, none⟩ (.slice none 0 0)).heap[gb236]? = some (.cells #[.slice Ao25 y227.length co25, .slice Ao24 y230.length co24, .slice Ao23 y233.length co23, .slice none 0 0] 79 (0, 0))) := ⟨by (with_reducible repeat (first | refine blk_drewN ?_ _ | refine blk_drew ?_ | refine blk_alloc ?_ _)); refine blk_put (cs := #[.slice Ao25 y227.length co25, .slice Ao24 y230.length co24, .slice Ao23 y233.length co23, .slice none 0 0]) ?_ 3 _ rfl; (with_reducible repeat (first | refine blk_drewN ?_ _ | refine blk_drew ?_ | refine blk_alloc ?_ _)); refine blk_put (cs := #[.slice Ao25 y227.length co25, .slice Ao24 y230.length co24, .slice none 0 0, .slice none 0 0]) ?_ 2 _ rfl; (with_reducible repeat (first | refine blk_drewN ?_ _ | refine blk_drew ?_ | refine blk_alloc ?_ _)); refine blk_put (cs := #[.slice Ao25 y227.length co25, .slice none 0 0, .slice none 0 0, .slice none 0 0]) ?_ 1 _ rfl; (with_reducible repeat (first | refine blk_drewN ?_ _ | refine blk_drew ?_ | refine blk_alloc ?_ _)); refine blk_put (cs := #[.slice none 0 0, .slice none 0 0, .slice none 0 0, .slice none 0 0]) ?_ 0 _ rfl; (with_reducible repeat (first | refine blk_drewN ?_ _ | refine blk_drew ?_ | refine blk_alloc ?_ _)); exact BK236.out⟩
    have n5_ : Aside0 (Below w.heap.size w ((((w22.setCell ⟨gb236, 0, none⟩ (.slice Ao25 y227.length co25)).setCell ⟨gb236, 1, none⟩ (.slice Ao24 y230.length co24)).setCell ⟨gb236, 2, none⟩ (.slice Ao23 y233.length co23)).setCell ⟨gb236, 3, none⟩ (.slice none 0 0))) := ⟨by repeat (first | (with_reducible first | exact HB.out | apply below_alloc | apply pw_below_drewN | apply below_drew1 | refine below_set ?_ GE226.out | refine below_set ?_ GE236.out) | exact HB.out)⟩
    (try clear HO229)
    (try clear HO232)
    (try clear HO235)
    (try clear BK226)
    (try clear BK236)
    (try clear HB)
    generalize ((((w22.setCell ⟨gb236, 0, none⟩ (.slice Ao25 y227.length co25)).setCell ⟨gb236, 1, none⟩ (.slice Ao24 y230.length co24)).setCell ⟨gb236, 2, none⟩ (.slice Ao23 y233.length co23)).setCell ⟨gb236, 3, none⟩ (.slice none 0 0)) = w30 at n0_ n1_ n2_ n3_ n4_ n5_ ⊢
    have HO229 := n0_
    have HO232 := n1_
    have HO235 := n2_
    have BK226 := n3_
    have BK236 := n4_
    have HB := n5_
    clear n0_ n1_ n2_ n3_ n4_ n5_
    have n0_ := Aside0.mk (Kd.R_drew HO229.out)
    have n1_ := Aside0.mk (Kd.R_drew HO232.out)
    have n2_ := Aside0.mk (Kd.R_drew HO235.out)
    have n3_ := Aside0.mk (blk_drew BK226.out)
    have n4_ := Aside0.mk (blk_drew BK236.out)
    have n5_ := Aside0.mk (below_drew1 HB.out)
    clear HO229
    clear HO232
    clear HO235
    clear BK226
    clear BK236
    clear HB
    have HO229 := n0_
    have HO232 := n1_
    have HO235 := n2_
    have BK226 := n3_
    have BK236 := n4_
    have HB := n5_
    clear n0_ n1_ n2_ n3_ n4_ n5_
    refine start_ (n := 7) (S := fun w' => True) (ds := []) #[false, false, false, false, false, false, false] (by kernel_rfl) rfl rfl trivial (fun hHeld => ?_)
    generalize w30.drew = w31 at HO229 HO232 HO235 BK226 BK236 HB hHeld ⊢
    refine pure_ (i := 1) (N := some 24) (v := ?_) (a' := ?_) #[false, true, false, false, false, false, false] rfl rfl (by kernel_rfl) (fun _ _ _ h => h) (Or.inl ⟨by rfl, ?_⟩) ?_ ?_
    rotate_left
    ·intro w'
     go_simp
     with_reducible rfl
    rotate_left
    ·simp only [Act.put, List.setIfInBounds_toArray, List.set_cons_zero, List.set_cons_succ, i64_w, i32_w]
     rfl
    refine pure_ (i := 3) (N := some 26) (v := ?_) (a' := ?_) #[false, true, false, true, false, false, false] rfl rfl (by kernel_rfl) (fun _ _ _ h => h) (Or.inl ⟨by rfl, ?_⟩) ?_ ?_
    rotate_left
    ·intro w'
     go_simp
     with_reducible rfl
    rotate_left
    ·simp only [Act.put, List.setIfInBounds_toArray, List.set_cons_zero, List.set_cons_succ, i64_w, i32_w]
     rfl
    refine join_ (σ := Value × Value × Value) 1 #[true, true, true, true, true, true, false] (fun s_ => [(23, s_.1), (25, s_.2.1), (27, s_.2.2), (8, s_.2.1)]) (fun s_ w' => (Kd.R (Kd.int .i64) 3 w' w.heap.size (fun k_ => some k_ ≠ (.slice Ao24 y230.length co24 : Value).ownBlock ∧ some k_ ≠ (.slice Ao23 y233.length co23 : Value).ownBlock ∧ some k_ ≠ (s_.1 : Value).ownBlock ∧ some k_ ≠ (s_.2.1 : Value).ownBlock ∧ some k_ ≠ (s_.2.2 : Value).ownBlock) (.slice Ao25 y227.length co25) y227) ∧ (Kd.R (Kd.int .i64) 3 w' w.heap.size (fun k_ => some k_ ≠ (.slice Ao25 y227.length co25 : Value).ownBlock ∧ some k_ ≠ (.slice Ao23 y233.length co23 : Value).ownBlock ∧ some k_ ≠ (s_.1 : Value).ownBlock ∧ some k_ ≠ (s_.2.1 : Value).ownBlock ∧ some k_ ≠ (s_.2.2 : Value).ownBlock) (.slice Ao24 y230.length co24) y230) ∧ (Kd.R (Kd.int .i64) 3 w' w.heap.size (fun k_ => some k_ ≠ (.slice Ao25 y227.length co25 : Value).ownBlock ∧ some k_ ≠ (.slice Ao24 y230.length co24 : Value).ownBlock ∧ some k_ ≠ (s_.1 : Value).ownBlock ∧ some k_ ≠ (s_.2.1 : Value).ownBlock ∧ some k_ ≠ (s_.2.2 : Value).ownBlock) (.slice Ao23 y233.length co23) y233) ∧ (Kd.R (Kd.int .i64) 3 w' w.heap.size (fun k_ => some k_ ≠ (.slice Ao25 y227.length co25 : Value).ownBlock ∧ some k_ ≠ (.slice Ao24 y230.length co24 : Value).ownBlock ∧ some k_ ≠ (.slice Ao23 y233.length co23 : Value).ownBlock ∧ some k_ ≠ (s_.2.1 : Value).ownBlock ∧ some k_ ≠ (s_.2.2 : Value).ownBlock) s_.1 y237) ∧ (Kd.R (Kd.int .i64) 3 w' w.heap.size (fun k_ => some k_ ≠ (.slice Ao25 y227.length co25 : Value).ownBlock ∧ some k_ ≠ (.slice Ao24 y230.length co24 : Value).ownBlock ∧ some k_ ≠ (.slice Ao23 y233.length co23 : Value).ownBlock ∧ some k_ ≠ (s_.1 : Value).ownBlock ∧ some k_ ≠ (s_.2.2 : Value).ownBlock) s_.2.1 t240) ∧ (Kd.R (Kd.int .i64) 3 w' w.heap.size (fun k_ => some k_ ≠ (.slice Ao25 y227.length co25 : Value).ownBlock ∧ some k_ ≠ (.slice Ao24 y230.length co24 : Value).ownBlock ∧ some k_ ≠ (.slice Ao23 y233.length co23 : Value).ownBlock ∧ some k_ ≠ (s_.1 : Value).ownBlock ∧ some k_ ≠ (s_.2.1 : Value).ownBlock) s_.2.2 y243) ∧ (w'.heap[gb226]? = some (.cells #[.slice none 0 0, .slice none 0 0, .slice none 0 0, .slice none 0 0] 79 (0, 0))) ∧ (w'.heap[gb236]? = some (.cells #[.slice Ao25 y227.length co25, .slice Ao24 y230.length co24, .slice Ao23 y233.length co23, .slice none 0 0] 79 (0, 0))) ∧ (Below w.heap.size w w')) ?_ ?_
    rotate_left
    ·intro hCont
     refine two_ (i := 0) (j := 4) (Ni := some 23) (Nj := some 27) #[true, true, false, true, false, false, false] #[false, true, false, true, true, false, false] rfl rfl rfl rfl (by kernel_rfl) (by decide) (by decide) (fun K hK => ?_) (fun K hK => ?_)
     ·refine Kd.R_lit_step (Kd.int .i64) _ 3 ?hg (N := 23) ?hd (xs := ([(-1)] : List Int)) (inner := [.int .i64 (-1)]) (ok := fun _ => True) (okp := fun _ => True) ?hr ?hp (fun _ hk => hk) trivial (Below.refl _ _) (Nat.le_refl _) (by simp) ?_; (case hd => rfl); (case hg => rfl); (case hr => first | (go_simp; done) | (go_simp; rfl)); (case hp => exact (Reps.one (show Kd.M (Kd.int .i64) _ _ _ (-1) [.int .i64 (-1)] from rfl) (Reps.none _ _)))
      intro v238 w32 ho33 hb hg_ hnew_
      clear hg_ hnew_
      rw [← Ny237.out] at ho33
      have n0_ := Aside0.mk (Kd.R_elder' HO229.out (Kd.R_base ho33) hb)
      have n1_ := Aside0.mk (Kd.R_elder' HO232.out (Kd.R_base ho33) hb)
      have n2_ := Aside0.mk (Kd.R_elder' HO235.out (Kd.R_base ho33) hb)
      have n3_ := Aside0.mk (Kd.R_lower (Kd.R_new' (Kd.R_new' (Kd.R_new' ho33 (Kd.R_lt HO229.out)) (Kd.R_lt HO232.out)) (Kd.R_lt HO235.out)) (below_size HB.out))
      have n4_ := Aside0.mk (blk_below (g := gb226) (o := .cells #[.slice none 0 0, .slice none 0 0, .slice none 0 0, .slice none 0 0] 79 (0, 0)) BK226.out hb)
      have n5_ := Aside0.mk (blk_below (g := gb236) (o := .cells #[.slice Ao25 y227.length co25, .slice Ao24 y230.length co24, .slice Ao23 y233.length co23, .slice none 0 0] 79 (0, 0)) BK236.out hb)
      have n6_ := Aside0.mk (below_step HB.out hb)
      clear HO229
      clear HO232
      clear HO235
      clear BK226
      clear BK236
      clear HB
      have HO229 := n0_
      have HO232 := n1_
      have HO235 := n2_
      have HO239 := n3_
      have BK226 := n4_
      have BK236 := n5_
      have HB := n6_
      clear n0_ n1_ n2_ n3_ n4_ n5_ n6_
      clear hb ho33
      obtain ⟨Ao34, co34, eo34⟩ := Kd.R_slice HO239.out
      (first | subst eo34 | (injection eo34 with f1_ f2_ f3_; have f4_ := f1_.symm; have f5_ := f3_.symm; clear f1_ f2_ f3_; subst f4_; subst f5_))
      refine hK.out _ _ trivial (fun hHeld => ?_)
      clear hK K
      refine norm_ (a' := ?_) ?_ ?_
      rotate_left
      ·show Act.put _ (some 23) _ = _
       simp only [Act.put, List.setIfInBounds_toArray, List.set_cons_zero, List.set_cons_succ, i64_w, i32_w]
       rfl
      refine two_ (i := 2) (j := 4) (Ni := some 25) (Nj := some 27) #[true, true, true, true, false, false, false] #[true, true, false, true, true, false, false] rfl rfl rfl rfl (by kernel_rfl) (by decide) (by decide) (fun K hK => ?_) (fun K hK => ?_)
      ·refine goes_ Try.func75 (by kernel_rfl) rfl #[.slice Ao34 y237.length co34, .int .i64 a0] (by rfl) rfl rfl (by (try simp only [List.map_toArray, List.map_cons, List.map_nil]); first | done | rfl | (simp only [List.length_drop, List.length_take]; rfl)) ?_
       with_reducible refine (slices_Repeat_int_int.calls _ _ y237 a0 t240 _ ?side1 ?side2 A6.out).mono ?_
       (case side1 => repeat (first | exact (Kd.R_reads' HO239.out).2.2 | (with_reducible refine Kd.C_alloc ?_ _) | (with_reducible refine Kd.C_drewN ?_ _) | (with_reducible refine Kd.C_drew ?_)))
       (case side2 => exact (Kd.R_reads' HO239.out).2.1)
       rintro e w35 ⟨v241, rfl, ho0, hb⟩
       refine ⟨_, rfl, ?_⟩
       have n0_ := Aside0.mk (Kd.R_elder' HO229.out (Kd.R_base ho0) hb)
       have n1_ := Aside0.mk (Kd.R_elder' HO232.out (Kd.R_base ho0) hb)
       have n2_ := Aside0.mk (Kd.R_elder' HO235.out (Kd.R_base ho0) hb)
       have n3_ := Aside0.mk (Kd.R_elder' HO239.out (Kd.R_base ho0) hb)
       have n4_ := Aside0.mk (Kd.R_lower (Kd.R_new' (Kd.R_new' (Kd.R_new' (Kd.R_new' ho0 (Kd.R_lt HO229.out)) (Kd.R_lt HO232.out)) (Kd.R_lt HO235.out)) (Kd.R_lt HO239.out)) (below_size HB.out))
       have n5_ := Aside0.mk (blk_below (g := gb226) (o := .cells #[.slice none 0 0, .slice none 0 0, .slice none 0 0, .slice none 0 0] 79 (0, 0)) BK226.out hb)
       have n6_ := Aside0.mk (blk_below (g := gb236) (o := .cells #[.slice Ao25 y227.length co25, .slice Ao24 y230.length co24, .slice Ao23 y233.length co23, .slice none 0 0] 79 (0, 0)) BK236.out hb)
       have n7_ := Aside0.mk (below_step HB.out hb)
       clear HO229
       clear HO232
       clear HO235
       clear HO239
       clear BK226
       clear BK236
       clear HB
       have HO229 := n0_
       have HO232 := n1_
       have HO235 := n2_
       have HO239 := n3_
       have HO242 := n4_
       have BK226 := n5_
       have BK236 := n6_
       have HB := n7_
       clear n0_ n1_ n2_ n3_ n4_ n5_ n6_ n7_
       (try clear hb)
       (try clear hb2)
       (try clear hk)
       (try clear hi)
       (try clear ho0)
       refine hK.out _ _ trivial (fun hHeld => ?_)
       clear hK K
       refine norm_ (a' := ?_) ?_ ?_
       rotate_left
       ·show Act.put _ (some 25) _ = _
        simp only [Act.put, List.setIfInBounds_toArray, List.set_cons_zero, List.set_cons_succ, i64_w, i32_w]
        rfl
       refine pure_ (i := 5) (N := some 8) (v := ?_) (a' := ?_) #[true, true, true, true, false, true, false] rfl rfl (by kernel_rfl) (fun _ _ _ h => h) (Or.inl ⟨by rfl, ?_⟩) ?_ ?_
       rotate_left
       ·intro w'
        go_simp
        with_reducible rfl
       rotate_left
       ·simp only [Act.put, List.setIfInBounds_toArray, List.set_cons_zero, List.set_cons_succ, i64_w, i32_w]
        rfl
       refine one_ (i := 4) (N := some 27) #[true, true, true, true, true, true, false] rfl rfl (by kernel_rfl) (by decide) (fun K hK => ?_)
       refine Kd.R_make_step (Kd.int .i64) _ 3 (by rfl) (N := 27) rfl 25 _ _ rfl a0 rfl rfl Try.underlying25 (.int .i64 0) 8 info3 rfl (by decide) (by omega) 0 (ok := fun _ => True) (okp := fun _ => True) rfl (fun _ hk => hk) trivial (of_decide_eq_true (by assumption)) (Nat.le_trans (Nat.mul_le_mul_right _ (of_decide_eq_true (by assumption) : a0.toNat ≤ 35184372088832)) (by omega)) (Below.refl _ _) (Nat.le_refl _) ?_
       intro v244 w36 ho37 hb hg_ hnew_
       clear hg_ hnew_
       rw [← Ny243.out] at ho37
       have n0_ := Aside0.mk (Kd.R_elder' HO229.out (Kd.R_base ho37) hb)
       have n1_ := Aside0.mk (Kd.R_elder' HO232.out (Kd.R_base ho37) hb)
       have n2_ := Aside0.mk (Kd.R_elder' HO235.out (Kd.R_base ho37) hb)
       have n3_ := Aside0.mk (Kd.R_elder' HO239.out (Kd.R_base ho37) hb)
       have n4_ := Aside0.mk (Kd.R_elder' HO242.out (Kd.R_base ho37) hb)
       have n5_ := Aside0.mk (Kd.R_lower (Kd.R_new' (Kd.R_new' (Kd.R_new' (Kd.R_new' (Kd.R_new' ho37 (Kd.R_lt HO229.out)) (Kd.R_lt HO232.out)) (Kd.R_lt HO235.out)) (Kd.R_lt HO239.out)) (Kd.R_lt HO242.out)) (below_size HB.out))
       have n6_ := Aside0.mk (blk_below (g := gb226) (o := .cells #[.slice none 0 0, .slice none 0 0, .slice none 0 0, .slice none 0 0] 79 (0, 0)) BK226.out hb)
       have n7_ := Aside0.mk (blk_below (g := gb236) (o := .cells #[.slice Ao25 y227.length co25, .slice Ao24 y230.length co24, .slice Ao23 y233.length co23, .slice none 0 0] 79 (0, 0)) BK236.out hb)
       have n8_ := Aside0.mk (below_step HB.out hb)
       clear HO229
       clear HO232
       clear HO235
       clear HO239
       clear HO242
       clear BK226
       clear BK236
       clear HB
       have HO229 := n0_
       have HO232 := n1_
       have HO235 := n2_
       have HO239 := n3_
       have HO242 := n4_
       have HO245 := n5_
       have BK226 := n6_
       have BK236 := n7_
       have HB := n8_
       clear n0_ n1_ n2_ n3_ n4_ n5_ n6_ n7_ n8_
       clear hb ho37
       refine hK.out _ _ trivial (fun hHeld => ?_)
       clear hK K
       refine norm_ (a' := ?_) ?_ ?_
       rotate_left
       ·show Act.put _ (some 27) _ = _
        simp only [Act.put, List.setIfInBounds_toArray, List.set_cons_zero, List.set_cons_succ, i64_w, i32_w]
        rfl
       exact norm_ (by simp only [putAll, Act.put, List.setIfInBounds_toArray, List.set_cons_zero, List.set_cons_succ]) (hCont (.slice Ao34 y237.length co34, v241, v244) _ ⟨(by (with_reducible repeat (first | apply Kd.R_alloc | apply Kd.R_drewN | apply Kd.R_drew)); exact Kd.R_mono HO229.out (fun _ hk => ⟨hk.1.1.1.1, ⟨hk.1.1.1.2, ⟨hk.1.1.2, ⟨hk.1.2, hk.2⟩⟩⟩⟩)), (by (with_reducible repeat (first | apply Kd.R_alloc | apply Kd.R_drewN | apply Kd.R_drew)); exact Kd.R_mono HO232.out (fun _ hk => ⟨hk.1.1.1.1, ⟨hk.1.1.1.2, ⟨hk.1.1.2, ⟨hk.1.2, hk.2⟩⟩⟩⟩)), (by (with_reducible repeat (first | apply Kd.R_alloc | apply Kd.R_drewN | apply Kd.R_drew)); exact Kd.R_mono HO235.out (fun _ hk => ⟨hk.1.1.1.1, ⟨hk.1.1.1.2, ⟨hk.1.1.2, ⟨hk.1.2, hk.2⟩⟩⟩⟩)), (by (with_reducible repeat (first | apply Kd.R_alloc | apply Kd.R_drewN | apply Kd.R_drew)); exact Kd.R_mono HO239.out (fun _ hk => ⟨hk.1.1.1.1.2, ⟨hk.1.1.1.2, ⟨hk.1.1.2, ⟨hk.1.2, hk.2⟩⟩⟩⟩)), (by (with_reducible repeat (first | apply Kd.R_alloc | apply Kd.R_drewN | apply Kd.R_drew)); exact Kd.R_mono HO242.out (fun _ hk => ⟨hk.1.1.1.1.2, ⟨hk.1.1.1.2, ⟨hk.1.1.2, ⟨hk.1.2, hk.2⟩⟩⟩⟩)), (by (with_reducible repeat (first | apply Kd.R_alloc | apply Kd.R_drewN | apply Kd.R_drew)); exact Kd.R_mono HO245.out (fun _ hk => ⟨hk.1.1.1.1.2, ⟨hk.1.1.1.2, ⟨hk.1.1.2, ⟨hk.1.2, hk.2⟩⟩⟩⟩)), BK226.out, BK236.out, HB.out⟩)
      ·refine Kd.R_make_step (Kd.int .i64) _ 3 (by rfl) (N := 27) rfl 25 _ _ rfl a0 rfl rfl Try.underlying25 (.int .i64 0) 8 info3 rfl (by decide) (by omega) 0 (ok := fun _ => True) (okp := fun _ => True) rfl (fun _ hk => hk) trivial (of_decide_eq_true (by assumption)) (Nat.le_trans (Nat.mul_le_mul_right _ (of_decide_eq_true (by assumption) : a0.toNat ≤ 35184372088832)) (by omega)) (Below.refl _ _) (Nat.le_refl _) ?_
       intro v244 w34 ho35 hb hg_ hnew_
       clear hg_ hnew_
       rw [← Ny243.out] at ho35
       have n0_ := Aside0.mk (Kd.R_elder' HO229.out (Kd.R_base ho35) hb)
       have n1_ := Aside0.mk (Kd.R_elder' HO232.out (Kd.R_base ho35) hb)
       have n2_ := Aside0.mk (Kd.R_elder' HO235.out (Kd.R_base ho35) hb)
       have n3_ := Aside0.mk (Kd.R_elder' HO239.out (Kd.R_base ho35) hb)
       have n4_ := Aside0.mk (Kd.R_lower (Kd.R_new' (Kd.R_new' (Kd.R_new' (Kd.R_new' ho35 (Kd.R_lt HO229.out)) (Kd.R_lt HO232.out)) (Kd.R_lt HO235.out)) (Kd.R_lt HO239.out)) (below_size HB.out))
       have n5_ := Aside0.mk (blk_below (g := gb226) (o := .cells #[.slice none 0 0, .slice none 0 0, .slice none 0 0, .slice none 0 0] 79 (0, 0)) BK226.out hb)
       have n6_ := Aside0.mk (blk_below (g := gb236) (o := .cells #[.slice Ao25 y227.length co25, .slice Ao24 y230.length co24, .slice Ao23 y233.length co23, .slice none 0 0] 79 (0, 0)) BK236.out hb)
       have n7_ := Aside0.mk (below_step HB.out hb)
       clear HO229
       clear HO232
       clear HO235
       clear HO239
       clear BK226
       clear BK236
       clear HB
       have HO229 := n0_
       have HO232 := n1_
       have HO235 := n2_
       have HO239 := n3_
       have HO245 := n4_
       have BK226 := n5_
       have BK236 := n6_
       have HB := n7_
       clear n0_ n1_ n2_ n3_ n4_ n5_ n6_ n7_
       clear hb ho35
       obtain ⟨Ao36, co36, eo36⟩ := Kd.R_slice HO239.out
       (first | subst eo36 | (injection eo36 with f1_ f2_ f3_; have f4_ := f1_.symm; have f5_ := f3_.symm; clear f1_ f2_ f3_; subst f4_; subst f5_))
       refine hK.out _ _ trivial (fun hHeld => ?_)
       clear hK K
       refine norm_ (a' := ?_) ?_ ?_
       rotate_left
       ·show Act.put _ (some 27) _ = _
        simp only [Act.put, List.setIfInBounds_toArray, List.set_cons_zero, List.set_cons_succ, i64_w, i32_w]
        rfl
       refine one_ (i := 2) (N := some 25) #[true, true, true, true, true, false, false] rfl rfl (by kernel_rfl) (by decide) (fun K hK => ?_)
       refine goes_ Try.func75 (by kernel_rfl) rfl #[.slice Ao36 y237.length co36, .int .i64 a0] (by rfl) rfl rfl (by (try simp only [List.map_toArray, List.map_cons, List.map_nil]); first | done | rfl | (simp only [List.length_drop, List.length_take]; rfl)) ?_
       with_reducible refine (slices_Repeat_int_int.calls _ _ y237 a0 t240 _ ?side1 ?side2 A6.out).mono ?_
       (case side1 => repeat (first | exact (Kd.R_reads' HO239.out).2.2 | (with_reducible refine Kd.C_alloc ?_ _) | (with_reducible refine Kd.C_drewN ?_ _) | (with_reducible refine Kd.C_drew ?_)))
       (case side2 => exact (Kd.R_reads' HO239.out).2.1)
       rintro e w37 ⟨v241, rfl, ho0, hb⟩
       refine ⟨_, rfl, ?_⟩
       have n0_ := Aside0.mk (Kd.R_elder' HO229.out (Kd.R_base ho0) hb)
       have n1_ := Aside0.mk (Kd.R_elder' HO232.out (Kd.R_base ho0) hb)
       have n2_ := Aside0.mk (Kd.R_elder' HO235.out (Kd.R_base ho0) hb)
       have n3_ := Aside0.mk (Kd.R_elder' HO239.out (Kd.R_base ho0) hb)
       have n4_ := Aside0.mk (Kd.R_elder' HO245.out (Kd.R_base ho0) hb)
       have n5_ := Aside0.mk (Kd.R_lower (Kd.R_new' (Kd.R_new' (Kd.R_new' (Kd.R_new' (Kd.R_new' ho0 (Kd.R_lt HO229.out)) (Kd.R_lt HO232.out)) (Kd.R_lt HO235.out)) (Kd.R_lt HO239.out)) (Kd.R_lt HO245.out)) (below_size HB.out))
       have n6_ := Aside0.mk (blk_below (g := gb226) (o := .cells #[.slice none 0 0, .slice none 0 0, .slice none 0 0, .slice none 0 0] 79 (0, 0)) BK226.out hb)
       have n7_ := Aside0.mk (blk_below (g := gb236) (o := .cells #[.slice Ao25 y227.length co25, .slice Ao24 y230.length co24, .slice Ao23 y233.length co23, .slice none 0 0] 79 (0, 0)) BK236.out hb)
       have n8_ := Aside0.mk (below_step HB.out hb)
       clear HO229
       clear HO232
       clear HO235
       clear HO239
       clear HO245
       clear BK226
       clear BK236
       clear HB
       have HO229 := n0_
       have HO232 := n1_
       have HO235 := n2_
       have HO239 := n3_
       have HO245 := n4_
       have HO242 := n5_
       have BK226 := n6_
       have BK236 := n7_
       have HB := n8_
       clear n0_ n1_ n2_ n3_ n4_ n5_ n6_ n7_ n8_
       (try clear hb)
       (try clear hb2)
       (try clear hk)
       (try clear hi)
       (try clear ho0)
       refine hK.out _ _ trivial (fun hHeld => ?_)
       clear hK K
       refine norm_ (a' := ?_) ?_ ?_
       rotate_left
       ·show Act.put _ (some 25) _ = _
        simp only [Act.put, List.setIfInBounds_toArray, List.set_cons_zero, List.set_cons_succ, i64_w, i32_w]
        rfl
       refine pure_ (i := 5) (N := some 8) (v := ?_) (a' := ?_) #[true, true, true, true, true, true, false] rfl rfl (by kernel_rfl) (fun _ _ _ h => h) (Or.inl ⟨by rfl, ?_⟩) ?_ ?_
       rotate_left
       ·intro w'
        go_simp
        with_reducible rfl
       rotate_left
       ·simp only [Act.put, List.setIfInBounds_toArray, List.set_cons_zero, List.set_cons_succ, i64_w, i32_w]
        rfl
       exact norm_ (by simp only [putAll, Act.put, List.setIfInBounds_toArray, List.set_cons_zero, List.set_cons_succ]) (hCont (.slice Ao36 y237.length co36, v241, v244) _ ⟨(by (with_reducible repeat (first | apply Kd.R_alloc | apply Kd.R_drewN | apply Kd.R_drew)); exact Kd.R_mono HO229.out (fun _ hk => ⟨hk.1.1.1.1, ⟨hk.1.1.1.2, ⟨hk.1.1.2, ⟨hk.2, hk.1.2⟩⟩⟩⟩)), (by (with_reducible repeat (first | apply Kd.R_alloc | apply Kd.R_drewN | apply Kd.R_drew)); exact Kd.R_mono HO232.out (fun _ hk => ⟨hk.1.1.1.1, ⟨hk.1.1.1.2, ⟨hk.1.1.2, ⟨hk.2, hk.1.2⟩⟩⟩⟩)), (by (with_reducible repeat (first | apply Kd.R_alloc | apply Kd.R_drewN | apply Kd.R_drew)); exact Kd.R_mono HO235.out (fun _ hk => ⟨hk.1.1.1.1, ⟨hk.1.1.1.2, ⟨hk.1.1.2, ⟨hk.2, hk.1.2⟩⟩⟩⟩)), (by (with_reducible repeat (first | apply Kd.R_alloc | apply Kd.R_drewN | apply Kd.R_drew)); exact Kd.R_mono HO239.out (fun _ hk => ⟨hk.1.1.1.1.2, ⟨hk.1.1.1.2, ⟨hk.1.1.2, ⟨hk.2, hk.1.2⟩⟩⟩⟩)), (by (with_reducible repeat (first | apply Kd.R_alloc | apply Kd.R_drewN | apply Kd.R_drew)); exact Kd.R_mono HO242.out (fun _ hk => ⟨hk.1.1.1.1.2, ⟨hk.1.1.1.2, ⟨hk.1.1.2, ⟨hk.1.2, hk.2⟩⟩⟩⟩)), (by (with_reducible repeat (first | apply Kd.R_alloc | apply Kd.R_drewN | apply Kd.R_drew)); exact Kd.R_mono HO245.out (fun _ hk => ⟨hk.1.1.1.1.2, ⟨hk.1.1.1.2, ⟨hk.1.1.2, ⟨hk.1.2, hk.2⟩⟩⟩⟩)), BK226.out, BK236.out, HB.out⟩)
     ·refine Kd.R_make_step (Kd.int .i64) _ 3 (by rfl) (N := 27) rfl 25 _ _ rfl a0 rfl rfl Try.underlying25 (.int .i64 0) 8 info3 rfl (by decide) (by omega) 0 (ok := fun _ => True) (okp := fun _ => True) rfl (fun _ hk => hk) trivial (of_decide_eq_true (by assumption)) (Nat.le_trans (Nat.mul_le_mul_right _ (of_decide_eq_true (by assumption) : a0.toNat ≤ 35184372088832)) (by omega)) (Below.refl _ _) (Nat.le_refl _) ?_
      intro v244 w32 ho33 hb hg_ hnew_
      clear hg_ hnew_
      rw [← Ny243.out] at ho33
      have n0_ := Aside0.mk (Kd.R_elder' HO229.out (Kd.R_base ho33) hb)
      have n1_ := Aside0.mk (Kd.R_elder' HO232.out (Kd.R_base ho33) hb)
      have n2_ := Aside0.mk (Kd.R_elder' HO235.out (Kd.R_base ho33) hb)
      have n3_ := Aside0.mk (Kd.R_lower (Kd.R_new' (Kd.R_new' (Kd.R_new' ho33 (Kd.R_lt HO229.out)) (Kd.R_lt HO232.out)) (Kd.R_lt HO235.out)) (below_size HB.out))
      have n4_ := Aside0.mk (blk_below (g := gb226) (o := .cells #[.slice none 0 0, .slice none 0 0, .slice none 0 0, .slice none 0 0] 79 (0, 0)) BK226.out hb)
      have n5_ := Aside0.mk (blk_below (g := gb236) (o := .cells #[.slice Ao25 y227.length co25, .slice Ao24 y230.length co24, .slice Ao23 y233.length co23, .slice none 0 0] 79 (0, 0)) BK236.out hb)
      have n6_ := Aside0.mk (below_step HB.out hb)
      clear HO229
      clear HO232
      clear HO235
      clear BK226
      clear BK236
      clear HB
      have HO229 := n0_
      have HO232 := n1_
      have HO235 := n2_
      have HO245 := n3_
      have BK226 := n4_
      have BK236 := n5_
      have HB := n6_
      clear n0_ n1_ n2_ n3_ n4_ n5_ n6_
      clear hb ho33
      refine hK.out _ _ trivial (fun hHeld => ?_)
      clear hK K
      refine norm_ (a' := ?_) ?_ ?_
      rotate_left
      ·show Act.put _ (some 27) _ = _
       simp only [Act.put, List.setIfInBounds_toArray, List.set_cons_zero, List.set_cons_succ, i64_w, i32_w]
       rfl
      refine one_ (i := 0) (N := some 23) #[true, true, false, true, true, false, false] rfl rfl (by kernel_rfl) (by decide) (fun K hK => ?_)
      refine Kd.R_lit_step (Kd.int .i64) _ 3 ?hg (N := 23) ?hd (xs := ([(-1)] : List Int)) (inner := [.int .i64 (-1)]) (ok := fun _ => True) (okp := fun _ => True) ?hr ?hp (fun _ hk => hk) trivial (Below.refl _ _) (Nat.le_refl _) (by simp) ?_; (case hd => rfl); (case hg => rfl); (case hr => first | (go_simp; done) | (go_simp; rfl)); (case hp => exact (Reps.one (show Kd.M (Kd.int .i64) _ _ _ (-1) [.int .i64 (-1)] from rfl) (Reps.none _ _)))
      intro v238 w34 ho35 hb hg_ hnew_
      clear hg_ hnew_
      rw [← Ny237.out] at ho35
      have n0_ := Aside0.mk (Kd.R_elder' HO229.out (Kd.R_base ho35) hb)
      have n1_ := Aside0.mk (Kd.R_elder' HO232.out (Kd.R_base ho35) hb)
      have n2_ := Aside0.mk (Kd.R_elder' HO235.out (Kd.R_base ho35) hb)
      have n3_ := Aside0.mk (Kd.R_elder' HO245.out (Kd.R_base ho35) hb)
      have n4_ := Aside0.mk (Kd.R_lower (Kd.R_new' (Kd.R_new' (Kd.R_new' (Kd.R_new' ho35 (Kd.R_lt HO229.out)) (Kd.R_lt HO232.out)) (Kd.R_lt HO235.out)) (Kd.R_lt HO245.out)) (below_size HB.out))
      have n5_ := Aside0.mk (blk_below (g := gb226) (o := .cells #[.slice none 0 0, .slice none 0 0, .slice none 0 0, .slice none 0 0] 79 (0, 0)) BK226.out hb)
      have n6_ := Aside0.mk (blk_below (g := gb236) (o := .cells #[.slice Ao25 y227.length co25, .slice Ao24 y230.length co24, .slice Ao23 y233.length co23, .slice none 0 0] 79 (0, 0)) BK236.out hb)
      have n7_ := Aside0.mk (below_step HB.out hb)
      clear HO229
      clear HO232
      clear HO235
      clear HO245
      clear BK226
      clear BK236
      clear HB
      have HO229 := n0_
      have HO232 := n1_
      have HO235 := n2_
      have HO245 := n3_
      have HO239 := n4_
      have BK226 := n5_
      have BK236 := n6_
      have HB := n7_
      clear n0_ n1_ n2_ n3_ n4_ n5_ n6_ n7_
      clear hb ho35
      obtain ⟨Ao36, co36, eo36⟩ := Kd.R_slice HO239.out
      (first | subst eo36 | (injection eo36 with f1_ f2_ f3_; have f4_ := f1_.symm; have f5_ := f3_.symm; clear f1_ f2_ f3_; subst f4_; subst f5_))
      refine hK.out _ _ trivial (fun hHeld => ?_)
      clear hK K
      refine norm_ (a' := ?_) ?_ ?_
      rotate_left
      ·show Act.put _ (some 23) _ = _
       simp only [Act.put, List.setIfInBounds_toArray, List.set_cons_zero, List.set_cons_succ, i64_w, i32_w]
       rfl
      refine one_ (i := 2) (N := some 25) #[true, true, true, true, true, false, false] rfl rfl (by kernel_rfl) (by decide) (fun K hK => ?_)
      refine goes_ Try.func75 (by kernel_rfl) rfl #[.slice Ao36 y237.length co36, .int .i64 a0] (by rfl) rfl rfl (by (try simp only [List.map_toArray, List.map_cons, List.map_nil]); first | done | rfl | (simp only [List.length_drop, List.length_take]; rfl)) ?_
      with_reducible refine (slices_Repeat_int_int.calls _ _ y237 a0 t240 _ ?side1 ?side2 A6.out).mono ?_
      (case side1 => repeat (first | exact (Kd.R_reads' HO239.out).2.2 | (with_reducible refine Kd.C_alloc ?_ _) | (with_reducible refine Kd.C_drewN ?_ _) | (with_reducible refine Kd.C_drew ?_)))
      (case side2 => exact (Kd.R_reads' HO239.out).2.1)
      rintro e w37 ⟨v241, rfl, ho0, hb⟩
      refine ⟨_, rfl, ?_⟩
      have n0_ := Aside0.mk (Kd.R_elder' HO229.out (Kd.R_base ho0) hb)
      have n1_ := Aside0.mk (Kd.R_elder' HO232.out (Kd.R_base ho0) hb)
      have n2_ := Aside0.mk (Kd.R_elder' HO235.out (Kd.R_base ho0) hb)
      have n3_ := Aside0.mk (Kd.R_elder' HO245.out (Kd.R_base ho0) hb)
      have n4_ := Aside0.mk (Kd.R_elder' HO239.out (Kd.R_base ho0) hb)
      have n5_ := Aside0.mk (Kd.R_lower (Kd.R_new' (Kd.R_new' (Kd.R_new' (Kd.R_new' (Kd.R_new' ho0 (Kd.R_lt HO229.out)) (Kd.R_lt HO232.out)) (Kd.R_lt HO235.out)) (Kd.R_lt HO245.out)) (Kd.R_lt HO239.out)) (below_size HB.out))
      have n6_ := Aside0.mk (blk_below (g := gb226) (o := .cells #[.slice none 0 0, .slice none 0 0, .slice none 0 0, .slice none 0 0] 79 (0, 0)) BK226.out hb)
      have n7_ := Aside0.mk (blk_below (g := gb236) (o := .cells #[.slice Ao25 y227.length co25, .slice Ao24 y230.length co24, .slice Ao23 y233.length co23, .slice none 0 0] 79 (0, 0)) BK236.out hb)
      have n8_ := Aside0.mk (below_step HB.out hb)
      clear HO229
      clear HO232
      clear HO235
      clear HO245
      clear HO239
      clear BK226
      clear BK236
      clear HB
      have HO229 := n0_
      have HO232 := n1_
      have HO235 := n2_
      have HO245 := n3_
      have HO239 := n4_
      have HO242 := n5_
      have BK226 := n6_
      have BK236 := n7_
      have HB := n8_
      clear n0_ n1_ n2_ n3_ n4_ n5_ n6_ n7_ n8_
      (try clear hb)
      (try clear hb2)
      (try clear hk)
      (try clear hi)
      (try clear ho0)
      refine hK.out _ _ trivial (fun hHeld => ?_)
      clear hK K
      refine norm_ (a' := ?_) ?_ ?_
      rotate_left
      ·show Act.put _ (some 25) _ = _
       simp only [Act.put, List.setIfInBounds_toArray, List.set_cons_zero, List.set_cons_succ, i64_w, i32_w]
       rfl
      refine pure_ (i := 5) (N := some 8) (v := ?_) (a' := ?_) #[true, true, true, true, true, true, false] rfl rfl (by kernel_rfl) (fun _ _ _ h => h) (Or.inl ⟨by rfl, ?_⟩) ?_ ?_
      rotate_left
      ·intro w'
       go_simp
       with_reducible rfl
      rotate_left
      ·simp only [Act.put, List.setIfInBounds_toArray, List.set_cons_zero, List.set_cons_succ, i64_w, i32_w]
       rfl
      exact norm_ (by simp only [putAll, Act.put, List.setIfInBounds_toArray, List.set_cons_zero, List.set_cons_succ]) (hCont (.slice Ao36 y237.length co36, v241, v244) _ ⟨(by (with_reducible repeat (first | apply Kd.R_alloc | apply Kd.R_drewN | apply Kd.R_drew)); exact Kd.R_mono HO229.out (fun _ hk => ⟨hk.1.1.1.1, ⟨hk.1.1.1.2, ⟨hk.1.2, ⟨hk.2, hk.1.1.2⟩⟩⟩⟩)), (by (with_reducible repeat (first | apply Kd.R_alloc | apply Kd.R_drewN | apply Kd.R_drew)); exact Kd.R_mono HO232.out (fun _ hk => ⟨hk.1.1.1.1, ⟨hk.1.1.1.2, ⟨hk.1.2, ⟨hk.2, hk.1.1.2⟩⟩⟩⟩)), (by (with_reducible repeat (first | apply Kd.R_alloc | apply Kd.R_drewN | apply Kd.R_drew)); exact Kd.R_mono HO235.out (fun _ hk => ⟨hk.1.1.1.1, ⟨hk.1.1.1.2, ⟨hk.1.2, ⟨hk.2, hk.1.1.2⟩⟩⟩⟩)), (by (with_reducible repeat (first | apply Kd.R_alloc | apply Kd.R_drewN | apply Kd.R_drew)); exact Kd.R_mono HO239.out (fun _ hk => ⟨hk.1.1.1.1.2, ⟨hk.1.1.1.2, ⟨hk.1.1.2, ⟨hk.2, hk.1.2⟩⟩⟩⟩)), (by (with_reducible repeat (first | apply Kd.R_alloc | apply Kd.R_drewN | apply Kd.R_drew)); exact Kd.R_mono HO242.out (fun _ hk => ⟨hk.1.1.1.1.2, ⟨hk.1.1.1.2, ⟨hk.1.1.2, ⟨hk.2, hk.1.2⟩⟩⟩⟩)), (by (with_reducible repeat (first | apply Kd.R_alloc | apply Kd.R_drewN | apply Kd.R_drew)); exact Kd.R_mono HO245.out (fun _ hk => ⟨hk.1.1.1.1.2, ⟨hk.1.1.1.2, ⟨hk.1.1.2, ⟨hk.1.2, hk.2⟩⟩⟩⟩)), BK226.out, BK236.out, HB.out⟩)
    rintro ⟨v238, v241, v244⟩ w38 ⟨h0_, h1_, h2_, h3_, h4_, h5_, h6_, h7_, h8_⟩
    have n0_ : Aside0 (Kd.R (Kd.int .i64) 3 w38 w.heap.size (fun k_ => some k_ ≠ (.slice Ao24 y230.length co24 : Value).ownBlock ∧ some k_ ≠ (.slice Ao23 y233.length co23 : Value).ownBlock ∧ some k_ ≠ (v238 : Value).ownBlock ∧ some k_ ≠ (v241 : Value).ownBlock ∧ some k_ ≠ (v244 : Value).ownBlock) (.slice Ao25 y227.length co25) y227) := ⟨h0_⟩
    have n1_ : Aside0 (Kd.R (Kd.int .i64) 3 w38 w.heap.size (fun k_ => some k_ ≠ (.slice Ao25 y227.length co25 : Value).ownBlock ∧ some k_ ≠ (.slice Ao23 y233.length co23 : Value).ownBlock ∧ some k_ ≠ (v238 : Value).ownBlock ∧ some k_ ≠ (v241 : Value).ownBlock ∧ some k_ ≠ (v244 : Value).ownBlock) (.slice Ao24 y230.length co24) y230) := ⟨h1_⟩
    have n2_ : Aside0 (Kd.R (Kd.int .i64) 3 w38 w.heap.size (fun k_ => some k_ ≠ (.slice Ao25 y227.length co25 : Value).ownBlock ∧ some k_ ≠ (.slice Ao24 y230.length co24 : Value).ownBlock ∧ some k_ ≠ (v238 : Value).ownBlock ∧ some k_ ≠ (v241 : Value).ownBlock ∧ some k_ ≠ (v244 : Value).ownBlock) (.slice Ao23 y233.length co23) y233) := ⟨h2_⟩
    have n3_ : Aside0 (Kd.R (Kd.int .i64) 3 w38 w.heap.size (fun k_ => some k_ ≠ (.slice Ao25 y227.length co25 : Value).ownBlock ∧ some k_ ≠ (.slice Ao24 y230.length co24 : Value).ownBlock ∧ some k_ ≠ (.slice Ao23 y233.length co23 : Value).ownBlock ∧ some k_ ≠ (v241 : Value).ownBlock ∧ some k_ ≠ (v244 : Value).ownBlock) v238 y237) := ⟨h3_⟩
    have n4_ : Aside0 (Kd.R (Kd.int .i64) 3 w38 w.heap.size (fun k_ => some k_ ≠ (.slice Ao25 y227.length co25 : Value).ownBlock ∧ some k_ ≠ (.slice Ao24 y230.length co24 : Value).ownBlock ∧ some k_ ≠ (.slice Ao23 y233.length co23 : Value).ownBlock ∧ some k_ ≠ (v238 : Value).ownBlock ∧ some k_ ≠ (v244 : Value).ownBlock) v241 t240) := ⟨h4_⟩
    have n5_ : Aside0 (Kd.R (Kd.int .i64) 3 w38 w.heap.size (fun k_ => some k_ ≠ (.slice Ao25 y227.length co25 : Value).ownBlock ∧ some k_ ≠ (.slice Ao24 y230.length co24 : Value).ownBlock ∧ some k_ ≠ (.slice Ao23 y233.length co23 : Value).ownBlock ∧ some k_ ≠ (v238 : Value).ownBlock ∧ some k_ ≠ (v241 : Value).ownBlock) v244 y243) := ⟨h5_⟩
    have n6_ : Aside0 (w38.heap[gb226]? = some (.cells #[.slice none 0 0, .slice none 0 0, .slice none 0 0, .slice none 0 0] 79 (0, 0))) := ⟨h6_⟩
    have n7_ : Aside0 (w38.heap[gb236]? = some (.cells #[.slice Ao25 y227.length co25, .slice Ao24 y230.length co24, .slice Ao23 y233.length co23, .slice none 0 0] 79 (0, 0))) := ⟨h7_⟩
    have n8_ : Aside0 (Below w.heap.size w w38) := ⟨h8_⟩
    clear HO229
    clear HO232
    clear HO235
    clear BK226
    clear BK236
    clear HB
    clear h0_ h1_ h2_ h3_ h4_ h5_ h6_ h7_ h8_
    have HO229 := n0_
    have HO232 := n1_
    have HO235 := n2_
    have HO239 := n3_
    have HO242 := n4_
    have HO245 := n5_
    have BK226 := n6_
    have BK236 := n7_
    have HB := n8_
    clear n0_ n1_ n2_ n3_ n4_ n5_ n6_ n7_ n8_
    have hHeld := trivial
    refine norm_ (a' := ?_) ?_ ?_
    rotate_left
    ·simp only [putAll, Act.put, List.setIfInBounds_toArray, List.set_cons_zero, List.set_cons_succ]
     rfl
    refine pure_ (i := 6) (N := some 9) (v := ?_) (a' := ?_) #[true, true, true, true, true, true, true] rfl rfl (by kernel_rfl) (fun _ _ _ h => h) (Or.inl ⟨by rfl, ?_⟩) ?_ ?_
    rotate_left
    ·intro w'
     go_simp
     with_reducible rfl
    rotate_left
    ·simp only [Act.put, List.setIfInBounds_toArray, List.set_cons_zero, List.set_cons_succ, i64_w, i32_w]
     rfl
    refine done_ (by kernel_rfl) ?_
    try go_wp2_with (first | ((with_reducible refine gate_dst (N := 28) rfl ?_); refine Kd.R_lit (Kd.int .i64) _ 3 ?hg (N := 28) ?hd (xs := ([(-1)] : List Int)) (inner := [.int .i64 (-1)]) (ok := fun _ => True) (okp := fun _ => True) ?hr ?hp (fun _ hk => hk) trivial (Below.refl _ _) (Nat.le_refl _) (by simp) ?_; (case hd => rfl); (case hg => rfl); (case hr => first | (go_simp; done) | (go_simp; rfl)); (case hp => exact (Reps.one (show Kd.M (Kd.int .i64) _ _ _ (-1) [.int .i64 (-1)] from rfl) (Reps.none _ _))); intro v247 w39 ho40 hb hg_ hnew_; clear hg_ hnew_; (first | rw [← Ny246.out] at ho40 | (simp only [Int.reduceToNat] at ho40; rw [← Ny246.out] at ho40)); have n0_ := Aside0.mk (Kd.R_elder' (by (with_reducible repeat (first | apply Kd.R_alloc | apply Kd.R_drewN | apply Kd.R_drew)); exact HO229.out) (Kd.R_base ho40) hb); have n1_ := Aside0.mk (Kd.R_elder' (by (with_reducible repeat (first | apply Kd.R_alloc | apply Kd.R_drewN | apply Kd.R_drew)); exact HO232.out) (Kd.R_base ho40) hb); have n2_ := Aside0.mk (Kd.R_elder' (by (with_reducible repeat (first | apply Kd.R_alloc | apply Kd.R_drewN | apply Kd.R_drew)); exact HO235.out) (Kd.R_base ho40) hb); have n3_ := Aside0.mk (Kd.R_elder' (by (with_reducible repeat (first | apply Kd.R_alloc | apply Kd.R_drewN | apply Kd.R_drew)); exact HO239.out) (Kd.R_base ho40) hb); have n4_ := Aside0.mk (Kd.R_elder' (by (with_reducible repeat (first | apply Kd.R_alloc | apply Kd.R_drewN | apply Kd.R_drew)); exact HO242.out) (Kd.R_base ho40) hb); have n5_ := Aside0.mk (Kd.R_elder' (by (with_reducible repeat (first | apply Kd.R_alloc | apply Kd.R_drewN | apply Kd.R_drew)); exact HO245.out) (Kd.R_base ho40) hb); have n6_ := Aside0.mk (Kd.R_lower (Kd.R_new' (Kd.R_new' (Kd.R_new' (Kd.R_new' (Kd.R_new' (Kd.R_new' ho40 (Kd.R_lt (by (with_reducible repeat (first | apply Kd.R_alloc | apply Kd.R_drewN | apply Kd.R_drew)); exact HO229.out))) (Kd.R_lt (by (with_reducible repeat (first | apply Kd.R_alloc | apply Kd.R_drewN | apply Kd.R_drew)); exact HO232.out))) (Kd.R_lt (by (with_reducible repeat (first | apply Kd.R_alloc | apply Kd.R_drewN | apply Kd.R_drew)); exact HO235.out))) (Kd.R_lt (by (with_reducible repeat (first | apply Kd.R_alloc | apply Kd.R_drewN | apply Kd.R_drew)); exact HO239.out))) (Kd.R_lt (by (with_reducible repeat (first | apply Kd.R_alloc | apply Kd.R_drewN | apply Kd.R_drew)); exact HO242.out))) (Kd.R_lt (by (with_reducible repeat (first | apply Kd.R_alloc | apply Kd.R_drewN | apply Kd.R_drew)); exact HO245.out))) (below_size (by repeat (first | (with_reducible first | exact HB.out | apply below_alloc | apply pw_below_drewN | apply below_drew1 | refine below_set ?_ GE226.out | refine below_set ?_ GE236.out) | exact HB.out)))); have n7_ := Aside0.mk (blk_below (g := gb226) (o := .cells #[.slice none 0 0, .slice none 0 0, .slice none 0 0, .slice none 0 0] 79 (0, 0)) (by (with_reducible repeat (first | refine blk_drewN ?_ _ | refine blk_drew ?_ | refine blk_alloc ?_ _)); exact BK226.out) hb); have n8_ := Aside0.mk (blk_below (g := gb236) (o := .cells #[.slice Ao25 y227.length co25, .slice Ao24 y230.length co24, .slice Ao23 y233.length co23, .slice none 0 0] 79 (0, 0)) (by (with_reducible repeat (first | refine blk_drewN ?_ _ | refine blk_drew ?_ | refine blk_alloc ?_ _)); exact BK236.out) hb); have n9_ := Aside0.mk (below_step (by repeat (first | (with_reducible first | exact HB.out | apply below_alloc | apply pw_below_drewN | apply below_drew1 | refine below_set ?_ GE226.out | refine below_set ?_ GE236.out) | exact HB.out)) hb); clear HO229; clear HO232; clear HO235; clear HO239; clear HO242; clear HO245; clear BK226; clear BK236; clear HB; have HO229 := n0_; have HO232 := n1_; have HO235 := n2_; have HO239 := n3_; have HO242 := n4_; have HO245 := n5_; have HO248 := n6_; have BK226 := n7_; have BK236 := n8_; have HB := n9_; clear n0_ n1_ n2_ n3_ n4_ n5_ n6_ n7_ n8_ n9_; clear hb ho40; obtain ⟨Ao41, co41, eo41⟩ := Kd.R_slice HO248.out; subst eo41) | ((with_reducible refine gate_callee (f := 75) rfl ?_); refine goesL_ (some 30) rfl rfl Try.func75 (by kernel_rfl) rfl #[.slice Ao41 y246.length co41, .int .i64 a0] rfl (by (try simp only [List.map_toArray, List.map_cons, List.map_nil]); first | done | rfl | (simp only [List.length_drop, List.length_take]; rfl)) ?_; (with_reducible refine (slices_Repeat_int_int.calls _ _ y246 a0 t249 _ ?side1 ?side2 A7.out).mono ?_); (case side1 => repeat (first | exact (Kd.R_reads' HO248.out).2.2 | (with_reducible refine Kd.C_alloc ?_ _) | (with_reducible refine Kd.C_drewN ?_ _) | (with_reducible refine Kd.C_drew ?_))); (case side2 => exact (Kd.R_reads' HO248.out).2.1); rintro e w42 ⟨v250, rfl, ho0, hb⟩; refine ⟨_, rfl, ?_⟩; have n0_ := Aside0.mk (Kd.R_elder' (by (with_reducible repeat (first | apply Kd.R_alloc | apply Kd.R_drewN | apply Kd.R_drew)); exact HO229.out) (Kd.R_base ho0) hb); have n1_ := Aside0.mk (Kd.R_elder' (by (with_reducible repeat (first | apply Kd.R_alloc | apply Kd.R_drewN | apply Kd.R_drew)); exact HO232.out) (Kd.R_base ho0) hb); have n2_ := Aside0.mk (Kd.R_elder' (by (with_reducible repeat (first | apply Kd.R_alloc | apply Kd.R_drewN | apply Kd.R_drew)); exact HO235.out) (Kd.R_base ho0) hb); have n3_ := Aside0.mk (Kd.R_elder' (by (with_reducible repeat (first | apply Kd.R_alloc | apply Kd.R_drewN | apply Kd.R_drew)); exact HO239.out) (Kd.R_base ho0) hb); have n4_ := Aside0.mk (Kd.R_elder' (by (with_reducible repeat (first | apply Kd.R_alloc | apply Kd.R_drewN | apply Kd.R_drew)); exact HO242.out) (Kd.R_base ho0) hb); have n5_ := Aside0.mk (Kd.R_elder' (by (with_reducible repeat (first | apply Kd.R_alloc | apply Kd.R_drewN | apply Kd.R_drew)); exact HO245.out) (Kd.R_base ho0) hb); have n6_ := Aside0.mk (Kd.R_elder' (by (with_reducible repeat (first | apply Kd.R_alloc | apply Kd.R_drewN | apply Kd.R_drew)); exact HO248.out) (Kd.R_base ho0) hb); have n7_ := Aside0.mk (Kd.R_lower (Kd.R_new' (Kd.R_new' (Kd.R_new' (Kd.R_new' (Kd.R_new' (Kd.R_new' (Kd.R_new' ho0 (Kd.R_lt (by (with_reducible repeat (first | apply Kd.R_alloc | apply Kd.R_drewN | apply Kd.R_drew)); exact HO229.out))) (Kd.R_lt (by (with_reducible repeat (first | apply Kd.R_alloc | apply Kd.R_drewN | apply Kd.R_drew)); exact HO232.out))) (Kd.R_lt (by (with_reducible repeat (first | apply Kd.R_alloc | apply Kd.R_drewN | apply Kd.R_drew)); exact HO235.out))) (Kd.R_lt (by (with_reducible repeat (first | apply Kd.R_alloc | apply Kd.R_drewN | apply Kd.R_drew)); exact HO239.out))) (Kd.R_lt (by (with_reducible repeat (first | apply Kd.R_alloc | apply Kd.R_drewN | apply Kd.R_drew)); exact HO242.out))) (Kd.R_lt (by (with_reducible repeat (first | apply Kd.R_alloc | apply Kd.R_drewN | apply Kd.R_drew)); exact HO245.out))) (Kd.R_lt (by (with_reducible repeat (first | apply Kd.R_alloc | apply Kd.R_drewN | apply Kd.R_drew)); exact HO248.out))) (below_size (by repeat (first | (with_reducible first | exact HB.out | apply below_alloc | apply pw_below_drewN | apply below_drew1 | refine below_set ?_ GE226.out | refine below_set ?_ GE236.out) | exact HB.out)))); have n8_ := Aside0.mk (blk_below (g := gb226) (o := .cells #[.slice none 0 0, .slice none 0 0, .slice none 0 0, .slice none 0 0] 79 (0, 0)) (by (with_reducible repeat (first | refine blk_drewN ?_ _ | refine blk_drew ?_ | refine blk_alloc ?_ _)); exact BK226.out) hb); have n9_ := Aside0.mk (blk_below (g := gb236) (o := .cells #[.slice Ao25 y227.length co25, .slice Ao24 y230.length co24, .slice Ao23 y233.length co23, .slice none 0 0] 79 (0, 0)) (by (with_reducible repeat (first | refine blk_drewN ?_ _ | refine blk_drew ?_ | refine blk_alloc ?_ _)); exact BK236.out) hb); have n10_ := Aside0.mk (below_step (by repeat (first | (with_reducible first | exact HB.out | apply below_alloc | apply pw_below_drewN | apply below_drew1 | refine below_set ?_ GE226.out | refine below_set ?_ GE236.out) | exact HB.out)) hb); clear HO229; clear HO232; clear HO235; clear HO239; clear HO242; clear HO245; clear HO248; clear BK226; clear BK236; clear HB; have HO229 := n0_; have HO232 := n1_; have HO235 := n2_; have HO239 := n3_; have HO242 := n4_; have HO245 := n5_; have HO248 := n6_; have HO251 := n7_; have BK226 := n8_; have BK236 := n9_; have HB := n10_; clear n0_ n1_ n2_ n3_ n4_ n5_ n6_ n7_ n8_ n9_ n10_; (try clear hb); (try clear hb2); (try clear hk); (try clear hi); (try clear ho0)))
    have n0_ := Aside0.mk (Kd.R_drew HO229.out)
    have n1_ := Aside0.mk (Kd.R_drew HO232.out)
    have n2_ := Aside0.mk (Kd.R_drew HO235.out)
    have n3_ := Aside0.mk (Kd.R_drew HO239.out)
    have n4_ := Aside0.mk (Kd.R_drew HO242.out)
    have n5_ := Aside0.mk (Kd.R_drew HO245.out)
    have n6_ := Aside0.mk (Kd.R_drew HO248.out)
    have n7_ := Aside0.mk (Kd.R_drew HO251.out)
    have n8_ := Aside0.mk (blk_drew BK226.out)
    have n9_ := Aside0.mk (blk_drew BK236.out)
    have n10_ := Aside0.mk (below_drew1 HB.out)
    clear HO229
    clear HO232
    clear HO235
    clear HO239
    clear HO242
    clear HO245
    clear HO248
    clear HO251
    clear BK226
    clear BK236
    clear HB
    have HO229 := n0_
    have HO232 := n1_
    have HO235 := n2_
    have HO239 := n3_
    have HO242 := n4_
    have HO245 := n5_
    have HO248 := n6_
    have HO251 := n7_
    have BK226 := n8_
    have BK236 := n9_
    have HB := n10_
    clear n0_ n1_ n2_ n3_ n4_ n5_ n6_ n7_ n8_ n9_ n10_
    obtain ⟨Ao44, co44, eo44⟩ := Kd.R_slice HO251.out
    (first | subst eo44 | (injection eo44 with f1_ f2_ f3_; have f4_ := f1_.symm; have f5_ := f3_.symm; clear f1_ f2_ f3_; subst f4_; subst f5_))
    refine start_ (n := 8) (S := fun w' => w'.cell? ⟨gb236, 0, none⟩ = some (.slice Ao25 y227.length co25) ∧ w'.cell? ⟨gb236, 1, none⟩ = some (.slice Ao24 y230.length co24) ∧ w'.cell? ⟨gb236, 2, none⟩ = some (.slice Ao23 y233.length co23) ∧ w'.cell? ⟨gb236, 3, none⟩ = some (.slice none 0 0)) (ds := [7]) #[false, false, false, false, false, false, false, false] (by kernel_rfl) rfl rfl ⟨(blk_cell BK236.out 0).trans rfl, (blk_cell BK236.out 1).trans rfl, (blk_cell BK236.out 2).trans rfl, (blk_cell BK236.out 3).trans rfl⟩ (fun hHeld => ?_); refine with_tabW impl_board.tab4 impl_board.bits4 (fun HT_ HW_ => ?_)
    generalize w42.drew = w43 at HO229 HO232 HO235 HO239 HO242 HO245 HO248 HO251 BK226 BK236 HB hHeld ⊢
    refine pure_ (i := 0) (N := some 31) (v := ?_) (a' := ?_) #[true, false, false, false, false, false, false, false] rfl rfl (any_of HT_.out (by kernel_rfl)) (fun _ _ _ h => h) (Or.inl ⟨by rfl, ?_⟩) ?_ ?_
    rotate_left
    ·intro w'
     go_simp
     with_reducible rfl
    rotate_left
    ·simp only [Act.put, List.setIfInBounds_toArray, List.set_cons_zero, List.set_cons_succ, i64_w, i32_w]
     rfl
    refine pure_ (i := 2) (N := some 33) (v := ?_) (a' := ?_) #[true, false, true, false, false, false, false, false] rfl rfl (any_of HT_.out (by kernel_rfl)) (fun _ _ _ h => h) (Or.inl ⟨by rfl, ?_⟩) ?_ ?_
    rotate_left
    ·intro w'
     go_simp
     with_reducible rfl
    rotate_left
    ·simp only [Act.put, List.setIfInBounds_toArray, List.set_cons_zero, List.set_cons_succ, i64_w, i32_w]
     rfl
    refine take_ (i := 1) (N := some 32) (v := ?_) (a' := ?_) #[true, true, true, false, false, false, false, false] rfl rfl (take_ofW HT_.out HW_.out (by kernel_rfl)) (fun _ _ _ h => h) (Or.inl ⟨by rfl, ?_⟩) hHeld ?_ ?_
    rotate_left
    ·rintro w' ⟨s0, s1, s2, s3⟩
     go_simp
     with_reducible rfl
    rotate_left
    ·simp only [Act.put, List.setIfInBounds_toArray, List.set_cons_zero, List.set_cons_succ, i64_w, i32_w]
     rfl
    refine one_ (i := 3) (N := some 34) #[true, true, true, true, false, false, false, false] rfl rfl (one_of HT_.out (by kernel_rfl)) (by decide) (fun K hK => ?_)
    refine goes_ Try.func76 (by kernel_rfl) rfl #[.slice Ao44 t249.length co44] (by rfl) rfl rfl (by (try simp only [List.map_toArray, List.map_cons, List.map_nil]); first | done | rfl | (simp only [List.length_drop, List.length_take]; rfl)) ?_
    with_reducible refine (slices_Clone_int_int.calls _ _ t249 t252 _ ?side1 ?side2 A8.out).mono ?_
    (case side1 => repeat (first | exact (Kd.R_reads' HO251.out).2.2 | (with_reducible refine Kd.C_alloc ?_ _) | (with_reducible refine Kd.C_drewN ?_ _) | (with_reducible refine Kd.C_drew ?_)))
    (case side2 => exact (Kd.R_reads' HO251.out).2.1)
    rintro e w45 ⟨v253, rfl, ho0, hb⟩
    refine ⟨_, rfl, ?_⟩
    have n0_ := Aside0.mk (Kd.R_elder' (by (with_reducible repeat (first | apply Kd.R_alloc | apply Kd.R_drewN | apply Kd.R_drew)); exact HO229.out) (Kd.R_base ho0) hb)
    have n1_ := Aside0.mk (Kd.R_elder' (by (with_reducible repeat (first | apply Kd.R_alloc | apply Kd.R_drewN | apply Kd.R_drew)); exact HO232.out) (Kd.R_base ho0) hb)
    have n2_ := Aside0.mk (Kd.R_elder' (by (with_reducible repeat (first | apply Kd.R_alloc | apply Kd.R_drewN | apply Kd.R_drew)); exact HO235.out) (Kd.R_base ho0) hb)
    have n3_ := Aside0.mk (Kd.R_elder' (by (with_reducible repeat (first | apply Kd.R_alloc | apply Kd.R_drewN | apply Kd.R_drew)); exact HO239.out) (Kd.R_base ho0) hb)
    have n4_ := Aside0.mk (Kd.R_elder' (by (with_reducible repeat (first | apply Kd.R_alloc | apply Kd.R_drewN | apply Kd.R_drew)); exact HO242.out) (Kd.R_base ho0) hb)
    have n5_ := Aside0.mk (Kd.R_elder' (by (with_reducible repeat (first | apply Kd.R_alloc | apply Kd.R_drewN | apply Kd.R_drew)); exact HO245.out) (Kd.R_base ho0) hb)
    have n6_ := Aside0.mk (Kd.R_elder' (by (with_reducible repeat (first | apply Kd.R_alloc | apply Kd.R_drewN | apply Kd.R_drew)); exact HO248.out) (Kd.R_base ho0) hb)
    have n7_ := Aside0.mk (Kd.R_elder' (by (with_reducible repeat (first | apply Kd.R_alloc | apply Kd.R_drewN | apply Kd.R_drew)); exact HO251.out) (Kd.R_base ho0) hb)
    have n8_ := Aside0.mk (Kd.R_lower (Kd.R_new' (Kd.R_new' (Kd.R_new' (Kd.R_new' (Kd.R_new' (Kd.R_new' (Kd.R_new' (Kd.R_new' ho0 (Kd.R_lt (by (with_reducible repeat (first | apply Kd.R_alloc | apply Kd.R_drewN | apply Kd.R_drew)); exact HO229.out))) (Kd.R_lt (by (with_reducible repeat (first | apply Kd.R_alloc | apply Kd.R_drewN | apply Kd.R_drew)); exact HO232.out))) (Kd.R_lt (by (with_reducible repeat (first | apply Kd.R_alloc | apply Kd.R_drewN | apply Kd.R_drew)); exact HO235.out))) (Kd.R_lt (by (with_reducible repeat (first | apply Kd.R_alloc | apply Kd.R_drewN | apply Kd.R_drew)); exact HO239.out))) (Kd.R_lt (by (with_reducible repeat (first | apply Kd.R_alloc | apply Kd.R_drewN | apply Kd.R_drew)); exact HO242.out))) (Kd.R_lt (by (with_reducible repeat (first | apply Kd.R_alloc | apply Kd.R_drewN | apply Kd.R_drew)); exact HO245.out))) (Kd.R_lt (by (with_reducible repeat (first | apply Kd.R_alloc | apply Kd.R_drewN | apply Kd.R_drew)); exact HO248.out))) (Kd.R_lt (by (with_reducible repeat (first | apply Kd.R_alloc | apply Kd.R_drewN | apply Kd.R_drew)); exact HO251.out))) (below_size (by repeat (first | (with_reducible first | exact HB.out | apply below_alloc | apply pw_below_drewN | apply below_drew1 | refine below_set ?_ GE226.out | refine below_set ?_ GE236.out) | exact HB.out))))
    have n9_ := Aside0.mk (blk_below (g := gb226) (o := .cells #[.slice none 0 0, .slice none 0 0, .slice none 0 0, .slice none 0 0] 79 (0, 0)) (by (with_reducible repeat (first | refine blk_drewN ?_ _ | refine blk_drew ?_ | refine blk_alloc ?_ _)); exact BK226.out) hb)
    have n10_ := Aside0.mk (blk_below (g := gb236) (o := .cells #[.slice Ao25 y227.length co25, .slice Ao24 y230.length co24, .slice Ao23 y233.length co23, .slice none 0 0] 79 (0, 0)) (by (with_reducible repeat (first | refine blk_drewN ?_ _ | refine blk_drew ?_ | refine blk_alloc ?_ _)); exact BK236.out) hb)
    have n11_ := Aside0.mk (below_step (by repeat (first | (with_reducible first | exact HB.out | apply below_alloc | apply pw_below_drewN | apply below_drew1 | refine below_set ?_ GE226.out | refine below_set ?_ GE236.out) | exact HB.out)) hb)
    clear HO229
    clear HO232
    clear HO235
    clear HO239
    clear HO242
    clear HO245
    clear HO248
    clear HO251
    clear BK226
    clear BK236
    clear HB
    have HO229 := n0_
    have HO232 := n1_
    have HO235 := n2_
    have HO239 := n3_
    have HO242 := n4_
    have HO245 := n5_
    have HO248 := n6_
    have HO251 := n7_
    have HO254 := n8_
    have BK226 := n9_
    have BK236 := n10_
    have HB := n11_
    clear n0_ n1_ n2_ n3_ n4_ n5_ n6_ n7_ n8_ n9_ n10_ n11_
    (try clear hb)
    (try clear hb2)
    (try clear hk)
    (try clear hi)
    (try clear ho0)
    obtain ⟨Ao47, co47, eo47⟩ := Kd.R_slice HO254.out
    (first | subst eo47 | (injection eo47 with f1_ f2_ f3_; have f4_ := f1_.symm; have f5_ := f3_.symm; clear f1_ f2_ f3_; subst f4_; subst f5_))
    refine hK.out _ _ ⟨(blk_cell BK236.out 0).trans rfl, (blk_cell BK236.out 1).trans rfl, (blk_cell BK236.out 2).trans rfl, (blk_cell BK236.out 3).trans rfl⟩ (fun hHeld => ?_)
    clear hK K
    refine norm_ (a' := ?_) ?_ ?_
    rotate_left
    ·show Act.put _ (some 34) _ = _
     simp only [Act.put, List.setIfInBounds_toArray, List.set_cons_zero, List.set_cons_succ, i64_w, i32_w]
     rfl
    refine one_ (i := 4) (N := some 35) #[true, true, true, true, true, false, false, false] rfl rfl (one_of HT_.out (by kernel_rfl)) (by decide) (fun K hK => ?_)
    refine value_ (w1 := ?_) (v := ?_) (by rfl) rfl ?_ ?_
    rotate_left 2
    ·go_simp
     constructor
     ·rfl
     ·rfl
    refine hK.out _ _ ⟨(blk_cell (blk_alloc BK236.out _) 0).trans rfl, (blk_cell (blk_alloc BK236.out _) 1).trans rfl, (blk_cell (blk_alloc BK236.out _) 2).trans rfl, (blk_cell (blk_alloc BK236.out _) 3).trans rfl⟩ (fun hHeld => ?_)
    clear hK K
    refine norm_ (a' := ?_) ?_ ?_
    rotate_left
    ·show Act.put _ (some 35) _ = _
     simp only [Act.put, List.setIfInBounds_toArray, List.set_cons_zero, List.set_cons_succ, i64_w, i32_w]
     rfl
    refine one_ (i := 5) (N := some 36) #[true, true, true, true, true, true, false, false] rfl rfl (one_of HT_.out (by kernel_rfl)) (by decide) (fun K hK => ?_)
    refine Kd.S_append_step (Kd.slice 3 (Kd.int .i64)) (w0 := w) w.heap.size (by rfl) (.tmp 32) (.tmp 35) 46 25 (.slice none 0 0) 24 rfl Try.underlying46 info25 rfl (by decide) (by omega) (.slice none 0 0) ([] : List (List Int)) t252 [.slice Ao47 t252.length co47] (fun k_ => some k_ ≠ (.slice Ao25 y227.length co25 : Value).ownBlock ∧ some k_ ≠ (.slice Ao24 y230.length co24 : Value).ownBlock ∧ some k_ ≠ (.slice Ao23 y233.length co23 : Value).ownBlock ∧ some k_ ≠ (v238 : Value).ownBlock ∧ some k_ ≠ (v241 : Value).ownBlock ∧ some k_ ≠ (v244 : Value).ownBlock ∧ some k_ ≠ (.slice Ao41 y246.length co41 : Value).ownBlock ∧ some k_ ≠ (.slice Ao44 t249.length co44 : Value).ownBlock) (fun k_ => some k_ = (.slice Ao47 t252.length co47 : Value).ownBlock) rfl rfl ?aP (fun k_ hk_ => ((Kd.R_mono (ok' := fun k_ => ((fun k_ => some k_ ≠ (.slice Ao25 y227.length co25 : Value).ownBlock ∧ some k_ ≠ (.slice Ao24 y230.length co24 : Value).ownBlock ∧ some k_ ≠ (.slice Ao23 y233.length co23 : Value).ownBlock ∧ some k_ ≠ (v238 : Value).ownBlock ∧ some k_ ≠ (v241 : Value).ownBlock ∧ some k_ ≠ (v244 : Value).ownBlock ∧ some k_ ≠ (.slice Ao41 y246.length co41 : Value).ownBlock ∧ some k_ ≠ (.slice Ao44 t249.length co44 : Value).ownBlock)) k_ ∧ some k_ ≠ (.slice none 0 0 : Value).ownBlock) (HO254.out) (fun k_ hk => ⟨⟨hk.1.1.1.1.1.1.1.2, ⟨hk.1.1.1.1.1.1.2, ⟨hk.1.1.1.1.1.2, ⟨hk.1.1.1.1.2, ⟨hk.1.1.1.2, ⟨hk.1.1.2, ⟨hk.1.2, hk.2⟩⟩⟩⟩⟩⟩⟩, (by simp [Value.ownBlock])⟩))).1 k_ hk_.symm) ?aF ?aO ?aB ?aS ?aL ?_
    (case aP => exact Kd.M_row (Kd.R_mono (Kd.R_tight rfl (Kd.R_mono (ok' := fun k_ => ((fun k_ => some k_ ≠ (.slice Ao25 y227.length co25 : Value).ownBlock ∧ some k_ ≠ (.slice Ao24 y230.length co24 : Value).ownBlock ∧ some k_ ≠ (.slice Ao23 y233.length co23 : Value).ownBlock ∧ some k_ ≠ (v238 : Value).ownBlock ∧ some k_ ≠ (v241 : Value).ownBlock ∧ some k_ ≠ (v244 : Value).ownBlock ∧ some k_ ≠ (.slice Ao41 y246.length co41 : Value).ownBlock ∧ some k_ ≠ (.slice Ao44 t249.length co44 : Value).ownBlock)) k_ ∧ some k_ ≠ (.slice none 0 0 : Value).ownBlock) (HO254.out) (fun k_ hk => ⟨⟨hk.1.1.1.1.1.1.1.2, ⟨hk.1.1.1.1.1.1.2, ⟨hk.1.1.1.1.1.2, ⟨hk.1.1.1.1.2, ⟨hk.1.1.1.2, ⟨hk.1.1.2, ⟨hk.1.2, hk.2⟩⟩⟩⟩⟩⟩⟩, (by simp [Value.ownBlock])⟩))) (fun _ h_ => h_)))
    (case aB => exact (by repeat (first | (with_reducible first | exact HB.out | apply below_alloc | apply pw_below_drewN | apply below_drew1 | refine below_set ?_ GE226.out | refine below_set ?_ GE236.out) | exact HB.out)))
    (case aF => exact (fun k_ hk => ⟨Kd.fresh' (Kd.R_lt (by (with_reducible repeat (first | apply Kd.R_alloc | apply Kd.R_drewN | apply Kd.R_drew)); exact HO229.out)) k_ hk, Kd.fresh' (Kd.R_lt (by (with_reducible repeat (first | apply Kd.R_alloc | apply Kd.R_drewN | apply Kd.R_drew)); exact HO232.out)) k_ hk, Kd.fresh' (Kd.R_lt (by (with_reducible repeat (first | apply Kd.R_alloc | apply Kd.R_drewN | apply Kd.R_drew)); exact HO235.out)) k_ hk, Kd.fresh' (Kd.R_lt (by (with_reducible repeat (first | apply Kd.R_alloc | apply Kd.R_drewN | apply Kd.R_drew)); exact HO239.out)) k_ hk, Kd.fresh' (Kd.R_lt (by (with_reducible repeat (first | apply Kd.R_alloc | apply Kd.R_drewN | apply Kd.R_drew)); exact HO242.out)) k_ hk, Kd.fresh' (Kd.R_lt (by (with_reducible repeat (first | apply Kd.R_alloc | apply Kd.R_drewN | apply Kd.R_drew)); exact HO245.out)) k_ hk, Kd.fresh' (Kd.R_lt (by (with_reducible repeat (first | apply Kd.R_alloc | apply Kd.R_drewN | apply Kd.R_drew)); exact HO248.out)) k_ hk, Kd.fresh' (Kd.R_lt (by (with_reducible repeat (first | apply Kd.R_alloc | apply Kd.R_drewN | apply Kd.R_drew)); exact HO251.out)) k_ hk⟩))
    (case aO => exact ((Kd.S_nil _ _ _ _ _)))
    (case aS => exact (below_size (by repeat (first | (with_reducible first | exact HB.out | apply below_alloc | apply pw_below_drewN | apply below_drew1 | refine below_set ?_ GE226.out | refine below_set ?_ GE236.out) | exact HB.out))))
    (case aL => have := LMc9.out; omega)
    intro v256 w46 ho hb hg hat
    rw [← Ny255.out] at ho
    have n0_ := Aside0.mk (blk_grown (g := gb226) (o := .cells #[.slice none 0 0, .slice none 0 0, .slice none 0 0, .slice none 0 0] 79 (0, 0)) (by (with_reducible repeat (first | refine blk_drewN ?_ _ | refine blk_drew ?_ | refine blk_alloc ?_ _)); exact BK226.out) hg (by simp [Value.ownBlock]))
    have n1_ := Aside0.mk (Kd.R_grown (by (with_reducible repeat (first | apply Kd.R_alloc | apply Kd.R_drewN | apply Kd.R_drew)); exact HO229.out) hg (fun _ _ => by simp [Value.ownBlock]))
    have n2_ := Aside0.mk (Kd.R_grown (by (with_reducible repeat (first | apply Kd.R_alloc | apply Kd.R_drewN | apply Kd.R_drew)); exact HO232.out) hg (fun _ _ => by simp [Value.ownBlock]))
    have n3_ := Aside0.mk (Kd.R_grown (by (with_reducible repeat (first | apply Kd.R_alloc | apply Kd.R_drewN | apply Kd.R_drew)); exact HO235.out) hg (fun _ _ => by simp [Value.ownBlock]))
    have n4_ := Aside0.mk (blk_grown (g := gb236) (o := .cells #[.slice Ao25 y227.length co25, .slice Ao24 y230.length co24, .slice Ao23 y233.length co23, .slice none 0 0] 79 (0, 0)) (by (with_reducible repeat (first | refine blk_drewN ?_ _ | refine blk_drew ?_ | refine blk_alloc ?_ _)); exact BK236.out) hg (by simp [Value.ownBlock]))
    have n5_ := Aside0.mk (Kd.R_grown (by (with_reducible repeat (first | apply Kd.R_alloc | apply Kd.R_drewN | apply Kd.R_drew)); exact HO239.out) hg (fun _ _ => by simp [Value.ownBlock]))
    have n6_ := Aside0.mk (Kd.R_grown (by (with_reducible repeat (first | apply Kd.R_alloc | apply Kd.R_drewN | apply Kd.R_drew)); exact HO242.out) hg (fun _ _ => by simp [Value.ownBlock]))
    have n7_ := Aside0.mk (Kd.R_grown (by (with_reducible repeat (first | apply Kd.R_alloc | apply Kd.R_drewN | apply Kd.R_drew)); exact HO245.out) hg (fun _ _ => by simp [Value.ownBlock]))
    have n8_ := Aside0.mk (Kd.R_grown (by (with_reducible repeat (first | apply Kd.R_alloc | apply Kd.R_drewN | apply Kd.R_drew)); exact HO248.out) hg (fun _ _ => by simp [Value.ownBlock]))
    have n9_ := Aside0.mk (Kd.R_grown (by (with_reducible repeat (first | apply Kd.R_alloc | apply Kd.R_drewN | apply Kd.R_drew)); exact HO251.out) hg (fun _ _ => by simp [Value.ownBlock]))
    have n10_ := Aside0.mk (hb)
    have n11_ := Aside0.mk (ho)
    clear BK226
    clear HO229
    clear HO232
    clear HO235
    clear BK236
    clear HO239
    clear HO242
    clear HO245
    clear HO248
    clear HO251
    clear HB
    clear HO254
    have BK226 := n0_
    have HO229 := n1_
    have HO232 := n2_
    have HO235 := n3_
    have BK236 := n4_
    have HO239 := n5_
    have HO242 := n6_
    have HO245 := n7_
    have HO248 := n8_
    have HO251 := n9_
    have HB := n10_
    have HO257 := n11_
    clear n0_ n1_ n2_ n3_ n4_ n5_ n6_ n7_ n8_ n9_ n10_ n11_
    clear ho hb hg hat
    obtain ⟨Ao48, co48, eo48⟩ := Kd.S_slice HO257.out
    (first | subst eo48 | (injection eo48 with f1_ f2_ f3_; have f4_ := f1_.symm; have f5_ := f3_.symm; clear f1_ f2_ f3_; subst f4_; subst f5_))
    refine hK.out _ _ ⟨(blk_cell BK236.out 0).trans rfl, (blk_cell BK236.out 1).trans rfl, (blk_cell BK236.out 2).trans rfl, (blk_cell BK236.out 3).trans rfl⟩ (fun hHeld => ?_)
    clear hK K
    refine norm_ (a' := ?_) ?_ ?_
    rotate_left
    ·show Act.put _ (some 36) _ = _
     simp only [Act.put, List.setIfInBounds_toArray, List.set_cons_zero, List.set_cons_succ, i64_w, i32_w]
     rfl
    refine pure_ (i := 6) (N := some 37) (v := ?_) (a' := ?_) #[true, true, true, true, true, true, true, false] rfl rfl (any_of HT_.out (by kernel_rfl)) (fun _ _ _ h => h) (Or.inl ⟨by rfl, ?_⟩) ?_ ?_
    rotate_left
    ·intro w'
     go_simp
     with_reducible rfl
    rotate_left
    ·simp only [Act.put, List.setIfInBounds_toArray, List.set_cons_zero, List.set_cons_succ, i64_w, i32_w]
     rfl
    refine last_ (i := 7) (N := none) #[true, true, true, true, true, true, true, true] rfl rfl (one_of HT_.out (by kernel_rfl)) (by decide) (fun K hK => ?_)
    have hs49 : w46.cell? ⟨gb236, 3, none⟩ = some (.slice none 0 0) := (blk_cell BK236.out 3).trans rfl
    have hfs49 := blk_frozen BK236.out 3
    have hns49_0 := NB226_236.out
    have hms49_0 := NB236_226.out
    refine skip_ (w1 := ?_) (by rfl) rfl ?_ ?_
    rotate_left
    ·go_simp
     rfl
    refine hK.out _ _ ?_
    clear hK K
    refine done_ (done_of HT_.out (by kernel_rfl)) ?_
    try go_wp2
    go_loopg [11, 12] k (fun kq v11 v12 w' => ∃ (x8_1 : List Int) (x9_1 : List Int) (x10_1 : List Int) (x11_1 : Int) (x12_1 : Int) (x237000_1 : List Int) (x237001_1 : List Int) (x237002_1 : List Int) (x237003_1 : List (List Int)) (u237000 : Value) (u237001 : Value) (u237002 : Value) (u237003 : Value), v11 = .int .i64 x11_1 ∧ v12 = .int .i64 x12_1 ∧ Aside0 (impl_board.l0 kq a0 a1 l2 x8_1 x9_1 x10_1 x11_1 x12_1 x237000_1 x237001_1 x237002_1 x237003_1 = some (r1, r2, r3, r4)) ∧ Aside0 (kq ≤ k) ∧ Aside0 (Kd.R (Kd.int .i64) 3 w' w.heap.size (fun k_ => some k_ ≠ (v244 : Value).ownBlock ∧ some k_ ≠ ((.slice Ao44 t249.length co44) : Value).ownBlock ∧ some k_ ≠ (u237000 : Value).ownBlock ∧ some k_ ≠ (u237001 : Value).ownBlock ∧ some k_ ≠ (u237002 : Value).ownBlock) v241 x8_1) ∧ Aside0 (Kd.R (Kd.int .i64) 3 w' w.heap.size (fun k_ => some k_ ≠ (v241 : Value).ownBlock ∧ some k_ ≠ ((.slice Ao44 t249.length co44) : Value).ownBlock ∧ some k_ ≠ (u237000 : Value).ownBlock ∧ some k_ ≠ (u237001 : Value).ownBlock ∧ some k_ ≠ (u237002 : Value).ownBlock) v244 x9_1) ∧ Aside0 (Kd.R (Kd.int .i64) 3 w' w.heap.size (fun k_ => some k_ ≠ (v241 : Value).ownBlock ∧ some k_ ≠ (v244 : Value).ownBlock ∧ some k_ ≠ (u237000 : Value).ownBlock ∧ some k_ ≠ (u237001 : Value).ownBlock ∧ some k_ ≠ (u237002 : Value).ownBlock) (.slice Ao44 t249.length co44) x10_1) ∧ Aside0 (Kd.R (Kd.int .i64) 3 w' w.heap.size (fun k_ => some k_ ≠ (v241 : Value).ownBlock ∧ some k_ ≠ (v244 : Value).ownBlock ∧ some k_ ≠ ((.slice Ao44 t249.length co44) : Value).ownBlock ∧ some k_ ≠ (u237001 : Value).ownBlock ∧ some k_ ≠ (u237002 : Value).ownBlock) u237000 x237000_1) ∧ Aside0 (Kd.R (Kd.int .i64) 3 w' w.heap.size (fun k_ => some k_ ≠ (v241 : Value).ownBlock ∧ some k_ ≠ (v244 : Value).ownBlock ∧ some k_ ≠ ((.slice Ao44 t249.length co44) : Value).ownBlock ∧ some k_ ≠ (u237000 : Value).ownBlock ∧ some k_ ≠ (u237002 : Value).ownBlock) u237001 x237001_1) ∧ Aside0 (Kd.R (Kd.int .i64) 3 w' w.heap.size (fun k_ => some k_ ≠ (v241 : Value).ownBlock ∧ some k_ ≠ (v244 : Value).ownBlock ∧ some k_ ≠ ((.slice Ao44 t249.length co44) : Value).ownBlock ∧ some k_ ≠ (u237000 : Value).ownBlock ∧ some k_ ≠ (u237001 : Value).ownBlock) u237002 x237002_1) ∧ Aside0 (Kd.S (Kd.slice 3 (Kd.int .i64)) 25 w' w.heap.size (fun k_ => some k_ ≠ (v241 : Value).ownBlock ∧ some k_ ≠ (v244 : Value).ownBlock ∧ some k_ ≠ ((.slice Ao44 t249.length co44) : Value).ownBlock ∧ some k_ ≠ (u237000 : Value).ownBlock ∧ some k_ ≠ (u237001 : Value).ownBlock ∧ some k_ ≠ (u237002 : Value).ownBlock) u237003 x237003_1) ∧ Aside0 (w'.heap[gb226]? = some (.cells #[(.slice none 0 0), (.slice none 0 0), (.slice none 0 0), (.slice none 0 0)] 79 (0, 0))) ∧ Aside0 (w'.heap[gb236]? = some (.cells #[u237000, u237001, u237002, u237003] 79 (0, 0))) ∧ Aside0 (Below w.heap.size w w'))
    case atStart => exact ⟨(t240), (y243), (t249), (a0), (1), (y227), (y230), (y233), (y255), (.slice Ao25 y227.length co25), (.slice Ao24 y230.length co24), (.slice Ao23 y233.length co23), (.slice Ao48 y255.length co48), (by first | rfl | (simp; done) | (simp [*]; done) | (simp [wrap64]; done) | (simp [*, wrap64]; done)), (by first | rfl | (simp; done) | (simp [*]; done) | (simp [wrap64]; done) | (simp [*, wrap64]; done)), H', ⟨Nat.le_refl _⟩, ⟨by (with_reducible repeat (first | apply Kd.R_alloc | apply Kd.R_drewN | apply Kd.R_drew)); exact Kd.R_mono (Kd.R_far (p := ⟨gb236, 3, none⟩) (Kd.R_types HO242.out BK236.out (by decide)) (fun _ hk => hk.2) (.slice Ao48 y255.length co48)) (fun _ hk => ⟨hk.1.1.1.1.2.2.2.2, ⟨hk.1.1.2, ⟨hk.1.1.1.1.1, ⟨hk.1.1.1.1.2.1, hk.1.1.1.1.2.2.1⟩⟩⟩⟩)⟩, ⟨by (with_reducible repeat (first | apply Kd.R_alloc | apply Kd.R_drewN | apply Kd.R_drew)); exact Kd.R_mono (Kd.R_far (p := ⟨gb236, 3, none⟩) (Kd.R_types HO245.out BK236.out (by decide)) (fun _ hk => hk.2) (.slice Ao48 y255.length co48)) (fun _ hk => ⟨hk.1.1.1.1.2.2.2.2, ⟨hk.1.1.2, ⟨hk.1.1.1.1.1, ⟨hk.1.1.1.1.2.1, hk.1.1.1.1.2.2.1⟩⟩⟩⟩)⟩, ⟨by (with_reducible repeat (first | apply Kd.R_alloc | apply Kd.R_drewN | apply Kd.R_drew)); exact Kd.R_mono (Kd.R_far (p := ⟨gb236, 3, none⟩) (Kd.R_types HO251.out BK236.out (by decide)) (fun _ hk => hk.2) (.slice Ao48 y255.length co48)) (fun _ hk => ⟨hk.1.1.1.1.2, ⟨hk.1.1.1.2, ⟨hk.1.1.1.1.1.1.1.1.2, ⟨hk.1.1.1.1.1.1.1.2, hk.1.1.1.1.1.1.2⟩⟩⟩⟩)⟩, ⟨by (with_reducible repeat (first | apply Kd.R_alloc | apply Kd.R_drewN | apply Kd.R_drew)); exact Kd.R_mono (Kd.R_far (p := ⟨gb236, 3, none⟩) (Kd.R_types HO229.out BK236.out (by decide)) (fun _ hk => hk.2) (.slice Ao48 y255.length co48)) (fun _ hk => ⟨hk.1.1.1.1.2.2.2.1, ⟨hk.1.1.1.1.2.2.2.2, ⟨hk.1.1.2, ⟨hk.1.1.1.1.1, hk.1.1.1.1.2.1⟩⟩⟩⟩)⟩, ⟨by (with_reducible repeat (first | apply Kd.R_alloc | apply Kd.R_drewN | apply Kd.R_drew)); exact Kd.R_mono (Kd.R_far (p := ⟨gb236, 3, none⟩) (Kd.R_types HO232.out BK236.out (by decide)) (fun _ hk => hk.2) (.slice Ao48 y255.length co48)) (fun _ hk => ⟨hk.1.1.1.1.2.2.2.1, ⟨hk.1.1.1.1.2.2.2.2, ⟨hk.1.1.2, ⟨hk.1.1.1.1.1, hk.1.1.1.1.2.1⟩⟩⟩⟩)⟩, ⟨by (with_reducible repeat (first | apply Kd.R_alloc | apply Kd.R_drewN | apply Kd.R_drew)); exact Kd.R_mono (Kd.R_far (p := ⟨gb236, 3, none⟩) (Kd.R_types HO235.out BK236.out (by decide)) (fun _ hk => hk.2) (.slice Ao48 y255.length co48)) (fun _ hk => ⟨hk.1.1.1.1.2.2.2.1, ⟨hk.1.1.1.1.2.2.2.2, ⟨hk.1.1.2, ⟨hk.1.1.1.1.1, hk.1.1.1.1.2.1⟩⟩⟩⟩)⟩, ⟨by (with_reducible repeat (first | apply Kd.S_alloc | apply Kd.S_drewN | apply Kd.S_drew)); exact Kd.S_mono (Kd.S_far (p := ⟨gb236, 3, none⟩) (Kd.S_types HO257.out BK236.out (by decide)) (fun _ hk => hk.2) (.slice Ao48 y255.length co48)) (fun _ hk => ⟨hk.1.2.2.2.2.1, ⟨hk.1.2.2.2.2.2.1, ⟨hk.1.2.2.2.2.2.2.2, ⟨hk.1.1, ⟨hk.1.2.1, hk.1.2.2.1⟩⟩⟩⟩⟩)⟩, ⟨by (with_reducible repeat (first | refine blk_drewN ?_ _ | refine blk_drew ?_ | refine blk_alloc ?_ _)); refine blk_far ?_ NB226_236.out _; (with_reducible repeat (first | refine blk_drewN ?_ _ | refine blk_drew ?_ | refine blk_alloc ?_ _)); exact BK226.out⟩, ⟨by (with_reducible repeat (first | refine blk_drewN ?_ _ | refine blk_drew ?_ | refine blk_alloc ?_ _)); refine blk_put (cs := #[.slice Ao25 y227.length co25, .slice Ao24 y230.length co24, .slice Ao23 y233.length co23, .slice none 0 0]) ?_ 3 _ rfl; (with_reducible repeat (first | refine blk_drewN ?_ _ | refine blk_drew ?_ | refine blk_alloc ?_ _)); exact BK236.out⟩, ⟨by repeat (first | (with_reducible first | exact HB.out | apply below_alloc | apply pw_below_drewN | apply below_drew1 | refine below_set ?_ GE226.out | refine below_set ?_ GE236.out) | exact HB.out)⟩⟩
    case round =>
     clear H'
     try clear p2
     try clear p6
     try clear c7
     try clear c9
     obtain ⟨x8_1, x9_1, x10_1, x11_1, x12_1, x237000_1, x237001_1, x237002_1, x237003_1, u237000, u237001, u237002, u237003, rfl, rfl, HA, HK1, HO_8, HO_9, HO_10, HO_237000, HO_237001, HO_237002, HO_237003, BK226, BK236, HB⟩ := hrel
     have hl10_1 := (Kd.R_reads' HO_10.out).1
     rw [hl10_1] at HO_10
     (try simp only [hl10_1])
     (try simp only [hl10_1] at BK226)
     (try simp only [hl10_1] at BK236)
     (try simp only [hl10_1] at HO_8)
     (try simp only [hl10_1] at HO_9)
     (try simp only [hl10_1] at HO_237000)
     (try simp only [hl10_1] at HO_237001)
     (try simp only [hl10_1] at HO_237002)
     (try simp only [hl10_1] at HO_237003)
     cases gk with
     | zero => exact absurd HA.out (by simp [impl_board.l0])
     | succ k1 =>
      have H := HA.out
      clear HA
      simp only [impl_board.l0] at H
      by_cases c50 : x11_1 > 0
      ·rw [if_pos c50] at H
       have c50b0 : decide (0 < x11_1) = true := decide_eq_true c50
       clear c50
       have H' := Aside0.mk H
       clear H
       go_wp2
       go_loopg [11, 45] k1 (fun kq v11 v45 w' => ∃ (x8_2 : List Int) (x9_2 : List Int) (x10_2 : List Int) (x11_2 : Int) (x45_2 : Int) (x237000_2 : List Int) (x237001_2 : List Int) (x237002_2 : List Int) (u237000 : Value) (u237001 : Value) (u237002 : Value), v11 = .int .i64 x11_2 ∧ v45 = .int .i64 x45_2 ∧ Aside0 (impl_board.l1 kq a0 a1 l2 x8_2 x9_2 x10_2 x11_2 x12_1 l2 (l2.length : Int) x45_2 x237000_2 x237001_2 x237002_2 x237003_1 = some (r1, r2, r3, r4)) ∧ Aside0 (kq ≤ k1) ∧ Aside0 (Kd.R (Kd.int .i64) 3 w' w.heap.size (fun k_ => some k_ ≠ (v244 : Value).ownBlock ∧ some k_ ≠ ((.slice Ao44 x10_1.length co44) : Value).ownBlock ∧ some k_ ≠ (u237000 : Value).ownBlock ∧ some k_ ≠ (u237001 : Value).ownBlock ∧ some k_ ≠ (u237002 : Value).ownBlock) v241 x8_2) ∧ Aside0 (Kd.R (Kd.int .i64) 3 w' w.heap.size (fun k_ => some k_ ≠ (v241 : Value).ownBlock ∧ some k_ ≠ ((.slice Ao44 x10_1.length co44) : Value).ownBlock ∧ some k_ ≠ (u237000 : Value).ownBlock ∧ some k_ ≠ (u237001 : Value).ownBlock ∧ some k_ ≠ (u237002 : Value).ownBlock) v244 x9_2) ∧ Aside0 (Kd.R (Kd.int .i64) 3 w' w.heap.size (fun k_ => some k_ ≠ (v241 : Value).ownBlock ∧ some k_ ≠ (v244 : Value).ownBlock ∧ some k_ ≠ (u237000 : Value).ownBlock ∧ some k_ ≠ (u237001 : Value).ownBlock ∧ some k_ ≠ (u237002 : Value).ownBlock) (.slice Ao44 x10_1.length co44) x10_2) ∧ Aside0 (Kd.R (Kd.int .i64) 3 w' w.heap.size (fun k_ => some k_ ≠ (v241 : Value).ownBlock ∧ some k_ ≠ (v244 : Value).ownBlock ∧ some k_ ≠ ((.slice Ao44 x10_1.length co44) : Value).ownBlock ∧ some k_ ≠ (u237001 : Value).ownBlock ∧ some k_ ≠ (u237002 : Value).ownBlock) u237000 x237000_2) ∧ Aside0 (Kd.R (Kd.int .i64) 3 w' w.heap.size (fun k_ => some k_ ≠ (v241 : Value).ownBlock ∧ some k_ ≠ (v244 : Value).ownBlock ∧ some k_ ≠ ((.slice Ao44 x10_1.length co44) : Value).ownBlock ∧ some k_ ≠ (u237000 : Value).ownBlock ∧ some k_ ≠ (u237002 : Value).ownBlock) u237001 x237001_2) ∧ Aside0 (Kd.R (Kd.int .i64) 3 w' w.heap.size (fun k_ => some k_ ≠ (v241 : Value).ownBlock ∧ some k_ ≠ (v244 : Value).ownBlock ∧ some k_ ≠ ((.slice Ao44 x10_1.length co44) : Value).ownBlock ∧ some k_ ≠ (u237000 : Value).ownBlock ∧ some k_ ≠ (u237001 : Value).ownBlock) u237002 x237002_2) ∧ Aside0 (Kd.S (Kd.slice 3 (Kd.int .i64)) 25 w' w.heap.size (fun k_ => some k_ ≠ (v241 : Value).ownBlock ∧ some k_ ≠ (v244 : Value).ownBlock ∧ some k_ ≠ ((.slice Ao44 x10_1.length co44) : Value).ownBlock ∧ some k_ ≠ (u237000 : Value).ownBlock ∧ some k_ ≠ (u237001 : Value).ownBlock ∧ some k_ ≠ (u237002 : Value).ownBlock) u237003 x237003_1) ∧ Aside0 (w'.heap[gb226]? = some (.cells #[(.slice none 0 0), (.slice none 0 0), (.slice none 0 0), (.slice none 0 0)] 79 (0, 0))) ∧ Aside0 (w'.heap[gb236]? = some (.cells #[u237000, u237001, u237002, u237003] 79 (0, 0))) ∧ Aside0 (Below w.heap.size w w'))
       case atStart => exact ⟨(x8_1), (x9_1), (x10_1), (x11_1), (0), (x237000_1), (x237001_1), (x237002_1), (u237000), (u237001), (u237002), (by first | rfl | (simp; done) | (simp [*]; done) | (simp [wrap64]; done) | (simp [*, wrap64]; done)), (by first | rfl | (simp; done) | (simp [*]; done) | (simp [wrap64]; done) | (simp [*, wrap64]; done)), H', ⟨Nat.le_refl _⟩, ⟨by (try simp only [hl10_1]); (with_reducible repeat (first | apply Kd.R_alloc | apply Kd.R_drewN | apply Kd.R_drew)); exact HO_8.out⟩, ⟨by (try simp only [hl10_1]); (with_reducible repeat (first | apply Kd.R_alloc | apply Kd.R_drewN | apply Kd.R_drew)); exact HO_9.out⟩, ⟨by (try simp only [hl10_1]); (with_reducible repeat (first | apply Kd.R_alloc | apply Kd.R_drewN | apply Kd.R_drew)); exact HO_10.out⟩, ⟨by (try simp only [hl10_1]); (with_reducible repeat (first | apply Kd.R_alloc | apply Kd.R_drewN | apply Kd.R_drew)); exact HO_237000.out⟩, ⟨by (try simp only [hl10_1]); (with_reducible repeat (first | apply Kd.R_alloc | apply Kd.R_drewN | apply Kd.R_drew)); exact HO_237001.out⟩, ⟨by (try simp only [hl10_1]); (with_reducible repeat (first | apply Kd.R_alloc | apply Kd.R_drewN | apply Kd.R_drew)); exact HO_237002.out⟩, ⟨by (try simp only [hl10_1]); (with_reducible repeat (first | apply Kd.S_alloc | apply Kd.S_drewN | apply Kd.S_drew)); exact HO_237003.out⟩, ⟨by (try simp only [hl10_1]); (with_reducible repeat (first | refine blk_drewN ?_ _ | refine blk_drew ?_ | refine blk_alloc ?_ _)); exact BK226.out⟩, ⟨by (try simp only [hl10_1]); (with_reducible repeat (first | refine blk_drewN ?_ _ | refine blk_drew ?_ | refine blk_alloc ?_ _)); exact BK236.out⟩, ⟨by repeat (first | (with_reducible first | exact HB.out | apply below_alloc | apply pw_below_drewN | apply below_drew1 | refine below_set ?_ GE226.out | refine below_set ?_ GE236.out) | exact HB.out)⟩⟩
       case round =>
        clear H'
        try clear p2
        try clear c5
        try clear p6
        try clear c7
        try clear c9
        try clear c50
        try clear c50b0
        try clear p2
        try clear p6
        obtain ⟨x8_2, x9_2, x10_2, x11_2, x45_2, x237000_2, x237001_2, x237002_2, u237000, u237001, u237002, rfl, rfl, HA, HK2, HO_8, HO_9, HO_10, HO_237000, HO_237001, HO_237002, HO_237003, BK226, BK236, HB⟩ := hrel
        have hl10_2 := (Kd.R_reads' HO_10.out).1
        rw [hl10_2] at HO_10
        (try simp only [hl10_2])
        (try simp only [hl10_2] at BK226)
        (try simp only [hl10_2] at BK236)
        (try simp only [hl10_2] at HO_8)
        (try simp only [hl10_2] at HO_9)
        (try simp only [hl10_2] at HO_237000)
        (try simp only [hl10_2] at HO_237001)
        (try simp only [hl10_2] at HO_237002)
        (try simp only [hl10_2] at HO_237003)
        cases gk with
        | zero => exact absurd HA.out (by simp [impl_board.l1])
        | succ k2 =>
         have H := HA.out
         clear HA
         simp only [impl_board.l1] at H
         by_cases c51 : x45_2 < (l2.length : Int)
         ·rw [if_pos c51] at H
          have c51b0 : decide (x45_2 < (l2.length : Int)) = true := decide_eq_true c51
          clear c51
          by_cases c52 : 0 ≤ x45_2
          ·rw [if_pos c52] at H
           have c52b0 : decide (0 ≤ x45_2) = true := decide_eq_true c52
           clear c52
           by_cases c53 : x45_2 < (l2.length : Int)
           ·rw [if_pos c53] at H
            have c53b0 : decide (x45_2 < (l2.length : Int)) = true := decide_eq_true c53
            clear c53
            by_cases c54 : 0 ≤ (rd l2 x45_2)
            ·rw [if_pos c54] at H
             have c54b0 : decide (0 ≤ (rd l2 x45_2)) = true := decide_eq_true c54
             clear c54
             by_cases c55 : (rd l2 x45_2) < (x8_2.length : Int)
             ·rw [if_pos c55] at H
              have c55b0 : decide ((rd l2 x45_2) < (x8_2.length : Int)) = true := decide_eq_true c55
              clear c55
              by_cases c56 : (rd x8_2 (rd l2 x45_2)) = a0
              ·rw [if_pos c56] at H
               have c56b0 : ((rd x8_2 (rd l2 x45_2)) == a0) = true := beq_iff_eq.mpr c56
               have c56b1 : ((rd x8_2 (rd l2 x45_2)) != a0) = false := bne_eq_false_iff_eq.mpr c56
               clear c56
               have H' := Aside0.mk H
               clear H
               have p264 : 0 ≤ (x45_2 : Int) := of_decide_eq_true (by first | (with_reducible assumption) | assumption)
               have q264 : x45_2 < (l2.length : Int) := of_decide_eq_true (by first | (with_reducible assumption) | assumption)
               (try (have qm264 := q264; rw [HMHR2.out] at qm264; replace qm264 := eq_true qm264))
               obtain ⟨ad264, e264, hx264_0⟩ := Kd.at_int HR2.out x45_2 p264 q264
               cases e264
               replace hx264_0 := (HB.out.cell (World.block_lt_of_cell? w _ hx264_0)).trans hx264_0
               replace p264 := eq_true p264
               replace q264 := eq_true q264
               obtain ⟨Ao57, co57, eo57⟩ := Kd.R_slice HO_8.out
               subst eo57
               have p265 : 0 ≤ ((rd l2 x45_2) : Int) := of_decide_eq_true (by first | (with_reducible assumption) | assumption)
               have q265 : (rd l2 x45_2) < (x8_2.length : Int) := of_decide_eq_true (by first | (with_reducible assumption) | assumption)
               obtain ⟨ad265, e265, hx265_0⟩ := Kd.at_int (Kd.R_reads' HO_8.out).2.2 (rd l2 x45_2) p265 q265
               cases e265
               replace p265 := eq_true p265
               replace q265 := eq_true q265
               go_wp2
               (try simp only [← hl10_2])
               go_roundg k2
               case measure => have := HK1.out; have := HK2.out; omega
               case rel => exact ⟨(x8_2), (x9_2), (x10_2), (x11_2), (wrap64 (x45_2 + 1)), (x237000_2), (x237001_2), (x237002_2), (u237000), (u237001), (u237002), (by first | rfl | (simp; done) | (simp [*]; done) | (simp [wrap64]; done) | (simp [*, wrap64]; done)), (by first | rfl | (simp; done) | (simp [*]; done) | (simp [wrap64]; done) | (simp [*, wrap64]; done)), H', ⟨by have := HK1.out; have := HK2.out; omega⟩, ⟨by (try simp only [hl10_1]); (try simp only [hl10_2]); (with_reducible repeat (first | apply Kd.R_alloc | apply Kd.R_drewN | apply Kd.R_drew)); exact HO_8.out⟩, ⟨by (try simp only [hl10_1]); (try simp only [hl10_2]); (with_reducible repeat (first | apply Kd.R_alloc | apply Kd.R_drewN | apply Kd.R_drew)); exact HO_9.out⟩, ⟨by (try simp only [hl10_1]); (try simp only [hl10_2]); (with_reducible repeat (first | apply Kd.R_alloc | apply Kd.R_drewN | apply Kd.R_drew)); exact HO_10.out⟩, ⟨by (try simp only [hl10_1]); (try simp only [hl10_2]); (with_reducible repeat (first | apply Kd.R_alloc | apply Kd.R_drewN | apply Kd.R_drew)); exact HO_237000.out⟩, ⟨by (try simp only [hl10_1]); (try simp only [hl10_2]); (with_reducible repeat (first | apply Kd.R_alloc | apply Kd.R_drewN | apply Kd.R_drew)); exact HO_237001.out⟩, ⟨by (try simp only [hl10_1]); (try simp only [hl10_2]); (with_reducible repeat (first | apply Kd.R_alloc | apply Kd.R_drewN | apply Kd.R_drew)); exact HO_237002.out⟩, ⟨by (try simp only [hl10_1]); (try simp only [hl10_2]); (with_reducible repeat (first | apply Kd.S_alloc | apply Kd.S_drewN | apply Kd.S_drew)); exact HO_237003.out⟩, ⟨by (try simp only [hl10_1]); (try simp only [hl10_2]); (with_reducible repeat (first | refine blk_drewN ?_ _ | refine blk_drew ?_ | refine blk_alloc ?_ _)); exact BK226.out⟩, ⟨by (try simp only [hl10_1]); (try simp only [hl10_2]); (with_reducible repeat (first | refine blk_drewN ?_ _ | refine blk_drew ?_ | refine blk_alloc ?_ _)); exact BK236.out⟩, ⟨by repeat (first | (with_reducible first | exact HB.out | apply below_alloc | apply pw_below_drewN | apply below_drew1 | refine below_set ?_ GE226.out | refine below_set ?_ GE236.out) | exact HB.out)⟩⟩
              ·rw [if_neg c56] at H
               have c56b0 : ((rd x8_2 (rd l2 x45_2)) == a0) = false := beq_eq_false_iff_ne.mpr c56
               have c56b1 : ((rd x8_2 (rd l2 x45_2)) != a0) = true := bne_iff_ne.mpr c56
               by_cases c58 : (rd x8_2 (rd l2 x45_2)) = (rd l2 x45_2)
               ·rw [if_pos c58] at H
                have c58b0 : ((rd x8_2 (rd l2 x45_2)) == (rd l2 x45_2)) = true := beq_iff_eq.mpr c58
                have c58b1 : ((rd x8_2 (rd l2 x45_2)) != (rd l2 x45_2)) = false := bne_eq_false_iff_eq.mpr c58
                clear c58
                by_cases c59 : (rd l2 x45_2) < (x9_2.length : Int)
                ·rw [if_pos c59] at H
                 have c59b0 : decide ((rd l2 x45_2) < (x9_2.length : Int)) = true := decide_eq_true c59
                 clear c59
                 obtain ⟨y267, hy267⟩ : ∃ y_ : List Int, y_ = (x9_2.set ((rd l2 x45_2) : Int).toNat (wrap64 ((rd x9_2 (rd l2 x45_2)) + 1))) := ⟨_, rfl⟩
                 replace H : (if (rd y267 (rd l2 x45_2)) = a1 then (if 0 ≤ (rd x8_2 (rd l2 x45_2)) then (if (rd x8_2 (rd l2 x45_2)) < (x10_2.length : Int) then (if (rd l2 x45_2) < (x237000_2.length : Int) then (impl_board.l1 k2 a0 a1 l2 (x8_2.set ((rd l2 x45_2) : Int).toNat a0) y267 (x10_2.set ((rd x8_2 (rd l2 x45_2)) : Int).toNat (-1)) (wrap64 (x11_2 - 1)) x12_1 l2 (l2.length : Int) (wrap64 (x45_2 + 1)) (x237000_2.set ((rd l2 x45_2) : Int).toNat x12_1) x237001_2 x237002_2 x237003_1) else (none)) else (none)) else (none)) else (impl_board.l1 k2 a0 a1 l2 x8_2 y267 x10_2 x11_2 x12_1 l2 (l2.length : Int) (wrap64 (x45_2 + 1)) x237000_2 x237001_2 x237002_2 x237003_1)) = some (r1, r2, r3, r4) := by first | (rw [hy267]; with_reducible exact H) | (have H2_ := (Option.bind_some _ _).symm.trans H; rw [hy267]; with_reducible exact H2_) | (have H2_ := (Option.bind_some _ _).symm.trans H; with_reducible exact H2_) | with_reducible exact H | (rw [hy267]; exact H) | exact H
                 have Ny267 := Aside0.mk hy267
                 clear hy267
                 by_cases c61 : (rd y267 (rd l2 x45_2)) = a1
                 ·rw [if_pos c61] at H
                  have c61b0 : ((rd y267 (rd l2 x45_2)) == a1) = true := beq_iff_eq.mpr c61
                  have c61b1 : ((rd y267 (rd l2 x45_2)) != a1) = false := bne_eq_false_iff_eq.mpr c61
                  clear c61
                  by_cases c62 : 0 ≤ (rd x8_2 (rd l2 x45_2))
                  ·rw [if_pos c62] at H
                   have c62b0 : decide (0 ≤ (rd x8_2 (rd l2 x45_2))) = true := decide_eq_true c62
                   clear c62
                   by_cases c63 : (rd x8_2 (rd l2 x45_2)) < (x10_2.length : Int)
                   ·rw [if_pos c63] at H
                    have c63b0 : decide ((rd x8_2 (rd l2 x45_2)) < (x10_2.length : Int)) = true := decide_eq_true c63
                    clear c63
                    obtain ⟨y269, hy269⟩ : ∃ y_ : List Int, y_ = (x10_2.set ((rd x8_2 (rd l2 x45_2)) : Int).toNat (-1)) := ⟨_, rfl⟩
                    replace H : (if (rd l2 x45_2) < (x237000_2.length : Int) then (impl_board.l1 k2 a0 a1 l2 (x8_2.set ((rd l2 x45_2) : Int).toNat a0) y267 y269 (wrap64 (x11_2 - 1)) x12_1 l2 (l2.length : Int) (wrap64 (x45_2 + 1)) (x237000_2.set ((rd l2 x45_2) : Int).toNat x12_1) x237001_2 x237002_2 x237003_1) else (none)) = some (r1, r2, r3, r4) := by first | (rw [hy269]; with_reducible exact H) | (have H2_ := (Option.bind_some _ _).symm.trans H; rw [hy269]; with_reducible exact H2_) | (have H2_ := (Option.bind_some _ _).symm.trans H; with_reducible exact H2_) | with_reducible exact H | (rw [hy269]; exact H) | exact H
                    have Ny269 := Aside0.mk hy269
                    clear hy269
                    obtain ⟨y270, hy270⟩ : ∃ y_ : List Int, y_ = (x8_2.set ((rd l2 x45_2) : Int).toNat a0) := ⟨_, rfl⟩
                    replace H : (if (rd l2 x45_2) < (x237000_2.length : Int) then (impl_board.l1 k2 a0 a1 l2 y270 y267 y269 (wrap64 (x11_2 - 1)) x12_1 l2 (l2.length : Int) (wrap64 (x45_2 + 1)) (x237000_2.set ((rd l2 x45_2) : Int).toNat x12_1) x237001_2 x237002_2 x237003_1) else (none)) = some (r1, r2, r3, r4) := by first | (rw [hy270]; with_reducible exact H) | (have H2_ := (Option.bind_some _ _).symm.trans H; rw [hy270]; with_reducible exact H2_) | (have H2_ := (Option.bind_some _ _).symm.trans H; with_reducible exact H2_) | with_reducible exact H | (rw [hy270]; exact H) | exact H
                    have Ny270 := Aside0.mk hy270
                    clear hy270
                    by_cases c66 : (rd l2 x45_2) < (x237000_2.length : Int)
                    ·rw [if_pos c66] at H
                     have c66b0 : decide ((rd l2 x45_2) < (x237000_2.length : Int)) = true := decide_eq_true c66
                     clear c66
                     obtain ⟨y271, hy271⟩ : ∃ y_ : List Int, y_ = (x237000_2.set ((rd l2 x45_2) : Int).toNat x12_1) := ⟨_, rfl⟩
                     replace H : (impl_board.l1 k2 a0 a1 l2 y270 y267 y269 (wrap64 (x11_2 - 1)) x12_1 l2 (l2.length : Int) (wrap64 (x45_2 + 1)) y271 x237001_2 x237002_2 x237003_1) = some (r1, r2, r3, r4) := by first | (rw [hy271]; with_reducible exact H) | (have H2_ := (Option.bind_some _ _).symm.trans H; rw [hy271]; with_reducible exact H2_) | (have H2_ := (Option.bind_some _ _).symm.trans H; with_reducible exact H2_) | with_reducible exact H | (rw [hy271]; exact H) | exact H
                     have Ny271 := Aside0.mk hy271
                     clear hy271
                     have H' := Aside0.mk H
                     clear H
                     have p264 : 0 ≤ (x45_2 : Int) := of_decide_eq_true (by first | (with_reducible assumption) | assumption)
                     have q264 : x45_2 < (l2.length : Int) := of_decide_eq_true (by first | (with_reducible assumption) | assumption)
                     (try (have qm264 := q264; rw [HMHR2.out] at qm264; replace qm264 := eq_true qm264))
                     obtain ⟨ad264, e264, hx264_0⟩ := Kd.at_int HR2.out x45_2 p264 q264
                     cases e264
                     replace hx264_0 := (HB.out.cell (World.block_lt_of_cell? w _ hx264_0)).trans hx264_0
                     replace p264 := eq_true p264
                     replace q264 := eq_true q264
                     obtain ⟨Ao68, co68, eo68⟩ := Kd.R_slice HO_8.out
                     subst eo68
                     have p265 : 0 ≤ ((rd l2 x45_2) : Int) := of_decide_eq_true (by first | (with_reducible assumption) | assumption)
                     have q265 : (rd l2 x45_2) < (x8_2.length : Int) := of_decide_eq_true (by first | (with_reducible assumption) | assumption)
                     obtain ⟨ad265, e265, hx265_0⟩ := Kd.at_int (Kd.R_reads' HO_8.out).2.2 (rd l2 x45_2) p265 q265
                     cases e265
                     replace p265 := eq_true p265
                     replace q265 := eq_true q265
                     obtain ⟨Ao69, co69, eo69⟩ := Kd.R_slice HO_9.out
                     subst eo69
                     have p266 : 0 ≤ ((rd l2 x45_2) : Int) := of_decide_eq_true (by first | (with_reducible assumption) | assumption)
                     have q266 : (rd l2 x45_2) < (x9_2.length : Int) := of_decide_eq_true (by first | (with_reducible assumption) | assumption)
                     obtain ⟨ad266, e266, hx266_0⟩ := Kd.at_int (Kd.R_reads' HO_9.out).2.2 (rd l2 x45_2) p266 q266
                     cases e266
                     replace p266 := eq_true p266
                     replace q266 := eq_true q266
                     have p60 : 0 ≤ ((rd l2 x45_2) : Int) := of_decide_eq_true (by first | (with_reducible assumption) | assumption)
                     have q60 : ((rd l2 x45_2) : Int) < ((x9_2.length : Int) : Int) := of_decide_eq_true (by first | (with_reducible assumption) | assumption)
                     obtain ⟨go60, co60, eo60, gb60, gl60, cl60, HG60⟩ := Kd.R_form HO_9.out (by omega)
                     (first | cases eo60 | (injection eo60 with ea_ en_ ec_; (first | subst ea_ | (injection ea_ with ea_; subst ea_)); subst ec_; clear en_))
                     have GB60 := Aside0.mk gb60
                     have GG60 := Aside0.mk HG60
                     clear gb60 gl60 HG60
                     (first | simp only [add_plain] at hx266_0 | skip)
                     obtain ⟨hx60_0, hf60_0⟩ := Kd.R_celln 0 HO_9.out ((rd l2 x45_2) : Int) p60 q60
                     replace p60 := eq_true p60
                     replace q60 := eq_true q60
                     have HP70 := Kd.R_putg HO_9.out ((rd l2 x45_2) : Int) (wrap64 ((rd x9_2 (rd l2 x45_2)) + 1))
                     try go_wp2_with (first | ((with_reducible refine gate_store (t := 3) (p := 66) rfl ?_); refine store_event (t := 3) (p := 66) (v := ?vo_w71) (w1 := (wr.setCell ⟨go60, ((rd l2 x45_2) : Int).toNat, none⟩ (.int .i64 (wrap64 ((rd x9_2 (rd l2 x45_2)) + 1))))) ?hg ?ho ?hn ?hr ?_; (case ho => rfl); (case hg => rfl); (case hn => rfl); (case hr => first | (go_simp; done) | (go_simp; rfl)); intro w71 hw; have hg : wr.grownBy w71 (some go60) := (by rw [hw]; exact HP70.2); have hp_ : Kd.R (Kd.int .i64) 3 w71 w.heap.size (fun k_ => some k_ ≠ (.slice (some ad265) x8_2.length co68 : Value).ownBlock ∧ some k_ ≠ (.slice Ao44 x10_2.length co44 : Value).ownBlock ∧ some k_ ≠ (u237000 : Value).ownBlock ∧ some k_ ≠ (u237001 : Value).ownBlock ∧ some k_ ≠ (u237002 : Value).ownBlock) (.slice (some ⟨go60, 0, none⟩) x9_2.length co69) y267 := (by rw [hw, Ny267.out]; exact HP70.1); clear HP70; have n0_ := Aside0.mk (Kd.R_after (v := (.slice (some ⟨go60, 0, none⟩) x9_2.length co69)) (v1 := (.slice (some ⟨go60, 0, none⟩) x9_2.length co69)) (ok := (fun k_ => some k_ ≠ (.slice Ao44 x10_2.length co44 : Value).ownBlock ∧ some k_ ≠ (u237000 : Value).ownBlock ∧ some k_ ≠ (u237001 : Value).ownBlock ∧ some k_ ≠ (u237002 : Value).ownBlock)) (by (with_reducible repeat (first | apply Kd.R_alloc | apply Kd.R_drewN | apply Kd.R_drew)); exact Kd.R_mono HO_8.out (fun _ hk => ⟨⟨hk.2.1, ⟨hk.2.2.1, ⟨hk.2.2.2.1, hk.2.2.2.2⟩⟩⟩, hk.1⟩)) hg (.inl rfl)); have n1_ := Aside0.mk (hp_); have n2_ := Aside0.mk (Kd.R_after (v := (.slice (some ⟨go60, 0, none⟩) x9_2.length co69)) (v1 := (.slice (some ⟨go60, 0, none⟩) x9_2.length co69)) (ok := (fun k_ => some k_ ≠ (.slice (some ad265) x8_2.length co68 : Value).ownBlock ∧ some k_ ≠ (u237000 : Value).ownBlock ∧ some k_ ≠ (u237001 : Value).ownBlock ∧ some k_ ≠ (u237002 : Value).ownBlock)) (by (with_reducible repeat (first | apply Kd.R_alloc | apply Kd.R_drewN | apply Kd.R_drew)); exact Kd.R_mono HO_10.out (fun _ hk => ⟨⟨hk.1, ⟨hk.2.2.1, ⟨hk.2.2.2.1, hk.2.2.2.2⟩⟩⟩, hk.2.1⟩)) hg (.inl rfl)); have n3_ := Aside0.mk (Kd.R_after (v := (.slice (some ⟨go60, 0, none⟩) x9_2.length co69)) (v1 := (.slice (some ⟨go60, 0, none⟩) x9_2.length co69)) (ok := (fun k_ => some k_ ≠ (.slice (some ad265) x8_2.length co68 : Value).ownBlock ∧ some k_ ≠ (.slice Ao44 x10_2.length co44 : Value).ownBlock ∧ some k_ ≠ (u237001 : Value).ownBlock ∧ some k_ ≠ (u237002 : Value).ownBlock)) (by (with_reducible repeat (first | apply Kd.R_alloc | apply Kd.R_drewN | apply Kd.R_drew)); exact Kd.R_mono HO_237000.out (fun _ hk => ⟨⟨hk.1, ⟨hk.2.2.1, ⟨hk.2.2.2.1, hk.2.2.2.2⟩⟩⟩, hk.2.1⟩)) hg (.inl rfl)); have n4_ := Aside0.mk (Kd.R_after (v := (.slice (some ⟨go60, 0, none⟩) x9_2.length co69)) (v1 := (.slice (some ⟨go60, 0, none⟩) x9_2.length co69)) (ok := (fun k_ => some k_ ≠ (.slice (some ad265) x8_2.length co68 : Value).ownBlock ∧ some k_ ≠ (.slice Ao44 x10_2.length co44 : Value).ownBlock ∧ some k_ ≠ (u237000 : Value).ownBlock ∧ some k_ ≠ (u237002 : Value).ownBlock)) (by (with_reducible repeat (first | apply Kd.R_alloc | apply Kd.R_drewN | apply Kd.R_drew)); exact Kd.R_mono HO_237001.out (fun _ hk => ⟨⟨hk.1, ⟨hk.2.2.1, ⟨hk.2.2.2.1, hk.2.2.2.2⟩⟩⟩, hk.2.1⟩)) hg (.inl rfl)); have n5_ := Aside0.mk (Kd.R_after (v := (.slice (some ⟨go60, 0, none⟩) x9_2.length co69)) (v1 := (.slice (some ⟨go60, 0, none⟩) x9_2.length co69)) (ok := (fun k_ => some k_ ≠ (.slice (some ad265) x8_2.length co68 : Value).ownBlock ∧ some k_ ≠ (.slice Ao44 x10_2.length co44 : Value).ownBlock ∧ some k_ ≠ (u237000 : Value).ownBlock ∧ some k_ ≠ (u237001 : Value).ownBlock)) (by (with_reducible repeat (first | apply Kd.R_alloc | apply Kd.R_drewN | apply Kd.R_drew)); exact Kd.R_mono HO_237002.out (fun _ hk => ⟨⟨hk.1, ⟨hk.2.2.1, ⟨hk.2.2.2.1, hk.2.2.2.2⟩⟩⟩, hk.2.1⟩)) hg (.inl rfl)); have n6_ := Aside0.mk (Kd.S_after (v := (.slice (some ⟨go60, 0, none⟩) x9_2.length co69)) (v1 := (.slice (some ⟨go60, 0, none⟩) x9_2.length co69)) (ok := (fun k_ => some k_ ≠ (.slice (some ad265) x8_2.length co68 : Value).ownBlock ∧ some k_ ≠ (.slice Ao44 x10_2.length co44 : Value).ownBlock ∧ some k_ ≠ (u237000 : Value).ownBlock ∧ some k_ ≠ (u237001 : Value).ownBlock ∧ some k_ ≠ (u237002 : Value).ownBlock)) (by (with_reducible repeat (first | apply Kd.S_alloc | apply Kd.S_drewN | apply Kd.S_drew)); exact Kd.S_mono HO_237003.out (fun _ hk => ⟨⟨hk.1, ⟨hk.2.2.1, ⟨hk.2.2.2.1, ⟨hk.2.2.2.2.1, hk.2.2.2.2.2⟩⟩⟩⟩, hk.2.1⟩)) hg (.inl rfl)); have n7_ := Aside0.mk (blk_grown (g := gb226) (o := .cells #[.slice none 0 0, .slice none 0 0, .slice none 0 0, .slice none 0 0] 79 (0, 0)) (by (with_reducible repeat (first | refine blk_drewN ?_ _ | refine blk_drew ?_ | refine blk_alloc ?_ _)); exact BK226.out) hg (Kd.R_ne HO_9.out BK226.out (by decide))); have n8_ := Aside0.mk (blk_grown (g := gb236) (o := .cells #[u237000, u237001, u237002, u237003] 79 (0, 0)) (by (with_reducible repeat (first | refine blk_drewN ?_ _ | refine blk_drew ?_ | refine blk_alloc ?_ _)); exact BK236.out) hg (Kd.R_ne HO_9.out BK236.out (by decide))); have n9_ := Aside0.mk ((by rw [hw]; exact below_set (HB.out) GB60.out : Below w.heap.size w w71)); clear HO_8; clear HO_9; clear HO_10; clear HO_237000; clear HO_237001; clear HO_237002; clear HO_237003; clear BK226; clear BK236; clear HB; have HO_8 := n0_; have HO_9 := n1_; have HO_10 := n2_; have HO_237000 := n3_; have HO_237001 := n4_; have HO_237002 := n5_; have HO_237003 := n6_; have BK226 := n7_; have BK236 := n8_; have HB := n9_; clear n0_ n1_ n2_ n3_ n4_ n5_ n6_ n7_ n8_ n9_; clear hg hw hp_; have p268 : 0 ≤ ((rd l2 x45_2) : Int) := of_decide_eq_true (by first | (with_reducible assumption) | assumption); have q268 : (rd l2 x45_2) < (y267.length : Int) := (by have h_ : ((rd l2 x45_2) : Int) < ((x9_2.length : Int) : Int) := of_decide_eq_true (by first | (with_reducible assumption) | assumption); first | (have e_ := (Kd.R_reads' HO_9.out).1; omega) | simpa only [Ny267.out, List.length_set] using h_); have ql268 : (((rd l2 x45_2) : Int) < ((x9_2.length : Int) : Int)) = True := eq_true (of_decide_eq_true (by first | (with_reducible assumption) | assumption)); obtain ⟨ad268, e268, hx268_0⟩ := Kd.at_int (Kd.R_reads' HO_9.out).2.2 (rd l2 x45_2) p268 q268; obtain rfl : (⟨go60, 0, none⟩ : Addr) = ad268 := (by injection e268); (first | simp only [add_plain] at hx268_0 | simp only [add_at] at hx268_0 | simp only [Addr.add, Nat.zero_add] at hx268_0 | skip); replace p268 := eq_true p268; replace q268 := eq_true q268))
                     have n0_ := Aside0.mk (Kd.R_drew HO_8.out)
                     have n1_ := Aside0.mk (Kd.R_drew HO_9.out)
                     have n2_ := Aside0.mk (Kd.R_drew HO_10.out)
                     have n3_ := Aside0.mk (Kd.R_drew HO_237000.out)
                     have n4_ := Aside0.mk (Kd.R_drew HO_237001.out)
                     have n5_ := Aside0.mk (Kd.R_drew HO_237002.out)
                     have n6_ := Aside0.mk (Kd.S_drew HO_237003.out)
                     have n7_ := Aside0.mk (blk_drew BK226.out)
                     have n8_ := Aside0.mk (blk_drew BK236.out)
                     have n9_ := Aside0.mk (below_drew1 HB.out)
                     clear HO_8
                     clear HO_9
                     clear HO_10
                     clear HO_237000
                     clear HO_237001
                     clear HO_237002
                     clear HO_237003
                     clear BK226
                     clear BK236
                     clear HB
                     have HO_8 := n0_
                     have HO_9 := n1_
                     have HO_10 := n2_
                     have HO_237000 := n3_
                     have HO_237001 := n4_
                     have HO_237002 := n5_
                     have HO_237003 := n6_
                     have BK226 := n7_
                     have BK236 := n8_
                     have HB := n9_
                     clear n0_ n1_ n2_ n3_ n4_ n5_ n6_ n7_ n8_ n9_
                     have p64 : 0 ≤ ((rd x8_2 (rd l2 x45_2)) : Int) := of_decide_eq_true (by first | (with_reducible assumption) | assumption)
                     have q64 : ((rd x8_2 (rd l2 x45_2)) : Int) < ((x10_2.length : Int) : Int) := of_decide_eq_true (by first | (with_reducible assumption) | assumption)
                     obtain ⟨go64, co64, eo64, gb64, gl64, cl64, HG64⟩ := Kd.R_form HO_10.out (by omega)
                     (first | cases eo64 | (injection eo64 with ea_ en_ ec_; (first | subst ea_ | (injection ea_ with ea_; subst ea_)); subst ec_; clear en_))
                     have GB64 := Aside0.mk gb64
                     have GG64 := Aside0.mk HG64
                     clear gb64 gl64 HG64
                     obtain ⟨hx64_0, hf64_0⟩ := Kd.R_celln 0 HO_10.out ((rd x8_2 (rd l2 x45_2)) : Int) p64 q64
                     replace p64 := eq_true p64
                     replace q64 := eq_true q64
                     have HP73 := Kd.R_putn HO_10.out ((rd x8_2 (rd l2 x45_2)) : Int) (-1)
                     rw [← Ny269.out] at HP73
                     have HQ73 := Aside0.mk HP73
                     clear HP73
                     have p65 : 0 ≤ ((rd l2 x45_2) : Int) := of_decide_eq_true (by first | (with_reducible assumption) | assumption)
                     have q65 : ((rd l2 x45_2) : Int) < ((x8_2.length : Int) : Int) := of_decide_eq_true (by first | (with_reducible assumption) | assumption)
                     obtain ⟨go65, co65, eo65, gb65, gl65, cl65, HG65⟩ := Kd.R_form HO_8.out (by omega)
                     (first | cases eo65 | (injection eo65 with ea_ en_ ec_; (first | subst ea_ | (injection ea_ with ea_; subst ea_)); subst ec_; clear en_))
                     have GB65 := Aside0.mk gb65
                     have GG65 := Aside0.mk HG65
                     clear gb65 gl65 HG65
                     (first | simp only [add_plain] at hx265_0 | skip)
                     obtain ⟨hx65_0, hf65_0⟩ := Kd.R_celln 0 (Kd.R_far (p := ⟨go64, ((rd x8_2 (rd l2 x45_2)) : Int).toNat, none⟩) (Kd.R_mono HO_8.out (fun k_ hk => (⟨hk, fun e_ => hk.1.1 (by rw [e_]; rfl)⟩ : _ ∧ k_ ≠ go64))) (fun _ hk => hk.2) (.int .i64 (-1))) ((rd l2 x45_2) : Int) p65 q65
                     replace p65 := eq_true p65
                     replace q65 := eq_true q65
                     have HP74 := Kd.R_putn (Kd.R_far (p := ⟨go64, ((rd x8_2 (rd l2 x45_2)) : Int).toNat, none⟩) (Kd.R_mono HO_8.out (fun k_ hk => (⟨hk, fun e_ => hk.1.1 (by rw [e_]; rfl)⟩ : _ ∧ k_ ≠ go64))) (fun _ hk => hk.2) (.int .i64 (-1))) ((rd l2 x45_2) : Int) a0
                     rw [← Ny270.out] at HP74
                     have HQ74 := Aside0.mk HP74
                     clear HP74
                     have p67 : 0 ≤ ((rd l2 x45_2) : Int) := of_decide_eq_true (by first | (with_reducible assumption) | assumption)
                     have q67 : ((rd l2 x45_2) : Int) < ((x237000_2.length : Int) : Int) := of_decide_eq_true (by first | (with_reducible assumption) | assumption)
                     obtain ⟨go67, co67, eo67, gb67, gl67, cl67, HG67⟩ := Kd.R_form HO_237000.out (by omega)
                     (first | cases eo67 | (injection eo67 with ea_ en_ ec_; (first | subst ea_ | (injection ea_ with ea_; subst ea_)); subst ec_; clear en_))
                     have GB67 := Aside0.mk gb67
                     have GG67 := Aside0.mk HG67
                     clear gb67 gl67 HG67
                     obtain ⟨hx67_0, hf67_0⟩ := Kd.R_celln 0 (Kd.R_far (p := ⟨go65, ((rd l2 x45_2) : Int).toNat, none⟩) (Kd.R_far (p := ⟨go64, ((rd x8_2 (rd l2 x45_2)) : Int).toNat, none⟩) (Kd.R_mono (Kd.R_mono HO_237000.out (fun k_ hk => (⟨hk, fun e_ => hk.1.2.1 (by rw [e_]; rfl)⟩ : _ ∧ k_ ≠ go64))) (fun k_ hk => (⟨hk, fun e_ => hk.1.1.1 (by rw [e_]; rfl)⟩ : _ ∧ k_ ≠ go65))) (fun _ hk => hk.1.2) (.int .i64 (-1))) (fun _ hk => hk.2) (.int .i64 a0)) ((rd l2 x45_2) : Int) p67 q67
                     replace p67 := eq_true p67
                     replace q67 := eq_true q67
                     have HP75 := Kd.R_putn (Kd.R_far (p := ⟨go65, ((rd l2 x45_2) : Int).toNat, none⟩) (Kd.R_far (p := ⟨go64, ((rd x8_2 (rd l2 x45_2)) : Int).toNat, none⟩) (Kd.R_mono (Kd.R_mono HO_237000.out (fun k_ hk => (⟨hk, fun e_ => hk.1.2.1 (by rw [e_]; rfl)⟩ : _ ∧ k_ ≠ go64))) (fun k_ hk => (⟨hk, fun e_ => hk.1.1.1 (by rw [e_]; rfl)⟩ : _ ∧ k_ ≠ go65))) (fun _ hk => hk.1.2) (.int .i64 (-1))) (fun _ hk => hk.2) (.int .i64 a0)) ((rd l2 x45_2) : Int) x12_1
                     rw [← Ny271.out] at HP75
                     have HQ75 := Aside0.mk HP75
                     clear HP75
                     refine start_ (n := 15) (S := fun w' => w'.cell? ⟨gb236, 0, none⟩ = some (.slice (some ⟨go67, 0, none⟩) x237000_2.length co67) ∧ w'.cell? ⟨gb236, 1, none⟩ = some (u237001) ∧ w'.cell? ⟨gb236, 2, none⟩ = some (u237002) ∧ w'.cell? ⟨gb236, 3, none⟩ = some (u237003)) (ds := [14]) #[false, false, false, false, false, false, false, false, false, false, false, false, false, false, false] (by kernel_rfl) rfl rfl ⟨(blk_cell BK236.out 0).trans rfl, (blk_cell BK236.out 1).trans rfl, (blk_cell BK236.out 2).trans rfl, (blk_cell BK236.out 3).trans rfl⟩ (fun hHeld => ?_); refine with_tabW impl_board.tab16 impl_board.bits16 (fun HT_ HW_ => ?_)
                     generalize w71.drew = w72 at HO_8 HO_9 HO_10 HO_237000 HO_237001 HO_237002 HO_237003 BK226 BK236 HB GG64 GG65 GG67 HQ73 HQ74 HQ75 hf64_0 hf65_0 hf67_0 hx265_0 hx64_0 hx65_0 hx67_0 hHeld ⊢
                     refine pure_ (i := 0) (N := some 73) (v := ?_) (a' := ?_) #[true, false, false, false, false, false, false, false, false, false, false, false, false, false, false] rfl rfl (any_of HT_.out (by kernel_rfl)) (fun _ _ _ h => h) (Or.inl ⟨by rfl, ?_⟩) ?_ ?_
                     rotate_left
                     ·intro w'
                      go_simp
                      with_reducible rfl
                     rotate_left
                     ·simp only [Act.put, List.setIfInBounds_toArray, List.set_cons_zero, List.set_cons_succ, i64_w, i32_w]
                      rfl
                     refine pure_ (i := 1) (N := some 74) (v := ?_) (a' := ?_) #[true, true, false, false, false, false, false, false, false, false, false, false, false, false, false] rfl rfl (any_of HT_.out (by kernel_rfl)) (fun _ _ _ h => h) (Or.inl ⟨by rfl, ?_⟩) ?_ ?_
                     rotate_left
                     ·intro w'
                      go_simp
                      with_reducible rfl
                     rotate_left
                     ·simp only [Act.put, List.setIfInBounds_toArray, List.set_cons_zero, List.set_cons_succ, i64_w, i32_w]
                      rfl
                     refine pure_ (i := 2) (N := some 75) (v := ?_) (a' := ?_) #[true, true, true, false, false, false, false, false, false, false, false, false, false, false, false] rfl rfl (any_of HT_.out (by kernel_rfl)) (fun _ _ _ h => h) (Or.inl ⟨by rfl, ?_⟩) ?_ ?_
                     rotate_left
                     ·intro w'
                      go_simp
                      with_reducible rfl
                     rotate_left
                     ·simp only [Act.put, List.setIfInBounds_toArray, List.set_cons_zero, List.set_cons_succ, i64_w, i32_w]
                      rfl
                     refine pure_ (i := 3) (N := some 76) (v := ?_) (a' := ?_) #[true, true, true, true, false, false, false, false, false, false, false, false, false, false, false] rfl rfl (any_of HT_.out (by kernel_rfl)) (fun _ _ _ h => h) (Or.inl ⟨by rfl, ?_⟩) ?_ ?_
                     rotate_left
                     ·intro w'
                      go_simp
                      with_reducible rfl
                     rotate_left
                     ·simp only [Act.put, List.setIfInBounds_toArray, List.set_cons_zero, List.set_cons_succ, i64_w, i32_w]
                      rfl
                     refine pure_ (i := 4) (N := some 77) (v := ?_) (a' := ?_) #[true, true, true, true, true, false, false, false, false, false, false, false, false, false, false] rfl rfl (any_of HT_.out (by kernel_rfl)) (fun _ _ _ h => h) (Or.inl ⟨by rfl, ?_⟩) ?_ ?_
                     rotate_left
                     ·intro w'
                      go_simp
                      with_reducible rfl
                     rotate_left
                     ·simp only [Act.put, List.setIfInBounds_toArray, List.set_cons_zero, List.set_cons_succ, i64_w, i32_w]
                      rfl
                     refine pure_ (i := 6) (N := some 79) (v := ?_) (a' := ?_) #[true, true, true, true, true, false, true, false, false, false, false, false, false, false, false] rfl rfl (any_of HT_.out (by kernel_rfl)) (fun _ _ _ h => h) (Or.inl ⟨by rfl, ?_⟩) ?_ ?_
                     rotate_left
                     ·intro w'
                      go_simp
                      with_reducible rfl
                     rotate_left
                     ·simp only [Act.put, List.setIfInBounds_toArray, List.set_cons_zero, List.set_cons_succ, i64_w, i32_w]
                      rfl
                     refine pure_ (i := 7) (N := some 80) (v := ?_) (a' := ?_) #[true, true, true, true, true, false, true, true, false, false, false, false, false, false, false] rfl rfl (any_of HT_.out (by kernel_rfl)) (fun _ _ _ h => h) (Or.inl ⟨by rfl, ?_⟩) ?_ ?_
                     rotate_left
                     ·intro w'
                      go_simp
                      with_reducible rfl
                     rotate_left
                     ·simp only [Act.put, List.setIfInBounds_toArray, List.set_cons_zero, List.set_cons_succ, i64_w, i32_w]
                      rfl
                     refine pure_ (i := 8) (N := some 81) (v := ?_) (a' := ?_) #[true, true, true, true, true, false, true, true, true, false, false, false, false, false, false] rfl rfl (any_of HT_.out (by kernel_rfl)) (fun _ _ _ h => h) (Or.inl ⟨by rfl, ?_⟩) ?_ ?_
                     rotate_left
                     ·intro w'
                      go_simp
                      with_reducible rfl
                     rotate_left
                     ·simp only [Act.put, List.setIfInBounds_toArray, List.set_cons_zero, List.set_cons_succ, i64_w, i32_w]
                      rfl
                     refine pure_ (i := 9) (N := some 82) (v := ?_) (a' := ?_) #[true, true, true, true, true, false, true, true, true, true, false, false, false, false, false] rfl rfl (any_of HT_.out (by kernel_rfl)) (fun _ _ _ h => h) (Or.inl ⟨by rfl, ?_⟩) ?_ ?_
                     rotate_left
                     ·intro w'
                      go_simp
                      with_reducible rfl
                     rotate_left
                     ·simp only [Act.put, List.setIfInBounds_toArray, List.set_cons_zero, List.set_cons_succ, i64_w, i32_w]
                      rfl
                     refine take_ (i := 5) (N := some 78) (v := ?_) (a' := ?_) #[true, true, true, true, true, true, true, true, true, true, false, false, false, false, false] rfl rfl (take_ofW HT_.out HW_.out (by kernel_rfl)) (fun _ _ _ h => h) (Or.inl ⟨by rfl, ?_⟩) hHeld ?_ ?_
                     rotate_left
                     ·rintro w' ⟨s0, s1, s2, s3⟩
                      go_simp
                      with_reducible rfl
                     rotate_left
                     ·simp only [Act.put, List.setIfInBounds_toArray, List.set_cons_zero, List.set_cons_succ, i64_w, i32_w]
                      rfl
                     refine one_ (i := 10) (N := none) #[true, true, true, true, true, true, true, true, true, true, true, false, false, false, false] rfl rfl (one_of HT_.out (by kernel_rfl)) (by decide) (fun K hK => ?_)
                     refine skip_ (w1 := ?_) (by rfl) rfl ?_ ?_
                     rotate_left
                     ·go_simp
                      rfl
                     refine hK.out _ _ ⟨((cell_far (p := ⟨go64, _, none⟩) (fun e_ => Kd.R_ne HO_10.out BK236.out (by decide) (congrArg some e_)) _).trans (hHeld.1)), ((cell_far (p := ⟨go64, _, none⟩) (fun e_ => Kd.R_ne HO_10.out BK236.out (by decide) (congrArg some e_)) _).trans (hHeld.2.1)), ((cell_far (p := ⟨go64, _, none⟩) (fun e_ => Kd.R_ne HO_10.out BK236.out (by decide) (congrArg some e_)) _).trans (hHeld.2.2.1)), ((cell_far (p := ⟨go64, _, none⟩) (fun e_ => Kd.R_ne HO_10.out BK236.out (by decide) (congrArg some e_)) _).trans (hHeld.2.2.2))⟩ (fun hHeld => ?_)
                     clear hK K
                     refine pure_ (i := 11) (N := some 83) (v := ?_) (a' := ?_) #[true, true, true, true, true, true, true, true, true, true, true, true, false, false, false] rfl rfl (any_of HT_.out (by kernel_rfl)) (fun _ _ _ h => h) (Or.inl ⟨by rfl, ?_⟩) ?_ ?_
                     rotate_left
                     ·intro w'
                      go_simp
                      with_reducible rfl
                     rotate_left
                     ·simp only [Act.put, List.setIfInBounds_toArray, List.set_cons_zero, List.set_cons_succ, i64_w, i32_w]
                      rfl
                     refine one_ (i := 12) (N := none) #[true, true, true, true, true, true, true, true, true, true, true, true, true, false, false] rfl rfl (one_of HT_.out (by kernel_rfl)) (by decide) (fun K hK => ?_)
                     refine skip_ (w1 := ?_) (by rfl) rfl ?_ ?_
                     rotate_left
                     ·go_simp
                      rfl
                     refine hK.out _ _ ⟨((cell_far (p := ⟨go65, _, none⟩) (fun e_ => Kd.R_ne HO_8.out BK236.out (by decide) (congrArg some e_)) _).trans (hHeld.1)), ((cell_far (p := ⟨go65, _, none⟩) (fun e_ => Kd.R_ne HO_8.out BK236.out (by decide) (congrArg some e_)) _).trans (hHeld.2.1)), ((cell_far (p := ⟨go65, _, none⟩) (fun e_ => Kd.R_ne HO_8.out BK236.out (by decide) (congrArg some e_)) _).trans (hHeld.2.2.1)), ((cell_far (p := ⟨go65, _, none⟩) (fun e_ => Kd.R_ne HO_8.out BK236.out (by decide) (congrArg some e_)) _).trans (hHeld.2.2.2))⟩ (fun hHeld => ?_)
                     clear hK K
                     refine pure_ (i := 13) (N := some 84) (v := ?_) (a' := ?_) #[true, true, true, true, true, true, true, true, true, true, true, true, true, true, false] rfl rfl (any_of HT_.out (by kernel_rfl)) (fun _ _ _ h => h) (Or.inl ⟨by rfl, ?_⟩) ?_ ?_
                     rotate_left
                     ·intro w'
                      go_simp
                      with_reducible rfl
                     rotate_left
                     ·simp only [Act.put, List.setIfInBounds_toArray, List.set_cons_zero, List.set_cons_succ, i64_w, i32_w]
                      rfl
                     refine last_ (i := 14) (N := none) #[true, true, true, true, true, true, true, true, true, true, true, true, true, true, true] rfl rfl (one_of HT_.out (by kernel_rfl)) (by decide) (fun K hK => ?_)
                     refine skip_ (w1 := ?_) (by rfl) rfl ?_ ?_
                     rotate_left
                     ·go_simp
                      rfl
                     refine hK.out _ _ ?_
                     clear hK K
                     refine done_ (done_of HT_.out (by kernel_rfl)) ?_
                     try go_wp2
                     (try simp only [← hl10_2])
                     go_roundg k2
                     case measure => have := HK1.out; have := HK2.out; omega
                     case rel => exact ⟨(y270), (y267), (y269), (wrap64 (x11_2 - 1)), (wrap64 (x45_2 + 1)), (y271), (x237001_2), (x237002_2), (.slice (some ⟨go67, 0, none⟩) x237000_2.length co67), (u237001), (u237002), (by first | rfl | (simp; done) | (simp [*]; done) | (simp [wrap64]; done) | (simp [*, wrap64]; done)), (by first | rfl | (simp; done) | (simp [*]; done) | (simp [wrap64]; done) | (simp [*, wrap64]; done)), H', ⟨by have := HK1.out; have := HK2.out; omega⟩, ⟨by (try simp only [hl10_1]); (try simp only [hl10_2]); (with_reducible repeat (first | apply Kd.R_alloc | apply Kd.R_drewN | apply Kd.R_drew)); exact Kd.R_mono (Kd.R_far (p := ⟨go67, ((rd l2 x45_2) : Int).toNat, none⟩) (Kd.R_mono HQ74.out (fun k_ hk => (⟨hk, fun e_ => hk.1.1.2.1 (by rw [e_]; rfl)⟩ : _ ∧ k_ ≠ go67))) (fun _ hk => hk.2) (.int .i64 x12_1)) (fun _ hk => ⟨hk.1.1.2, ⟨hk.1.1.1.1, ⟨hk.1.1.1.2.1, ⟨hk.1.1.1.2.2.1, hk.1.1.1.2.2.2⟩⟩⟩⟩)⟩, ⟨by (try simp only [hl10_1]); (try simp only [hl10_2]); (with_reducible repeat (first | apply Kd.R_alloc | apply Kd.R_drewN | apply Kd.R_drew)); exact Kd.R_mono (Kd.R_far (p := ⟨go67, ((rd l2 x45_2) : Int).toNat, none⟩) (Kd.R_far (p := ⟨go65, ((rd l2 x45_2) : Int).toNat, none⟩) (Kd.R_far (p := ⟨go64, ((rd x8_2 (rd l2 x45_2)) : Int).toNat, none⟩) (Kd.R_mono (Kd.R_mono (Kd.R_mono HO_9.out (fun k_ hk => (⟨hk, fun e_ => hk.2.1 (by rw [e_]; rfl)⟩ : _ ∧ k_ ≠ go64))) (fun k_ hk => (⟨hk, fun e_ => hk.1.1 (by rw [e_]; rfl)⟩ : _ ∧ k_ ≠ go65))) (fun k_ hk => (⟨hk, fun e_ => hk.1.1.2.2.1 (by rw [e_]; rfl)⟩ : _ ∧ k_ ≠ go67))) (fun _ hk => hk.1.1.2) (.int .i64 (-1))) (fun _ hk => hk.1.2) (.int .i64 a0)) (fun _ hk => hk.2) (.int .i64 x12_1)) (fun _ hk => ⟨hk.1.1.1.1, ⟨hk.1.1.1.2.1, ⟨hk.1.1.1.2.2.1, ⟨hk.1.1.1.2.2.2.1, hk.1.1.1.2.2.2.2⟩⟩⟩⟩)⟩, ⟨by (try simp only [hl10_1]); (try simp only [hl10_2]); (with_reducible repeat (first | apply Kd.R_alloc | apply Kd.R_drewN | apply Kd.R_drew)); exact Kd.R_mono (Kd.R_far (p := ⟨go67, ((rd l2 x45_2) : Int).toNat, none⟩) (Kd.R_far (p := ⟨go65, ((rd l2 x45_2) : Int).toNat, none⟩) (Kd.R_mono (Kd.R_mono HQ73.out (fun k_ hk => (⟨hk, fun e_ => hk.1.1 (by rw [e_]; rfl)⟩ : _ ∧ k_ ≠ go65))) (fun k_ hk => (⟨hk, fun e_ => hk.1.1.2.1 (by rw [e_]; rfl)⟩ : _ ∧ k_ ≠ go67))) (fun _ hk => hk.1.2) (.int .i64 a0)) (fun _ hk => hk.2) (.int .i64 x12_1)) (fun _ hk => ⟨hk.1.1.1.1, ⟨hk.1.1.2, ⟨hk.1.1.1.2.1, ⟨hk.1.1.1.2.2.1, hk.1.1.1.2.2.2⟩⟩⟩⟩)⟩, ⟨by (try simp only [hl10_1]); (try simp only [hl10_2]); (with_reducible repeat (first | apply Kd.R_alloc | apply Kd.R_drewN | apply Kd.R_drew)); exact Kd.R_mono HQ75.out (fun _ hk => ⟨hk.1.1.1.1, ⟨hk.1.1.2, ⟨hk.1.1.1.2.1, ⟨hk.1.1.1.2.2.1, hk.1.1.1.2.2.2⟩⟩⟩⟩)⟩, ⟨by (try simp only [hl10_1]); (try simp only [hl10_2]); (with_reducible repeat (first | apply Kd.R_alloc | apply Kd.R_drewN | apply Kd.R_drew)); exact Kd.R_mono (Kd.R_far (p := ⟨go67, ((rd l2 x45_2) : Int).toNat, none⟩) (Kd.R_far (p := ⟨go65, ((rd l2 x45_2) : Int).toNat, none⟩) (Kd.R_far (p := ⟨go64, ((rd x8_2 (rd l2 x45_2)) : Int).toNat, none⟩) (Kd.R_mono (Kd.R_mono (Kd.R_mono HO_237001.out (fun k_ hk => (⟨hk, fun e_ => hk.1.2.1 (by rw [e_]; rfl)⟩ : _ ∧ k_ ≠ go64))) (fun k_ hk => (⟨hk, fun e_ => hk.1.1.1 (by rw [e_]; rfl)⟩ : _ ∧ k_ ≠ go65))) (fun k_ hk => (⟨hk, fun e_ => hk.1.1.1.2.2.1 (by rw [e_]; rfl)⟩ : _ ∧ k_ ≠ go67))) (fun _ hk => hk.1.1.2) (.int .i64 (-1))) (fun _ hk => hk.1.2) (.int .i64 a0)) (fun _ hk => hk.2) (.int .i64 x12_1)) (fun _ hk => ⟨hk.1.1.1.1.1, ⟨hk.1.1.1.2, ⟨hk.1.1.1.1.2.1, ⟨hk.1.1.1.1.2.2.1, hk.1.1.1.1.2.2.2⟩⟩⟩⟩)⟩, ⟨by (try simp only [hl10_1]); (try simp only [hl10_2]); (with_reducible repeat (first | apply Kd.R_alloc | apply Kd.R_drewN | apply Kd.R_drew)); exact Kd.R_mono (Kd.R_far (p := ⟨go67, ((rd l2 x45_2) : Int).toNat, none⟩) (Kd.R_far (p := ⟨go65, ((rd l2 x45_2) : Int).toNat, none⟩) (Kd.R_far (p := ⟨go64, ((rd x8_2 (rd l2 x45_2)) : Int).toNat, none⟩) (Kd.R_mono (Kd.R_mono (Kd.R_mono HO_237002.out (fun k_ hk => (⟨hk, fun e_ => hk.1.2.1 (by rw [e_]; rfl)⟩ : _ ∧ k_ ≠ go64))) (fun k_ hk => (⟨hk, fun e_ => hk.1.1.1 (by rw [e_]; rfl)⟩ : _ ∧ k_ ≠ go65))) (fun k_ hk => (⟨hk, fun e_ => hk.1.1.1.2.2.1 (by rw [e_]; rfl)⟩ : _ ∧ k_ ≠ go67))) (fun _ hk => hk.1.1.2) (.int .i64 (-1))) (fun _ hk => hk.1.2) (.int .i64 a0)) (fun _ hk => hk.2) (.int .i64 x12_1)) (fun _ hk => ⟨hk.1.1.1.1.1, ⟨hk.1.1.1.2, ⟨hk.1.1.1.1.2.1, ⟨hk.1.1.1.1.2.2.1, hk.1.1.1.1.2.2.2⟩⟩⟩⟩)⟩, ⟨by (try simp only [hl10_1]); (try simp only [hl10_2]); (with_reducible repeat (first | apply Kd.S_alloc | apply Kd.S_drewN | apply Kd.S_drew)); exact Kd.S_mono (Kd.S_far (p := ⟨go67, ((rd l2 x45_2) : Int).toNat, none⟩) (Kd.S_far (p := ⟨go65, ((rd l2 x45_2) : Int).toNat, none⟩) (Kd.S_far (p := ⟨go64, ((rd x8_2 (rd l2 x45_2)) : Int).toNat, none⟩) (Kd.S_mono (Kd.S_mono (Kd.S_mono HO_237003.out (fun k_ hk => (⟨hk, fun e_ => hk.1.2.1 (by rw [e_]; rfl)⟩ : _ ∧ k_ ≠ go64))) (fun k_ hk => (⟨hk, fun e_ => hk.1.1.1 (by rw [e_]; rfl)⟩ : _ ∧ k_ ≠ go65))) (fun k_ hk => (⟨hk, fun e_ => hk.1.1.1.2.2.1 (by rw [e_]; rfl)⟩ : _ ∧ k_ ≠ go67))) (fun _ hk => hk.1.1.2) (.int .i64 (-1))) (fun _ hk => hk.1.2) (.int .i64 a0)) (fun _ hk => hk.2) (.int .i64 x12_1)) (fun _ hk => ⟨hk.1.1.1.1.1, ⟨hk.1.1.1.2, ⟨hk.1.1.1.1.2.1, ⟨hk.1.1.1.1.2.2.1, ⟨hk.1.1.1.1.2.2.2.1, hk.1.1.1.1.2.2.2.2⟩⟩⟩⟩⟩)⟩, ⟨by (try simp only [hl10_1]); (try simp only [hl10_2]); (with_reducible repeat (first | refine blk_drewN ?_ _ | refine blk_drew ?_ | refine blk_alloc ?_ _)); refine blk_far ?_ (by have h_ := Kd.R_ne HO_237000.out BK226.out (by decide); intro e_; exact h_ (by rw [e_]; rfl)) _; (with_reducible repeat (first | refine blk_drewN ?_ _ | refine blk_drew ?_ | refine blk_alloc ?_ _)); refine blk_far ?_ (by have h_ := Kd.R_ne HO_8.out BK226.out (by decide); intro e_; exact h_ (by rw [e_]; rfl)) _; (with_reducible repeat (first | refine blk_drewN ?_ _ | refine blk_drew ?_ | refine blk_alloc ?_ _)); refine blk_far ?_ (by have h_ := Kd.R_ne HO_10.out BK226.out (by decide); intro e_; exact h_ (by rw [e_]; rfl)) _; (with_reducible repeat (first | refine blk_drewN ?_ _ | refine blk_drew ?_ | refine blk_alloc ?_ _)); exact BK226.out⟩, ⟨by (try simp only [hl10_1]); (try simp only [hl10_2]); (with_reducible repeat (first | refine blk_drewN ?_ _ | refine blk_drew ?_ | refine blk_alloc ?_ _)); refine blk_far ?_ (by have h_ := Kd.R_ne HO_237000.out BK236.out (by decide); intro e_; exact h_ (by rw [e_]; rfl)) _; (with_reducible repeat (first | refine blk_drewN ?_ _ | refine blk_drew ?_ | refine blk_alloc ?_ _)); refine blk_far ?_ (by have h_ := Kd.R_ne HO_8.out BK236.out (by decide); intro e_; exact h_ (by rw [e_]; rfl)) _; (with_reducible repeat (first | refine blk_drewN ?_ _ | refine blk_drew ?_ | refine blk_alloc ?_ _)); refine blk_far ?_ (by have h_ := Kd.R_ne HO_10.out BK236.out (by decide); intro e_; exact h_ (by rw [e_]; rfl)) _; (with_reducible repeat (first | refine blk_drewN ?_ _ | refine blk_drew ?_ | refine blk_alloc ?_ _)); exact BK236.out⟩, ⟨by repeat (first | (with_reducible first | exact HB.out | apply below_alloc | apply pw_below_drewN | apply below_drew1 | refine below_set ?_ GB64.out | refine below_set ?_ GB65.out | refine below_set ?_ GB67.out | refine below_set ?_ GE226.out | refine below_set ?_ GE236.out) | exact HB.out)⟩⟩
                    ·rw [if_neg c66] at H
                     exact absurd H (by simp)
                   ·rw [if_neg c63] at H
                    exact absurd H (by simp)
                  ·rw [if_neg c62] at H
                   exact absurd H (by simp)
                 ·rw [if_neg c61] at H
                  have c61b0 : ((rd y267 (rd l2 x45_2)) == a1) = false := beq_eq_false_iff_ne.mpr c61
                  have c61b1 : ((rd y267 (rd l2 x45_2)) != a1) = true := bne_iff_ne.mpr c61
                  have H' := Aside0.mk H
                  clear H
                  have p264 : 0 ≤ (x45_2 : Int) := of_decide_eq_true (by first | (with_reducible assumption) | assumption)
                  have q264 : x45_2 < (l2.length : Int) := of_decide_eq_true (by first | (with_reducible assumption) | assumption)
                  (try (have qm264 := q264; rw [HMHR2.out] at qm264; replace qm264 := eq_true qm264))
                  obtain ⟨ad264, e264, hx264_0⟩ := Kd.at_int HR2.out x45_2 p264 q264
                  cases e264
                  replace hx264_0 := (HB.out.cell (World.block_lt_of_cell? w _ hx264_0)).trans hx264_0
                  replace p264 := eq_true p264
                  replace q264 := eq_true q264
                  obtain ⟨Ao76, co76, eo76⟩ := Kd.R_slice HO_8.out
                  subst eo76
                  have p265 : 0 ≤ ((rd l2 x45_2) : Int) := of_decide_eq_true (by first | (with_reducible assumption) | assumption)
                  have q265 : (rd l2 x45_2) < (x8_2.length : Int) := of_decide_eq_true (by first | (with_reducible assumption) | assumption)
                  obtain ⟨ad265, e265, hx265_0⟩ := Kd.at_int (Kd.R_reads' HO_8.out).2.2 (rd l2 x45_2) p265 q265
                  cases e265
                  replace p265 := eq_true p265
                  replace q265 := eq_true q265
                  obtain ⟨Ao77, co77, eo77⟩ := Kd.R_slice HO_9.out
                  subst eo77
                  have p266 : 0 ≤ ((rd l2 x45_2) : Int) := of_decide_eq_true (by first | (with_reducible assumption) | assumption)
                  have q266 : (rd l2 x45_2) < (x9_2.length : Int) := of_decide_eq_true (by first | (with_reducible assumption) | assumption)
                  obtain ⟨ad266, e266, hx266_0⟩ := Kd.at_int (Kd.R_reads' HO_9.out).2.2 (rd l2 x45_2) p266 q266
                  cases e266
                  replace p266 := eq_true p266
                  replace q266 := eq_true q266
                  have p60 : 0 ≤ ((rd l2 x45_2) : Int) := of_decide_eq_true (by first | (with_reducible assumption) | assumption)
                  have q60 : ((rd l2 x45_2) : Int) < ((x9_2.length : Int) : Int) := of_decide_eq_true (by first | (with_reducible assumption) | assumption)
                  obtain ⟨go60, co60, eo60, gb60, gl60, cl60, HG60⟩ := Kd.R_form HO_9.out (by omega)
                  (first | cases eo60 | (injection eo60 with ea_ en_ ec_; (first | subst ea_ | (injection ea_ with ea_; subst ea_)); subst ec_; clear en_))
                  have GB60 := Aside0.mk gb60
                  have GG60 := Aside0.mk HG60
                  clear gb60 gl60 HG60
                  (first | simp only [add_plain] at hx266_0 | skip)
                  obtain ⟨hx60_0, hf60_0⟩ := Kd.R_celln 0 HO_9.out ((rd l2 x45_2) : Int) p60 q60
                  replace p60 := eq_true p60
                  replace q60 := eq_true q60
                  have HP78 := Kd.R_putg HO_9.out ((rd l2 x45_2) : Int) (wrap64 ((rd x9_2 (rd l2 x45_2)) + 1))
                  go_wp2_with (first | ((with_reducible refine gate_store (t := 3) (p := 66) rfl ?_); refine store_event (t := 3) (p := 66) (v := ?vo_w79) (w1 := (wr.setCell ⟨go60, ((rd l2 x45_2) : Int).toNat, none⟩ (.int .i64 (wrap64 ((rd x9_2 (rd l2 x45_2)) + 1))))) ?hg ?ho ?hn ?hr ?_; (case ho => rfl); (case hg => rfl); (case hn => rfl); (case hr => first | (go_simp; done) | (go_simp; rfl)); intro w79 hw; have hg : wr.grownBy w79 (some go60) := (by rw [hw]; exact HP78.2); have hp_ : Kd.R (Kd.int .i64) 3 w79 w.heap.size (fun k_ => some k_ ≠ (.slice (some ad265) x8_2.length co76 : Value).ownBlock ∧ some k_ ≠ (.slice Ao44 x10_2.length co44 : Value).ownBlock ∧ some k_ ≠ (u237000 : Value).ownBlock ∧ some k_ ≠ (u237001 : Value).ownBlock ∧ some k_ ≠ (u237002 : Value).ownBlock) (.slice (some ⟨go60, 0, none⟩) x9_2.length co77) y267 := (by rw [hw, Ny267.out]; exact HP78.1); clear HP78; have n0_ := Aside0.mk (Kd.R_after (v := (.slice (some ⟨go60, 0, none⟩) x9_2.length co77)) (v1 := (.slice (some ⟨go60, 0, none⟩) x9_2.length co77)) (ok := (fun k_ => some k_ ≠ (.slice Ao44 x10_2.length co44 : Value).ownBlock ∧ some k_ ≠ (u237000 : Value).ownBlock ∧ some k_ ≠ (u237001 : Value).ownBlock ∧ some k_ ≠ (u237002 : Value).ownBlock)) (by (with_reducible repeat (first | apply Kd.R_alloc | apply Kd.R_drewN | apply Kd.R_drew)); exact Kd.R_mono HO_8.out (fun _ hk => ⟨⟨hk.2.1, ⟨hk.2.2.1, ⟨hk.2.2.2.1, hk.2.2.2.2⟩⟩⟩, hk.1⟩)) hg (.inl rfl)); have n1_ := Aside0.mk (hp_); have n2_ := Aside0.mk (Kd.R_after (v := (.slice (some ⟨go60, 0, none⟩) x9_2.length co77)) (v1 := (.slice (some ⟨go60, 0, none⟩) x9_2.length co77)) (ok := (fun k_ => some k_ ≠ (.slice (some ad265) x8_2.length co76 : Value).ownBlock ∧ some k_ ≠ (u237000 : Value).ownBlock ∧ some k_ ≠ (u237001 : Value).ownBlock ∧ some k_ ≠ (u237002 : Value).ownBlock)) (by (with_reducible repeat (first | apply Kd.R_alloc | apply Kd.R_drewN | apply Kd.R_drew)); exact Kd.R_mono HO_10.out (fun _ hk => ⟨⟨hk.1, ⟨hk.2.2.1, ⟨hk.2.2.2.1, hk.2.2.2.2⟩⟩⟩, hk.2.1⟩)) hg (.inl rfl)); have n3_ := Aside0.mk (Kd.R_after (v := (.slice (some ⟨go60, 0, none⟩) x9_2.length co77)) (v1 := (.slice (some ⟨go60, 0, none⟩) x9_2.length co77)) (ok := (fun k_ => some k_ ≠ (.slice (some ad265) x8_2.length co76 : Value).ownBlock ∧ some k_ ≠ (.slice Ao44 x10_2.length co44 : Value).ownBlock ∧ some k_ ≠ (u237001 : Value).ownBlock ∧ some k_ ≠ (u237002 : Value).ownBlock)) (by (with_reducible repeat (first | apply Kd.R_alloc | apply Kd.R_drewN | apply Kd.R_drew)); exact Kd.R_mono HO_237000.out (fun _ hk => ⟨⟨hk.1, ⟨hk.2.2.1, ⟨hk.2.2.2.1, hk.2.2.2.2⟩⟩⟩, hk.2.1⟩)) hg (.inl rfl)); have n4_ := Aside0.mk (Kd.R_after (v := (.slice (some ⟨go60, 0, none⟩) x9_2.length co77)) (v1 := (.slice (some ⟨go60, 0, none⟩) x9_2.length co77)) (ok := (fun k_ => some k_ ≠ (.slice (some ad265) x8_2.length co76 : Value).ownBlock ∧ some k_ ≠ (.slice Ao44 x10_2.length co44 : Value).ownBlock ∧ some k_ ≠ (u237000 : Value).ownBlock ∧ some k_ ≠ (u237002 : Value).ownBlock)) (by (with_reducible repeat (first | apply Kd.R_alloc | apply Kd.R_drewN | apply Kd.R_drew)); exact Kd.R_mono HO_237001.out (fun _ hk => ⟨⟨hk.1, ⟨hk.2.2.1, ⟨hk.2.2.2.1, hk.2.2.2.2⟩⟩⟩, hk.2.1⟩)) hg (.inl rfl)); have n5_ := Aside0.mk (Kd.R_after (v := (.slice (some ⟨go60, 0, none⟩) x9_2.length co77)) (v1 := (.slice (some ⟨go60, 0, none⟩) x9_2.length co77)) (ok := (fun k_ => some k_ ≠ (.slice (some ad265) x8_2.length co76 : Value).ownBlock ∧ some k_ ≠ (.slice Ao44 x10_2.length co44 : Value).ownBlock ∧ some k_ ≠ (u237000 : Value).ownBlock ∧ some k_ ≠ (u237001 : Value).ownBlock)) (by (with_reducible repeat (first | apply Kd.R_alloc | apply Kd.R_drewN | apply Kd.R_drew)); exact Kd.R_mono HO_237002.out (fun _ hk => ⟨⟨hk.1, ⟨hk.2.2.1, ⟨hk.2.2.2.1, hk.2.2.2.2⟩⟩⟩, hk.2.1⟩)) hg (.inl rfl)); have n6_ := Aside0.mk (Kd.S_after (v := (.slice (some ⟨go60, 0, none⟩) x9_2.length co77)) (v1 := (.slice (some ⟨go60, 0, none⟩) x9_2.length co77)) (ok := (fun k_ => some k_ ≠ (.slice (some ad265) x8_2.length co76 : Value).ownBlock ∧ some k_ ≠ (.slice Ao44 x10_2.length co44 : Value).ownBlock ∧ some k_ ≠ (u237000 : Value).ownBlock ∧ some k_ ≠ (u237001 : Value).ownBlock ∧ some k_ ≠ (u237002 : Value).ownBlock)) (by (with_reducible repeat (first | apply Kd.S_alloc | apply Kd.S_drewN | apply Kd.S_drew)); exact Kd.S_mono HO_237003.out (fun _ hk => ⟨⟨hk.1, ⟨hk.2.2.1, ⟨hk.2.2.2.1, ⟨hk.2.2.2.2.1, hk.2.2.2.2.2⟩⟩⟩⟩, hk.2.1⟩)) hg (.inl rfl)); have n7_ := Aside0.mk (blk_grown (g := gb226) (o := .cells #[.slice none 0 0, .slice none 0 0, .slice none 0 0, .slice none 0 0] 79 (0, 0)) (by (with_reducible repeat (first | refine blk_drewN ?_ _ | refine blk_drew ?_ | refine blk_alloc ?_ _)); exact BK226.out) hg (Kd.R_ne HO_9.out BK226.out (by decide))); have n8_ := Aside0.mk (blk_grown (g := gb236) (o := .cells #[u237000, u237001, u237002, u237003] 79 (0, 0)) (by (with_reducible repeat (first | refine blk_drewN ?_ _ | refine blk_drew ?_ | refine blk_alloc ?_ _)); exact BK236.out) hg (Kd.R_ne HO_9.out BK236.out (by decide))); have n9_ := Aside0.mk ((by rw [hw]; exact below_set (HB.out) GB60.out : Below w.heap.size w w79)); clear HO_8; clear HO_9; clear HO_10; clear HO_237000; clear HO_237001; clear HO_237002; clear HO_237003; clear BK226; clear BK236; clear HB; have HO_8 := n0_; have HO_9 := n1_; have HO_10 := n2_; have HO_237000 := n3_; have HO_237001 := n4_; have HO_237002 := n5_; have HO_237003 := n6_; have BK226 := n7_; have BK236 := n8_; have HB := n9_; clear n0_ n1_ n2_ n3_ n4_ n5_ n6_ n7_ n8_ n9_; clear hg hw hp_; have p268 : 0 ≤ ((rd l2 x45_2) : Int) := of_decide_eq_true (by first | (with_reducible assumption) | assumption); have q268 : (rd l2 x45_2) < (y267.length : Int) := (by have h_ : ((rd l2 x45_2) : Int) < ((x9_2.length : Int) : Int) := of_decide_eq_true (by first | (with_reducible assumption) | assumption); first | (have e_ := (Kd.R_reads' HO_9.out).1; omega) | simpa only [Ny267.out, List.length_set] using h_); have ql268 : (((rd l2 x45_2) : Int) < ((x9_2.length : Int) : Int)) = True := eq_true (of_decide_eq_true (by first | (with_reducible assumption) | assumption)); obtain ⟨ad268, e268, hx268_0⟩ := Kd.at_int (Kd.R_reads' HO_9.out).2.2 (rd l2 x45_2) p268 q268; obtain rfl : (⟨go60, 0, none⟩ : Addr) = ad268 := (by injection e268); (first | simp only [add_plain] at hx268_0 | simp only [add_at] at hx268_0 | simp only [Addr.add, Nat.zero_add] at hx268_0 | skip); replace p268 := eq_true p268; replace q268 := eq_true q268))
                  (try simp only [← hl10_2])
                  go_roundg k2
                  case measure => have := HK1.out; have := HK2.out; omega
                  case rel => exact ⟨(x8_2), (y267), (x10_2), (x11_2), (wrap64 (x45_2 + 1)), (x237000_2), (x237001_2), (x237002_2), (u237000), (u237001), (u237002), (by first | rfl | (simp; done) | (simp [*]; done) | (simp [wrap64]; done) | (simp [*, wrap64]; done)), (by first | rfl | (simp; done) | (simp [*]; done) | (simp [wrap64]; done) | (simp [*, wrap64]; done)), H', ⟨by have := HK1.out; have := HK2.out; omega⟩, ⟨by (try simp only [hl10_1]); (try simp only [hl10_2]); (with_reducible repeat (first | apply Kd.R_alloc | apply Kd.R_drewN | apply Kd.R_drew)); exact Kd.R_mono HO_8.out (fun _ hk => ⟨hk.2, ⟨hk.1.1, ⟨hk.1.2.1, ⟨hk.1.2.2.1, hk.1.2.2.2⟩⟩⟩⟩)⟩, ⟨by (try simp only [hl10_1]); (try simp only [hl10_2]); (with_reducible repeat (first | apply Kd.R_alloc | apply Kd.R_drewN | apply Kd.R_drew)); exact HO_9.out⟩, ⟨by (try simp only [hl10_1]); (try simp only [hl10_2]); (with_reducible repeat (first | apply Kd.R_alloc | apply Kd.R_drewN | apply Kd.R_drew)); exact Kd.R_mono HO_10.out (fun _ hk => ⟨hk.1.1, ⟨hk.2, ⟨hk.1.2.1, ⟨hk.1.2.2.1, hk.1.2.2.2⟩⟩⟩⟩)⟩, ⟨by (try simp only [hl10_1]); (try simp only [hl10_2]); (with_reducible repeat (first | apply Kd.R_alloc | apply Kd.R_drewN | apply Kd.R_drew)); exact Kd.R_mono HO_237000.out (fun _ hk => ⟨hk.1.1, ⟨hk.2, ⟨hk.1.2.1, ⟨hk.1.2.2.1, hk.1.2.2.2⟩⟩⟩⟩)⟩, ⟨by (try simp only [hl10_1]); (try simp only [hl10_2]); (with_reducible repeat (first | apply Kd.R_alloc | apply Kd.R_drewN | apply Kd.R_drew)); exact Kd.R_mono HO_237001.out (fun _ hk => ⟨hk.1.1, ⟨hk.2, ⟨hk.1.2.1, ⟨hk.1.2.2.1, hk.1.2.2.2⟩⟩⟩⟩)⟩, ⟨by (try simp only [hl10_1]); (try simp only [hl10_2]); (with_reducible repeat (first | apply Kd.R_alloc | apply Kd.R_drewN | apply Kd.R_drew)); exact Kd.R_mono HO_237002.out (fun _ hk => ⟨hk.1.1, ⟨hk.2, ⟨hk.1.2.1, ⟨hk.1.2.2.1, hk.1.2.2.2⟩⟩⟩⟩)⟩, ⟨by (try simp only [hl10_1]); (try simp only [hl10_2]); (with_reducible repeat (first | apply Kd.S_alloc | apply Kd.S_drewN | apply Kd.S_drew)); exact Kd.S_mono HO_237003.out (fun _ hk => ⟨hk.1.1, ⟨hk.2, ⟨hk.1.2.1, ⟨hk.1.2.2.1, ⟨hk.1.2.2.2.1, hk.1.2.2.2.2⟩⟩⟩⟩⟩)⟩, ⟨by (try simp only [hl10_1]); (try simp only [hl10_2]); (with_reducible repeat (first | refine blk_drewN ?_ _ | refine blk_drew ?_ | refine blk_alloc ?_ _)); exact BK226.out⟩, ⟨by (try simp only [hl10_1]); (try simp only [hl10_2]); (with_reducible repeat (first | refine blk_drewN ?_ _ | refine blk_drew ?_ | refine blk_alloc ?_ _)); exact BK236.out⟩, ⟨by repeat (first | (with_reducible first | exact HB.out | apply below_alloc | apply pw_below_drewN | apply below_drew1 | refine below_set ?_ GE226.out | refine below_set ?_ GE236.out) | exact HB.out)⟩⟩
                ·rw [if_neg c59] at H
                 exact absurd H (by simp)
               ·rw [if_neg c58] at H
                have c58b0 : ((rd x8_2 (rd l2 x45_2)) == (rd l2 x45_2)) = false := beq_eq_false_iff_ne.mpr c58
                have c58b1 : ((rd x8_2 (rd l2 x45_2)) != (rd l2 x45_2)) = true := bne_iff_ne.mpr c58
                obtain ⟨ji80, hji80⟩ : ∃ j_ : Int, (wrap64 ((rd x8_2 (rd l2 x45_2)) + 1)) = j_ := ⟨_, rfl⟩
                replace H : (if 0 ≤ (ji80) then (if (ji80) < (x10_2.length : Int) then (if (rd x10_2 (ji80)) < 0 then (if (rd x8_2 (rd l2 x45_2)) < 0 then (if (rd l2 x45_2) < (x237001_2.length : Int) then (impl_board.l1 k2 a0 a1 l2 (x8_2.set ((rd l2 x45_2) : Int).toNat (ji80)) x9_2 (x10_2.set ((ji80) : Int).toNat (rd l2 x45_2)) x11_2 x12_1 l2 (l2.length : Int) (wrap64 (x45_2 + 1)) x237000_2 (x237001_2.set ((rd l2 x45_2) : Int).toNat x12_1) x237002_2 x237003_1) else (none)) else (if 0 ≤ (rd x8_2 (rd l2 x45_2)) then (if (rd x8_2 (rd l2 x45_2)) < (x10_2.length : Int) then (impl_board.l1 k2 a0 a1 l2 (x8_2.set ((rd l2 x45_2) : Int).toNat (ji80)) x9_2 ((x10_2.set ((rd x8_2 (rd l2 x45_2)) : Int).toNat (-1)).set ((ji80) : Int).toNat (rd l2 x45_2)) x11_2 x12_1 l2 (l2.length : Int) (wrap64 (x45_2 + 1)) x237000_2 x237001_2 x237002_2 x237003_1) else (none)) else (none))) else (if (rd x8_2 (rd l2 x45_2)) ≥ 0 then (if (rd l2 x45_2) < (x237002_2.length : Int) then (impl_board.l1 k2 a0 a1 l2 x8_2 x9_2 x10_2 x11_2 x12_1 l2 (l2.length : Int) (wrap64 (x45_2 + 1)) x237000_2 x237001_2 (x237002_2.set ((rd l2 x45_2) : Int).toNat (wrap64 ((rd x237002_2 (rd l2 x45_2)) + 1))) x237003_1) else (none)) else (impl_board.l1 k2 a0 a1 l2 x8_2 x9_2 x10_2 x11_2 x12_1 l2 (l2.length : Int) (wrap64 (x45_2 + 1)) x237000_2 x237001_2 x237002_2 x237003_1))) else (none)) else (none)) = some (r1, r2, r3, r4) := by first | (rw [hji80] at H; exact H) | (simp only [hji80] at H ⊢; exact H)
                have hji80w : (IntKind.i64.wrap ((rd x8_2 (rd l2 x45_2)) + 1)) = ji80 := (i64_w _).trans hji80
                by_cases c81 : 0 ≤ (ji80)
                ·rw [if_pos c81] at H
                 have c81b0 : decide (0 ≤ (ji80)) = true := decide_eq_true c81
                 clear c81
                 by_cases c82 : (ji80) < (x10_2.length : Int)
                 ·rw [if_pos c82] at H
                  have c82b0 : decide ((ji80) < (x10_2.length : Int)) = true := decide_eq_true c82
                  clear c82
                  by_cases c83 : (rd x10_2 (ji80)) < 0
                  ·rw [if_pos c83] at H
                   have c83b0 : decide ((rd x10_2 (ji80)) < 0) = true := decide_eq_true c83
                   clear c83
                   by_cases c84 : (rd x8_2 (rd l2 x45_2)) < 0
                   ·rw [if_pos c84] at H
                    have c84b0 : decide ((rd x8_2 (rd l2 x45_2)) < 0) = true := decide_eq_true c84
                    clear c84
                    by_cases c85 : (rd l2 x45_2) < (x237001_2.length : Int)
                    ·rw [if_pos c85] at H
                     have c85b0 : decide ((rd l2 x45_2) < (x237001_2.length : Int)) = true := decide_eq_true c85
                     clear c85
                     obtain ⟨y273, hy273⟩ : ∃ y_ : List Int, y_ = (x237001_2.set ((rd l2 x45_2) : Int).toNat x12_1) := ⟨_, rfl⟩
                     replace H : (impl_board.l1 k2 a0 a1 l2 (x8_2.set ((rd l2 x45_2) : Int).toNat (ji80)) x9_2 (x10_2.set ((ji80) : Int).toNat (rd l2 x45_2)) x11_2 x12_1 l2 (l2.length : Int) (wrap64 (x45_2 + 1)) x237000_2 y273 x237002_2 x237003_1) = some (r1, r2, r3, r4) := by first | (rw [hy273]; with_reducible exact H) | (have H2_ := (Option.bind_some _ _).symm.trans H; rw [hy273]; with_reducible exact H2_) | (have H2_ := (Option.bind_some _ _).symm.trans H; with_reducible exact H2_) | with_reducible exact H | (rw [hy273]; exact H) | exact H
                     have Ny273 := Aside0.mk hy273
                     clear hy273
                     obtain ⟨y274, hy274⟩ : ∃ y_ : List Int, y_ = (x10_2.set ((ji80) : Int).toNat (rd l2 x45_2)) := ⟨_, rfl⟩
                     replace H : (impl_board.l1 k2 a0 a1 l2 (x8_2.set ((rd l2 x45_2) : Int).toNat (ji80)) x9_2 y274 x11_2 x12_1 l2 (l2.length : Int) (wrap64 (x45_2 + 1)) x237000_2 y273 x237002_2 x237003_1) = some (r1, r2, r3, r4) := by first | (rw [hy274]; with_reducible exact H) | (have H2_ := (Option.bind_some _ _).symm.trans H; rw [hy274]; with_reducible exact H2_) | (have H2_ := (Option.bind_some _ _).symm.trans H; with_reducible exact H2_) | with_reducible exact H | (rw [hy274]; exact H) | exact H
                     have Ny274 := Aside0.mk hy274
                     clear hy274
                     obtain ⟨y275, hy275⟩ : ∃ y_ : List Int, y_ = (x8_2.set ((rd l2 x45_2) : Int).toNat (ji80)) := ⟨_, rfl⟩
                     replace H : (impl_board.l1 k2 a0 a1 l2 y275 x9_2 y274 x11_2 x12_1 l2 (l2.length : Int) (wrap64 (x45_2 + 1)) x237000_2 y273 x237002_2 x237003_1) = some (r1, r2, r3, r4) := by first | (rw [hy275]; with_reducible exact H) | (have H2_ := (Option.bind_some _ _).symm.trans H; rw [hy275]; with_reducible exact H2_) | (have H2_ := (Option.bind_some _ _).symm.trans H; with_reducible exact H2_) | with_reducible exact H | (rw [hy275]; exact H) | exact H
                     have Ny275 := Aside0.mk hy275
                     clear hy275
                     have H' := Aside0.mk H
                     clear H
                     have p264 : 0 ≤ (x45_2 : Int) := of_decide_eq_true (by first | (with_reducible assumption) | assumption)
                     have q264 : x45_2 < (l2.length : Int) := of_decide_eq_true (by first | (with_reducible assumption) | assumption)
                     (try (have qm264 := q264; rw [HMHR2.out] at qm264; replace qm264 := eq_true qm264))
                     obtain ⟨ad264, e264, hx264_0⟩ := Kd.at_int HR2.out x45_2 p264 q264
                     cases e264
                     replace hx264_0 := (HB.out.cell (World.block_lt_of_cell? w _ hx264_0)).trans hx264_0
                     replace p264 := eq_true p264
                     replace q264 := eq_true q264
                     obtain ⟨Ao89, co89, eo89⟩ := Kd.R_slice HO_8.out
                     subst eo89
                     have p265 : 0 ≤ ((rd l2 x45_2) : Int) := of_decide_eq_true (by first | (with_reducible assumption) | assumption)
                     have q265 : (rd l2 x45_2) < (x8_2.length : Int) := of_decide_eq_true (by first | (with_reducible assumption) | assumption)
                     obtain ⟨ad265, e265, hx265_0⟩ := Kd.at_int (Kd.R_reads' HO_8.out).2.2 (rd l2 x45_2) p265 q265
                     cases e265
                     replace p265 := eq_true p265
                     replace q265 := eq_true q265
                     have p272 : 0 ≤ ((ji80) : Int) := of_decide_eq_true (by first | (with_reducible assumption) | assumption)
                     have q272 : (ji80) < (x10_2.length : Int) := of_decide_eq_true (by first | (with_reducible assumption) | assumption)
                     obtain ⟨ad272, e272, hx272_0⟩ := Kd.at_int (Kd.R_reads' HO_10.out).2.2 (ji80) p272 q272
                     cases e272
                     replace p272 := eq_true p272
                     replace q272 := eq_true q272
                     have hnb90 := NB236_226.out
                     have hnc90 := NB226_236.out
                     have hcz91_0 : wr.cell? ⟨gb236, 0, none⟩ = some (u237000) := (blk_cell BK236.out 0).trans rfl
                     have hcz91_1 : wr.cell? ⟨gb236, 1, none⟩ = some (u237001) := (blk_cell BK236.out 1).trans rfl
                     have hcz91_2 : wr.cell? ⟨gb236, 2, none⟩ = some (u237002) := (blk_cell BK236.out 2).trans rfl
                     have hcz91_3 : wr.cell? ⟨gb236, 3, none⟩ = some (u237003) := (blk_cell BK236.out 3).trans rfl
                     have hfz91_0 := blk_frozen BK236.out 0
                     have hfz91_1 := blk_frozen BK236.out 1
                     have hfz91_2 := blk_frozen BK236.out 2
                     have hfz91_3 := blk_frozen BK236.out 3
                     have p86 : 0 ≤ ((rd l2 x45_2) : Int) := of_decide_eq_true (by first | (with_reducible assumption) | assumption)
                     have q86 : ((rd l2 x45_2) : Int) < ((x237001_2.length : Int) : Int) := of_decide_eq_true (by first | (with_reducible assumption) | assumption)
                     obtain ⟨go86, co86, eo86, gb86, gl86, cl86, HG86⟩ := Kd.R_form HO_237001.out (by omega)
                     (first | cases eo86 | (injection eo86 with ea_ en_ ec_; (first | subst ea_ | (injection ea_ with ea_; subst ea_)); subst ec_; clear en_))
                     have GB86 := Aside0.mk gb86
                     have GG86 := Aside0.mk HG86
                     clear gb86 gl86 HG86
                     obtain ⟨hx86_0, hf86_0⟩ := Kd.R_celln 0 HO_237001.out ((rd l2 x45_2) : Int) p86 q86
                     replace p86 := eq_true p86
                     replace q86 := eq_true q86
                     have HP92 := Kd.R_putg HO_237001.out ((rd l2 x45_2) : Int) x12_1
                     go_wp2_with (first | ((with_reducible refine gate_store (t := 3) (p := 100) rfl ?_); refine store_event (t := 3) (p := 100) (v := ?vo_w93) (w1 := (wr.setCell ⟨go86, ((rd l2 x45_2) : Int).toNat, none⟩ (.int .i64 x12_1))) ?hg ?ho ?hn ?hr ?_; (case ho => rfl); (case hg => rfl); (case hn => rfl); (case hr => first | (go_simp; done) | (go_simp; rfl)); intro w93 hw; have hg : wr.grownBy w93 (some go86) := (by rw [hw]; exact HP92.2); have hp_ : Kd.R (Kd.int .i64) 3 w93 w.heap.size (fun k_ => some k_ ≠ (.slice (some ad265) x8_2.length co89 : Value).ownBlock ∧ some k_ ≠ (v244 : Value).ownBlock ∧ some k_ ≠ (.slice (some ad272) x10_2.length co44 : Value).ownBlock ∧ some k_ ≠ (u237000 : Value).ownBlock ∧ some k_ ≠ (u237002 : Value).ownBlock) (.slice (some ⟨go86, 0, none⟩) x237001_2.length co86) y273 := (by rw [hw, Ny273.out]; exact HP92.1); clear HP92; have n0_ := Aside0.mk (Kd.R_after (v := (.slice (some ⟨go86, 0, none⟩) x237001_2.length co86)) (v1 := (.slice (some ⟨go86, 0, none⟩) x237001_2.length co86)) (ok := (fun k_ => some k_ ≠ (v244 : Value).ownBlock ∧ some k_ ≠ (.slice (some ad272) x10_2.length co44 : Value).ownBlock ∧ some k_ ≠ (u237000 : Value).ownBlock ∧ some k_ ≠ (u237002 : Value).ownBlock)) (by (with_reducible repeat (first | apply Kd.R_alloc | apply Kd.R_drewN | apply Kd.R_drew)); exact Kd.R_mono HO_8.out (fun _ hk => ⟨⟨hk.1, ⟨hk.2.1, ⟨hk.2.2.1, hk.2.2.2.2⟩⟩⟩, hk.2.2.2.1⟩)) hg (.inl rfl)); have n1_ := Aside0.mk (Kd.R_after (v := (.slice (some ⟨go86, 0, none⟩) x237001_2.length co86)) (v1 := (.slice (some ⟨go86, 0, none⟩) x237001_2.length co86)) (ok := (fun k_ => some k_ ≠ (.slice (some ad265) x8_2.length co89 : Value).ownBlock ∧ some k_ ≠ (.slice (some ad272) x10_2.length co44 : Value).ownBlock ∧ some k_ ≠ (u237000 : Value).ownBlock ∧ some k_ ≠ (u237002 : Value).ownBlock)) (by (with_reducible repeat (first | apply Kd.R_alloc | apply Kd.R_drewN | apply Kd.R_drew)); exact Kd.R_mono HO_9.out (fun _ hk => ⟨⟨hk.1, ⟨hk.2.1, ⟨hk.2.2.1, hk.2.2.2.2⟩⟩⟩, hk.2.2.2.1⟩)) hg (.inl rfl)); have n2_ := Aside0.mk (Kd.R_after (v := (.slice (some ⟨go86, 0, none⟩) x237001_2.length co86)) (v1 := (.slice (some ⟨go86, 0, none⟩) x237001_2.length co86)) (ok := (fun k_ => some k_ ≠ (.slice (some ad265) x8_2.length co89 : Value).ownBlock ∧ some k_ ≠ (v244 : Value).ownBlock ∧ some k_ ≠ (u237000 : Value).ownBlock ∧ some k_ ≠ (u237002 : Value).ownBlock)) (by (with_reducible repeat (first | apply Kd.R_alloc | apply Kd.R_drewN | apply Kd.R_drew)); exact Kd.R_mono HO_10.out (fun _ hk => ⟨⟨hk.1, ⟨hk.2.1, ⟨hk.2.2.1, hk.2.2.2.2⟩⟩⟩, hk.2.2.2.1⟩)) hg (.inl rfl)); have n3_ := Aside0.mk (Kd.R_after (v := (.slice (some ⟨go86, 0, none⟩) x237001_2.length co86)) (v1 := (.slice (some ⟨go86, 0, none⟩) x237001_2.length co86)) (ok := (fun k_ => some k_ ≠ (.slice (some ad265) x8_2.length co89 : Value).ownBlock ∧ some k_ ≠ (v244 : Value).ownBlock ∧ some k_ ≠ (.slice (some ad272) x10_2.length co44 : Value).ownBlock ∧ some k_ ≠ (u237002 : Value).ownBlock)) (by (with_reducible repeat (first | apply Kd.R_alloc | apply Kd.R_drewN | apply Kd.R_drew)); exact Kd.R_mono HO_237000.out (fun _ hk => ⟨⟨hk.1, ⟨hk.2.1, ⟨hk.2.2.1, hk.2.2.2.2⟩⟩⟩, hk.2.2.2.1⟩)) hg (.inl rfl)); have n4_ := Aside0.mk (hp_); have n5_ := Aside0.mk (Kd.R_after (v := (.slice (some ⟨go86, 0, none⟩) x237001_2.length co86)) (v1 := (.slice (some ⟨go86, 0, none⟩) x237001_2.length co86)) (ok := (fun k_ => some k_ ≠ (.slice (some ad265) x8_2.length co89 : Value).ownBlock ∧ some k_ ≠ (v244 : Value).ownBlock ∧ some k_ ≠ (.slice (some ad272) x10_2.length co44 : Value).ownBlock ∧ some k_ ≠ (u237000 : Value).ownBlock)) (by (with_reducible repeat (first | apply Kd.R_alloc | apply Kd.R_drewN | apply Kd.R_drew)); exact Kd.R_mono HO_237002.out (fun _ hk => ⟨⟨hk.1, ⟨hk.2.1, ⟨hk.2.2.1, hk.2.2.2.1⟩⟩⟩, hk.2.2.2.2⟩)) hg (.inl rfl)); have n6_ := Aside0.mk (Kd.S_after (v := (.slice (some ⟨go86, 0, none⟩) x237001_2.length co86)) (v1 := (.slice (some ⟨go86, 0, none⟩) x237001_2.length co86)) (ok := (fun k_ => some k_ ≠ (.slice (some ad265) x8_2.length co89 : Value).ownBlock ∧ some k_ ≠ (v244 : Value).ownBlock ∧ some k_ ≠ (.slice (some ad272) x10_2.length co44 : Value).ownBlock ∧ some k_ ≠ (u237000 : Value).ownBlock ∧ some k_ ≠ (u237002 : Value).ownBlock)) (by (with_reducible repeat (first | apply Kd.S_alloc | apply Kd.S_drewN | apply Kd.S_drew)); exact Kd.S_mono HO_237003.out (fun _ hk => ⟨⟨hk.1, ⟨hk.2.1, ⟨hk.2.2.1, ⟨hk.2.2.2.1, hk.2.2.2.2.2⟩⟩⟩⟩, hk.2.2.2.2.1⟩)) hg (.inl rfl)); have n7_ := Aside0.mk (blk_grown (g := gb226) (o := .cells #[.slice none 0 0, .slice none 0 0, .slice none 0 0, .slice none 0 0] 79 (0, 0)) (by (with_reducible repeat (first | refine blk_drewN ?_ _ | refine blk_drew ?_ | refine blk_alloc ?_ _)); exact BK226.out) hg (Kd.R_ne HO_237001.out BK226.out (by decide))); have n8_ := Aside0.mk (blk_grown (g := gb236) (o := .cells #[u237000, .slice (some ⟨go86, 0, none⟩) x237001_2.length co86, u237002, u237003] 79 (0, 0)) (by (with_reducible repeat (first | refine blk_drewN ?_ _ | refine blk_drew ?_ | refine blk_alloc ?_ _)); exact BK236.out) hg (Kd.R_ne HO_237001.out BK236.out (by decide))); have n9_ := Aside0.mk ((by rw [hw]; exact below_set (HB.out) GB86.out : Below w.heap.size w w93)); clear HO_8; clear HO_9; clear HO_10; clear HO_237000; clear HO_237001; clear HO_237002; clear HO_237003; clear BK226; clear BK236; clear HB; have HO_8 := n0_; have HO_9 := n1_; have HO_10 := n2_; have HO_237000 := n3_; have HO_237001 := n4_; have HO_237002 := n5_; have HO_237003 := n6_; have BK226 := n7_; have BK236 := n8_; have HB := n9_; clear n0_ n1_ n2_ n3_ n4_ n5_ n6_ n7_ n8_ n9_; clear hg hw hp_; have p87 : 0 ≤ ((ji80) : Int) := of_decide_eq_true (by first | (with_reducible assumption) | assumption); have q87 : ((ji80) : Int) < ((x10_2.length : Int) : Int) := of_decide_eq_true (by first | (with_reducible assumption) | assumption); obtain ⟨go87, co87, eo87, gb87, gl87, cl87, HG87⟩ := Kd.R_form HO_10.out (by omega); (first | cases eo87 | (injection eo87 with ea_ en_ ec_; (first | subst ea_ | (injection ea_ with ea_; subst ea_)); subst ec_; clear en_)); have GB87 := Aside0.mk gb87; have GG87 := Aside0.mk HG87; clear gb87 gl87 HG87; (first | simp only [add_plain] at hx272_0 | skip); obtain ⟨hx87_0, hf87_0⟩ := Kd.R_celln 0 HO_10.out ((ji80) : Int) p87 q87; replace p87 := eq_true p87; replace q87 := eq_true q87; have n_ := Aside0.mk (Kd.R_mono (ok' := (fun k_ => some k_ ≠ (.slice (some ad265) x8_2.length co89 : Value).ownBlock ∧ some k_ ≠ (v244 : Value).ownBlock ∧ some k_ ≠ (u237000 : Value).ownBlock ∧ some k_ ≠ (.slice (some ⟨go86, 0, none⟩) x237001_2.length co86 : Value).ownBlock ∧ some k_ ≠ (u237002 : Value).ownBlock)) HO_10.out (fun k_ hk => ⟨hk.1.1, ⟨hk.1.2.1, ⟨hk.1.2.2.1, ⟨hk.2, hk.1.2.2.2⟩⟩⟩⟩)); clear HO_10; have HO_10 := n_; clear n_; obtain ⟨hy94_, hz94_⟩ := Kd.R_celln 0 HO_10.out ((ji80) : Int) (of_decide_eq_true (by first | (with_reducible assumption) | assumption)) (of_decide_eq_true (by first | (with_reducible assumption) | assumption)); have HP94 := Kd.R_putg HO_10.out ((ji80) : Int) (rd l2 x45_2)) | ((with_reducible refine gate_store (t := 3) (p := 112) rfl ?_); refine store_event (t := 3) (p := 112) (v := ?vo_w95) (w1 := (w93.setCell ⟨go87, ((ji80) : Int).toNat, none⟩ (.int .i64 (rd l2 x45_2)))) ?hg ?ho ?hn ?hr ?_; (case ho => rfl); (case hg => rfl); (case hn => rfl); (case hr => first | (go_simp; done) | (go_simp; rfl)); intro w95 hw; have hg : w93.grownBy w95 (some go87) := (by rw [hw]; exact HP94.2); have hp_ : Kd.R (Kd.int .i64) 3 w95 w.heap.size (fun k_ => some k_ ≠ (.slice (some ad265) x8_2.length co89 : Value).ownBlock ∧ some k_ ≠ (v244 : Value).ownBlock ∧ some k_ ≠ (u237000 : Value).ownBlock ∧ some k_ ≠ (.slice (some ⟨go86, 0, none⟩) x237001_2.length co86 : Value).ownBlock ∧ some k_ ≠ (u237002 : Value).ownBlock) (.slice (some ⟨go87, 0, none⟩) x10_2.length co44) y274 := (by rw [hw, Ny274.out]; exact HP94.1); clear HP94; have n0_ := Aside0.mk (Kd.R_after (v := (.slice (some ⟨go87, 0, none⟩) x10_2.length co44)) (v1 := (.slice (some ⟨go87, 0, none⟩) x10_2.length co44)) (ok := (fun k_ => some k_ ≠ (v244 : Value).ownBlock ∧ some k_ ≠ (u237000 : Value).ownBlock ∧ some k_ ≠ (.slice (some ⟨go86, 0, none⟩) x237001_2.length co86 : Value).ownBlock ∧ some k_ ≠ (u237002 : Value).ownBlock)) (by (with_reducible repeat (first | apply Kd.R_alloc | apply Kd.R_drewN | apply Kd.R_drew)); exact Kd.R_mono HO_8.out (fun _ hk => ⟨⟨hk.1.1, ⟨hk.1.2.2.1, ⟨hk.2, hk.1.2.2.2⟩⟩⟩, hk.1.2.1⟩)) hg (.inl rfl)); have n1_ := Aside0.mk (Kd.R_after (v := (.slice (some ⟨go87, 0, none⟩) x10_2.length co44)) (v1 := (.slice (some ⟨go87, 0, none⟩) x10_2.length co44)) (ok := (fun k_ => some k_ ≠ (.slice (some ad265) x8_2.length co89 : Value).ownBlock ∧ some k_ ≠ (u237000 : Value).ownBlock ∧ some k_ ≠ (.slice (some ⟨go86, 0, none⟩) x237001_2.length co86 : Value).ownBlock ∧ some k_ ≠ (u237002 : Value).ownBlock)) (by (with_reducible repeat (first | apply Kd.R_alloc | apply Kd.R_drewN | apply Kd.R_drew)); exact Kd.R_mono HO_9.out (fun _ hk => ⟨⟨hk.1.1, ⟨hk.1.2.2.1, ⟨hk.2, hk.1.2.2.2⟩⟩⟩, hk.1.2.1⟩)) hg (.inl rfl)); have n2_ := Aside0.mk (hp_); have n3_ := Aside0.mk (Kd.R_after (v := (.slice (some ⟨go87, 0, none⟩) x10_2.length co44)) (v1 := (.slice (some ⟨go87, 0, none⟩) x10_2.length co44)) (ok := (fun k_ => some k_ ≠ (.slice (some ad265) x8_2.length co89 : Value).ownBlock ∧ some k_ ≠ (v244 : Value).ownBlock ∧ some k_ ≠ (.slice (some ⟨go86, 0, none⟩) x237001_2.length co86 : Value).ownBlock ∧ some k_ ≠ (u237002 : Value).ownBlock)) (by (with_reducible repeat (first | apply Kd.R_alloc | apply Kd.R_drewN | apply Kd.R_drew)); exact Kd.R_mono HO_237000.out (fun _ hk => ⟨⟨hk.1.1, ⟨hk.1.2.1, ⟨hk.2, hk.1.2.2.2⟩⟩⟩, hk.1.2.2.1⟩)) hg (.inl rfl)); have n4_ := Aside0.mk (Kd.R_after (v := (.slice (some ⟨go87, 0, none⟩) x10_2.length co44)) (v1 := (.slice (some ⟨go87, 0, none⟩) x10_2.length co44)) (ok := (fun k_ => some k_ ≠ (.slice (some ad265) x8_2.length co89 : Value).ownBlock ∧ some k_ ≠ (v244 : Value).ownBlock ∧ some k_ ≠ (u237000 : Value).ownBlock ∧ some k_ ≠ (u237002 : Value).ownBlock)) (by (with_reducible repeat (first | apply Kd.R_alloc | apply Kd.R_drewN | apply Kd.R_drew)); exact Kd.R_mono HO_237001.out (fun _ hk => ⟨⟨hk.1, ⟨hk.2.1, ⟨hk.2.2.2.1, hk.2.2.2.2⟩⟩⟩, hk.2.2.1⟩)) hg (.inl rfl)); have n5_ := Aside0.mk (Kd.R_after (v := (.slice (some ⟨go87, 0, none⟩) x10_2.length co44)) (v1 := (.slice (some ⟨go87, 0, none⟩) x10_2.length co44)) (ok := (fun k_ => some k_ ≠ (.slice (some ad265) x8_2.length co89 : Value).ownBlock ∧ some k_ ≠ (v244 : Value).ownBlock ∧ some k_ ≠ (u237000 : Value).ownBlock ∧ some k_ ≠ (.slice (some ⟨go86, 0, none⟩) x237001_2.length co86 : Value).ownBlock)) (by (with_reducible repeat (first | apply Kd.R_alloc | apply Kd.R_drewN | apply Kd.R_drew)); exact Kd.R_mono HO_237002.out (fun _ hk => ⟨⟨hk.1.1, ⟨hk.1.2.1, ⟨hk.1.2.2.2, hk.2⟩⟩⟩, hk.1.2.2.1⟩)) hg (.inl rfl)); have n6_ := Aside0.mk (Kd.S_after (v := (.slice (some ⟨go87, 0, none⟩) x10_2.length co44)) (v1 := (.slice (some ⟨go87, 0, none⟩) x10_2.length co44)) (ok := (fun k_ => some k_ ≠ (.slice (some ad265) x8_2.length co89 : Value).ownBlock ∧ some k_ ≠ (v244 : Value).ownBlock ∧ some k_ ≠ (u237000 : Value).ownBlock ∧ some k_ ≠ (.slice (some ⟨go86, 0, none⟩) x237001_2.length co86 : Value).ownBlock ∧ some k_ ≠ (u237002 : Value).ownBlock)) (by (with_reducible repeat (first | apply Kd.S_alloc | apply Kd.S_drewN | apply Kd.S_drew)); exact Kd.S_mono HO_237003.out (fun _ hk => ⟨⟨hk.1.1, ⟨hk.1.2.1, ⟨hk.1.2.2.2.1, ⟨hk.2, hk.1.2.2.2.2⟩⟩⟩⟩, hk.1.2.2.1⟩)) hg (.inl rfl)); have n7_ := Aside0.mk (blk_grown (g := gb226) (o := .cells #[.slice none 0 0, .slice none 0 0, .slice none 0 0, .slice none 0 0] 79 (0, 0)) (by (with_reducible repeat (first | refine blk_drewN ?_ _ | refine blk_drew ?_ | refine blk_alloc ?_ _)); exact BK226.out) hg (Kd.R_ne HO_10.out BK226.out (by decide))); have n8_ := Aside0.mk (blk_grown (g := gb236) (o := .cells #[u237000, .slice (some ⟨go86, 0, none⟩) x237001_2.length co86, u237002, u237003] 79 (0, 0)) (by (with_reducible repeat (first | refine blk_drewN ?_ _ | refine blk_drew ?_ | refine blk_alloc ?_ _)); exact BK236.out) hg (Kd.R_ne HO_10.out BK236.out (by decide))); have n9_ := Aside0.mk ((by rw [hw]; exact below_set (HB.out) GB87.out : Below w.heap.size w w95)); clear HO_8; clear HO_9; clear HO_10; clear HO_237000; clear HO_237001; clear HO_237002; clear HO_237003; clear BK226; clear BK236; clear HB; have HO_8 := n0_; have HO_9 := n1_; have HO_10 := n2_; have HO_237000 := n3_; have HO_237001 := n4_; have HO_237002 := n5_; have HO_237003 := n6_; have BK226 := n7_; have BK236 := n8_; have HB := n9_; clear n0_ n1_ n2_ n3_ n4_ n5_ n6_ n7_ n8_ n9_; clear hg hw hp_; have p88 : 0 ≤ ((rd l2 x45_2) : Int) := of_decide_eq_true (by first | (with_reducible assumption) | assumption); have q88 : ((rd l2 x45_2) : Int) < ((x8_2.length : Int) : Int) := of_decide_eq_true (by first | (with_reducible assumption) | assumption); obtain ⟨go88, co88, eo88, gb88, gl88, cl88, HG88⟩ := Kd.R_form HO_8.out (by omega); (first | cases eo88 | (injection eo88 with ea_ en_ ec_; (first | subst ea_ | (injection ea_ with ea_; subst ea_)); subst ec_; clear en_)); have GB88 := Aside0.mk gb88; have GG88 := Aside0.mk HG88; clear gb88 gl88 HG88; (first | simp only [add_plain] at hx265_0 | skip); obtain ⟨hx88_0, hf88_0⟩ := Kd.R_celln 0 HO_8.out ((rd l2 x45_2) : Int) p88 q88; replace p88 := eq_true p88; replace q88 := eq_true q88; have n_ := Aside0.mk (Kd.R_mono (ok' := (fun k_ => some k_ ≠ (v244 : Value).ownBlock ∧ some k_ ≠ (.slice (some ⟨go87, 0, none⟩) x10_2.length co44 : Value).ownBlock ∧ some k_ ≠ (u237000 : Value).ownBlock ∧ some k_ ≠ (.slice (some ⟨go86, 0, none⟩) x237001_2.length co86 : Value).ownBlock ∧ some k_ ≠ (u237002 : Value).ownBlock)) HO_8.out (fun k_ hk => ⟨hk.1.1, ⟨hk.2, ⟨hk.1.2.1, ⟨hk.1.2.2.1, hk.1.2.2.2⟩⟩⟩⟩)); clear HO_8; have HO_8 := n_; clear n_; obtain ⟨hy96_, hz96_⟩ := Kd.R_celln 0 HO_8.out ((rd l2 x45_2) : Int) (of_decide_eq_true (by first | (with_reducible assumption) | assumption)) (of_decide_eq_true (by first | (with_reducible assumption) | assumption)); have HP96 := Kd.R_putg HO_8.out ((rd l2 x45_2) : Int) ji80) | ((with_reducible refine gate_store (t := 3) (p := 113) rfl ?_); refine store_event (t := 3) (p := 113) (v := ?vo_w97) (w1 := (w95.setCell ⟨go88, ((rd l2 x45_2) : Int).toNat, none⟩ (.int .i64 ji80))) ?hg ?ho ?hn ?hr ?_; (case ho => rfl); (case hg => rfl); (case hn => rfl); (case hr => first | (go_simp; done) | (go_simp; rfl)); intro w97 hw; have hg : w95.grownBy w97 (some go88) := (by rw [hw]; exact HP96.2); have hp_ : Kd.R (Kd.int .i64) 3 w97 w.heap.size (fun k_ => some k_ ≠ (v244 : Value).ownBlock ∧ some k_ ≠ (.slice (some ⟨go87, 0, none⟩) x10_2.length co44 : Value).ownBlock ∧ some k_ ≠ (u237000 : Value).ownBlock ∧ some k_ ≠ (.slice (some ⟨go86, 0, none⟩) x237001_2.length co86 : Value).ownBlock ∧ some k_ ≠ (u237002 : Value).ownBlock) (.slice (some ⟨go88, 0, none⟩) x8_2.length co89) y275 := (by rw [hw, Ny275.out]; exact HP96.1); clear HP96; have n0_ := Aside0.mk (hp_); have n1_ := Aside0.mk (Kd.R_after (v := (.slice (some ⟨go88, 0, none⟩) x8_2.length co89)) (v1 := (.slice (some ⟨go88, 0, none⟩) x8_2.length co89)) (ok := (fun k_ => some k_ ≠ (.slice (some ⟨go87, 0, none⟩) x10_2.length co44 : Value).ownBlock ∧ some k_ ≠ (u237000 : Value).ownBlock ∧ some k_ ≠ (.slice (some ⟨go86, 0, none⟩) x237001_2.length co86 : Value).ownBlock ∧ some k_ ≠ (u237002 : Value).ownBlock)) (by (with_reducible repeat (first | apply Kd.R_alloc | apply Kd.R_drewN | apply Kd.R_drew)); exact Kd.R_mono HO_9.out (fun _ hk => ⟨⟨hk.2, ⟨hk.1.2.1, ⟨hk.1.2.2.1, hk.1.2.2.2⟩⟩⟩, hk.1.1⟩)) hg (.inl rfl)); have n2_ := Aside0.mk (Kd.R_after (v := (.slice (some ⟨go88, 0, none⟩) x8_2.length co89)) (v1 := (.slice (some ⟨go88, 0, none⟩) x8_2.length co89)) (ok := (fun k_ => some k_ ≠ (v244 : Value).ownBlock ∧ some k_ ≠ (u237000 : Value).ownBlock ∧ some k_ ≠ (.slice (some ⟨go86, 0, none⟩) x237001_2.length co86 : Value).ownBlock ∧ some k_ ≠ (u237002 : Value).ownBlock)) (by (with_reducible repeat (first | apply Kd.R_alloc | apply Kd.R_drewN | apply Kd.R_drew)); exact Kd.R_mono HO_10.out (fun _ hk => ⟨⟨hk.2.1, ⟨hk.2.2.1, ⟨hk.2.2.2.1, hk.2.2.2.2⟩⟩⟩, hk.1⟩)) hg (.inl rfl)); have n3_ := Aside0.mk (Kd.R_after (v := (.slice (some ⟨go88, 0, none⟩) x8_2.length co89)) (v1 := (.slice (some ⟨go88, 0, none⟩) x8_2.length co89)) (ok := (fun k_ => some k_ ≠ (v244 : Value).ownBlock ∧ some k_ ≠ (.slice (some ⟨go87, 0, none⟩) x10_2.length co44 : Value).ownBlock ∧ some k_ ≠ (.slice (some ⟨go86, 0, none⟩) x237001_2.length co86 : Value).ownBlock ∧ some k_ ≠ (u237002 : Value).ownBlock)) (by (with_reducible repeat (first | apply Kd.R_alloc | apply Kd.R_drewN | apply Kd.R_drew)); exact Kd.R_mono HO_237000.out (fun _ hk => ⟨⟨hk.1.2.1, ⟨hk.2, ⟨hk.1.2.2.1, hk.1.2.2.2⟩⟩⟩, hk.1.1⟩)) hg (.inl rfl)); have n4_ := Aside0.mk (Kd.R_after (v := (.slice (some ⟨go88, 0, none⟩) x8_2.length co89)) (v1 := (.slice (some ⟨go88, 0, none⟩) x8_2.length co89)) (ok := (fun k_ => some k_ ≠ (v244 : Value).ownBlock ∧ some k_ ≠ (.slice (some ⟨go87, 0, none⟩) x10_2.length co44 : Value).ownBlock ∧ some k_ ≠ (u237000 : Value).ownBlock ∧ some k_ ≠ (u237002 : Value).ownBlock)) (by (with_reducible repeat (first | apply Kd.R_alloc | apply Kd.R_drewN | apply Kd.R_drew)); exact Kd.R_mono HO_237001.out (fun _ hk => ⟨⟨hk.1.2.1, ⟨hk.2, ⟨hk.1.2.2.1, hk.1.2.2.2⟩⟩⟩, hk.1.1⟩)) hg (.inl rfl)); have n5_ := Aside0.mk (Kd.R_after (v := (.slice (some ⟨go88, 0, none⟩) x8_2.length co89)) (v1 := (.slice (some ⟨go88, 0, none⟩) x8_2.length co89)) (ok := (fun k_ => some k_ ≠ (v244 : Value).ownBlock ∧ some k_ ≠ (.slice (some ⟨go87, 0, none⟩) x10_2.length co44 : Value).ownBlock ∧ some k_ ≠ (u237000 : Value).ownBlock ∧ some k_ ≠ (.slice (some ⟨go86, 0, none⟩) x237001_2.length co86 : Value).ownBlock)) (by (with_reducible repeat (first | apply Kd.R_alloc | apply Kd.R_drewN | apply Kd.R_drew)); exact Kd.R_mono HO_237002.out (fun _ hk => ⟨⟨hk.1.2.1, ⟨hk.2, ⟨hk.1.2.2.1, hk.1.2.2.2⟩⟩⟩, hk.1.1⟩)) hg (.inl rfl)); have n6_ := Aside0.mk (Kd.S_after (v := (.slice (some ⟨go88, 0, none⟩) x8_2.length co89)) (v1 := (.slice (some ⟨go88, 0, none⟩) x8_2.length co89)) (ok := (fun k_ => some k_ ≠ (v244 : Value).ownBlock ∧ some k_ ≠ (.slice (some ⟨go87, 0, none⟩) x10_2.length co44 : Value).ownBlock ∧ some k_ ≠ (u237000 : Value).ownBlock ∧ some k_ ≠ (.slice (some ⟨go86, 0, none⟩) x237001_2.length co86 : Value).ownBlock ∧ some k_ ≠ (u237002 : Value).ownBlock)) (by (with_reducible repeat (first | apply Kd.S_alloc | apply Kd.S_drewN | apply Kd.S_drew)); exact Kd.S_mono HO_237003.out (fun _ hk => ⟨⟨hk.1.2.1, ⟨hk.2, ⟨hk.1.2.2.1, ⟨hk.1.2.2.2.1, hk.1.2.2.2.2⟩⟩⟩⟩, hk.1.1⟩)) hg (.inl rfl)); have n7_ := Aside0.mk (blk_grown (g := gb226) (o := .cells #[.slice none 0 0, .slice none 0 0, .slice none 0 0, .slice none 0 0] 79 (0, 0)) (by (with_reducible repeat (first | refine blk_drewN ?_ _ | refine blk_drew ?_ | refine blk_alloc ?_ _)); exact BK226.out) hg (Kd.R_ne HO_8.out BK226.out (by decide))); have n8_ := Aside0.mk (blk_grown (g := gb236) (o := .cells #[u237000, .slice (some ⟨go86, 0, none⟩) x237001_2.length co86, u237002, u237003] 79 (0, 0)) (by (with_reducible repeat (first | refine blk_drewN ?_ _ | refine blk_drew ?_ | refine blk_alloc ?_ _)); exact BK236.out) hg (Kd.R_ne HO_8.out BK236.out (by decide))); have n9_ := Aside0.mk ((by rw [hw]; exact below_set (HB.out) GB88.out : Below w.heap.size w w97)); clear HO_8; clear HO_9; clear HO_10; clear HO_237000; clear HO_237001; clear HO_237002; clear HO_237003; clear BK226; clear BK236; clear HB; have HO_8 := n0_; have HO_9 := n1_; have HO_10 := n2_; have HO_237000 := n3_; have HO_237001 := n4_; have HO_237002 := n5_; have HO_237003 := n6_; have BK226 := n7_; have BK236 := n8_; have HB := n9_; clear n0_ n1_ n2_ n3_ n4_ n5_ n6_ n7_ n8_ n9_; clear hg hw hp_))
                     (try simp only [← hl10_2])
                     first | go_roundg k2 | (simp only [← hji80] at H' ⊢; go_roundg k2)
                     case measure => have := HK1.out; have := HK2.out; omega
                     case rel => exact ⟨(y275), (x9_2), (y274), (x11_2), (wrap64 (x45_2 + 1)), (x237000_2), (y273), (x237002_2), (u237000), (.slice (some ⟨go86, 0, none⟩) x237001_2.length co86), (u237002), (by first | rfl | (simp; done) | (simp [*]; done) | (simp [wrap64]; done) | (simp [*, wrap64]; done)), (by first | rfl | (simp; done) | (simp [*]; done) | (simp [wrap64]; done) | (simp [*, wrap64]; done)), H', ⟨by have := HK1.out; have := HK2.out; omega⟩, ⟨by (try simp only [hl10_1]); (try simp only [hl10_2]); (with_reducible repeat (first | apply Kd.R_alloc | apply Kd.R_drewN | apply Kd.R_drew)); exact HO_8.out⟩, ⟨by (try simp only [hl10_1]); (try simp only [hl10_2]); (with_reducible repeat (first | apply Kd.R_alloc | apply Kd.R_drewN | apply Kd.R_drew)); exact Kd.R_mono HO_9.out (fun _ hk => ⟨hk.2, ⟨hk.1.1, ⟨hk.1.2.1, ⟨hk.1.2.2.1, hk.1.2.2.2⟩⟩⟩⟩)⟩, ⟨by (try simp only [hl10_1]); (try simp only [hl10_2]); (with_reducible repeat (first | apply Kd.R_alloc | apply Kd.R_drewN | apply Kd.R_drew)); exact Kd.R_mono HO_10.out (fun _ hk => ⟨hk.2, ⟨hk.1.1, ⟨hk.1.2.1, ⟨hk.1.2.2.1, hk.1.2.2.2⟩⟩⟩⟩)⟩, ⟨by (try simp only [hl10_1]); (try simp only [hl10_2]); (with_reducible repeat (first | apply Kd.R_alloc | apply Kd.R_drewN | apply Kd.R_drew)); exact Kd.R_mono HO_237000.out (fun _ hk => ⟨hk.2, ⟨hk.1.1, ⟨hk.1.2.1, ⟨hk.1.2.2.1, hk.1.2.2.2⟩⟩⟩⟩)⟩, ⟨by (try simp only [hl10_1]); (try simp only [hl10_2]); (with_reducible repeat (first | apply Kd.R_alloc | apply Kd.R_drewN | apply Kd.R_drew)); exact Kd.R_mono HO_237001.out (fun _ hk => ⟨hk.2, ⟨hk.1.1, ⟨hk.1.2.1, ⟨hk.1.2.2.1, hk.1.2.2.2⟩⟩⟩⟩)⟩, ⟨by (try simp only [hl10_1]); (try simp only [hl10_2]); (with_reducible repeat (first | apply Kd.R_alloc | apply Kd.R_drewN | apply Kd.R_drew)); exact Kd.R_mono HO_237002.out (fun _ hk => ⟨hk.2, ⟨hk.1.1, ⟨hk.1.2.1, ⟨hk.1.2.2.1, hk.1.2.2.2⟩⟩⟩⟩)⟩, ⟨by (try simp only [hl10_1]); (try simp only [hl10_2]); (with_reducible repeat (first | apply Kd.S_alloc | apply Kd.S_drewN | apply Kd.S_drew)); exact Kd.S_mono HO_237003.out (fun _ hk => ⟨hk.2, ⟨hk.1.1, ⟨hk.1.2.1, ⟨hk.1.2.2.1, ⟨hk.1.2.2.2.1, hk.1.2.2.2.2⟩⟩⟩⟩⟩)⟩, ⟨by (try simp only [hl10_1]); (try simp only [hl10_2]); (with_reducible repeat (first | refine blk_drewN ?_ _ | refine blk_drew ?_ | refine blk_alloc ?_ _)); exact BK226.out⟩, ⟨by (try simp only [hl10_1]); (try simp only [hl10_2]); (with_reducible repeat (first | refine blk_drewN ?_ _ | refine blk_drew ?_ | refine blk_alloc ?_ _)); exact BK236.out⟩, ⟨by repeat (first | (with_reducible first | exact HB.out | apply below_alloc | apply pw_below_drewN | apply below_drew1 | refine below_set ?_ GE226.out | refine below_set ?_ GE236.out) | exact HB.out)⟩⟩
                    ·rw [if_neg c85] at H
                     exact absurd H (by simp)
                   ·rw [if_neg c84] at H
                    have c84b0 : decide ((rd x8_2 (rd l2 x45_2)) < 0) = false := decide_eq_false c84
                    clear c84
                    by_cases c98 : 0 ≤ (rd x8_2 (rd l2 x45_2))
                    ·rw [if_pos c98] at H
                     have c98b0 : decide (0 ≤ (rd x8_2 (rd l2 x45_2))) = true := decide_eq_true c98
                     clear c98
                     by_cases c99 : (rd x8_2 (rd l2 x45_2)) < (x10_2.length : Int)
                     ·rw [if_pos c99] at H
                      have c99b0 : decide ((rd x8_2 (rd l2 x45_2)) < (x10_2.length : Int)) = true := decide_eq_true c99
                      clear c99
                      obtain ⟨y276, hy276⟩ : ∃ y_ : List Int, y_ = (x10_2.set ((rd x8_2 (rd l2 x45_2)) : Int).toNat (-1)) := ⟨_, rfl⟩
                      replace H : (impl_board.l1 k2 a0 a1 l2 (x8_2.set ((rd l2 x45_2) : Int).toNat (ji80)) x9_2 (y276.set ((ji80) : Int).toNat (rd l2 x45_2)) x11_2 x12_1 l2 (l2.length : Int) (wrap64 (x45_2 + 1)) x237000_2 x237001_2 x237002_2 x237003_1) = some (r1, r2, r3, r4) := by first | (rw [hy276]; with_reducible exact H) | (have H2_ := (Option.bind_some _ _).symm.trans H; rw [hy276]; with_reducible exact H2_) | (have H2_ := (Option.bind_some _ _).symm.trans H; with_reducible exact H2_) | with_reducible exact H | (rw [hy276]; exact H) | exact H
                      have Ny276 := Aside0.mk hy276
                      clear hy276
                      obtain ⟨y277, hy277⟩ : ∃ y_ : List Int, y_ = (y276.set ((ji80) : Int).toNat (rd l2 x45_2)) := ⟨_, rfl⟩
                      replace H : (impl_board.l1 k2 a0 a1 l2 (x8_2.set ((rd l2 x45_2) : Int).toNat (ji80)) x9_2 y277 x11_2 x12_1 l2 (l2.length : Int) (wrap64 (x45_2 + 1)) x237000_2 x237001_2 x237002_2 x237003_1) = some (r1, r2, r3, r4) := by first | (rw [hy277]; with_reducible exact H) | (have H2_ := (Option.bind_some _ _).symm.trans H; rw [hy277]; with_reducible exact H2_) | (have H2_ := (Option.bind_some _ _).symm.trans H; with_reducible exact H2_) | with_reducible exact H | (rw [hy277]; exact H) | exact H
                      have Ny277 := Aside0.mk hy277
                      clear hy277
                      obtain ⟨y278, hy278⟩ : ∃ y_ : List Int, y_ = (x8_2.set ((rd l2 x45_2) : Int).toNat (ji80)) := ⟨_, rfl⟩
                      replace H : (impl_board.l1 k2 a0 a1 l2 y278 x9_2 y277 x11_2 x12_1 l2 (l2.length : Int) (wrap64 (x45_2 + 1)) x237000_2 x237001_2 x237002_2 x237003_1) = some (r1, r2, r3, r4) := by first | (rw [hy278]; with_reducible exact H) | (have H2_ := (Option.bind_some _ _).symm.trans H; rw [hy278]; with_reducible exact H2_) | (have H2_ := (Option.bind_some _ _).symm.trans H; with_reducible exact H2_) | with_reducible exact H | (rw [hy278]; exact H) | exact H
                      have Ny278 := Aside0.mk hy278
                      clear hy278
                      have H' := Aside0.mk H
                      clear H
                      have p264 : 0 ≤ (x45_2 : Int) := of_decide_eq_true (by first | (with_reducible assumption) | assumption)
                      have q264 : x45_2 < (l2.length : Int) := of_decide_eq_true (by first | (with_reducible assumption) | assumption)
                      (try (have qm264 := q264; rw [HMHR2.out] at qm264; replace qm264 := eq_true qm264))
                      obtain ⟨ad264, e264, hx264_0⟩ := Kd.at_int HR2.out x45_2 p264 q264
                      cases e264
                      replace hx264_0 := (HB.out.cell (World.block_lt_of_cell? w _ hx264_0)).trans hx264_0
                      replace p264 := eq_true p264
                      replace q264 := eq_true q264
                      obtain ⟨Ao103, co103, eo103⟩ := Kd.R_slice HO_8.out
                      subst eo103
                      have p265 : 0 ≤ ((rd l2 x45_2) : Int) := of_decide_eq_true (by first | (with_reducible assumption) | assumption)
                      have q265 : (rd l2 x45_2) < (x8_2.length : Int) := of_decide_eq_true (by first | (with_reducible assumption) | assumption)
                      obtain ⟨ad265, e265, hx265_0⟩ := Kd.at_int (Kd.R_reads' HO_8.out).2.2 (rd l2 x45_2) p265 q265
                      cases e265
                      replace p265 := eq_true p265
                      replace q265 := eq_true q265
                      have p272 : 0 ≤ ((ji80) : Int) := of_decide_eq_true (by first | (with_reducible assumption) | assumption)
                      have q272 : (ji80) < (x10_2.length : Int) := of_decide_eq_true (by first | (with_reducible assumption) | assumption)
                      obtain ⟨ad272, e272, hx272_0⟩ := Kd.at_int (Kd.R_reads' HO_10.out).2.2 (ji80) p272 q272
                      cases e272
                      replace p272 := eq_true p272
                      replace q272 := eq_true q272
                      have p100 : 0 ≤ ((rd x8_2 (rd l2 x45_2)) : Int) := of_decide_eq_true (by first | (with_reducible assumption) | assumption)
                      have q100 : ((rd x8_2 (rd l2 x45_2)) : Int) < ((x10_2.length : Int) : Int) := of_decide_eq_true (by first | (with_reducible assumption) | assumption)
                      obtain ⟨go100, co100, eo100, gb100, gl100, cl100, HG100⟩ := Kd.R_form HO_10.out (by omega)
                      (first | cases eo100 | (injection eo100 with ea_ en_ ec_; (first | subst ea_ | (injection ea_ with ea_; subst ea_)); subst ec_; clear en_))
                      have GB100 := Aside0.mk gb100
                      have GG100 := Aside0.mk HG100
                      clear gb100 gl100 HG100
                      (first | simp only [add_plain] at hx272_0 | skip)
                      obtain ⟨hx100_0, hf100_0⟩ := Kd.R_celln 0 HO_10.out ((rd x8_2 (rd l2 x45_2)) : Int) p100 q100
                      replace p100 := eq_true p100
                      replace q100 := eq_true q100
                      have HP104 := Kd.R_putg HO_10.out ((rd x8_2 (rd l2 x45_2)) : Int) (-1)
                      go_wp2_with (first | ((with_reducible refine gate_store (t := 3) (p := 103) rfl ?_); refine store_event (t := 3) (p := 103) (v := ?vo_w105) (w1 := (wr.setCell ⟨go100, ((rd x8_2 (rd l2 x45_2)) : Int).toNat, none⟩ (.int .i64 (-1)))) ?hg ?ho ?hn ?hr ?_; (case ho => rfl); (case hg => rfl); (case hn => rfl); (case hr => first | (go_simp; done) | (go_simp; rfl)); intro w105 hw; have hg : wr.grownBy w105 (some go100) := (by rw [hw]; exact HP104.2); have hp_ : Kd.R (Kd.int .i64) 3 w105 w.heap.size (fun k_ => some k_ ≠ (.slice (some ad265) x8_2.length co103 : Value).ownBlock ∧ some k_ ≠ (v244 : Value).ownBlock ∧ some k_ ≠ (u237000 : Value).ownBlock ∧ some k_ ≠ (u237001 : Value).ownBlock ∧ some k_ ≠ (u237002 : Value).ownBlock) (.slice (some ⟨go100, 0, none⟩) x10_2.length co44) y276 := (by rw [hw, Ny276.out]; exact HP104.1); clear HP104; have n0_ := Aside0.mk (Kd.R_after (v := (.slice (some ⟨go100, 0, none⟩) x10_2.length co44)) (v1 := (.slice (some ⟨go100, 0, none⟩) x10_2.length co44)) (ok := (fun k_ => some k_ ≠ (v244 : Value).ownBlock ∧ some k_ ≠ (u237000 : Value).ownBlock ∧ some k_ ≠ (u237001 : Value).ownBlock ∧ some k_ ≠ (u237002 : Value).ownBlock)) (by (with_reducible repeat (first | apply Kd.R_alloc | apply Kd.R_drewN | apply Kd.R_drew)); exact Kd.R_mono HO_8.out (fun _ hk => ⟨⟨hk.1, ⟨hk.2.2.1, ⟨hk.2.2.2.1, hk.2.2.2.2⟩⟩⟩, hk.2.1⟩)) hg (.inl rfl)); have n1_ := Aside0.mk (Kd.R_after (v := (.slice (some ⟨go100, 0, none⟩) x10_2.length co44)) (v1 := (.slice (some ⟨go100, 0, none⟩) x10_2.length co44)) (ok := (fun k_ => some k_ ≠ (.slice (some ad265) x8_2.length co103 : Value).ownBlock ∧ some k_ ≠ (u237000 : Value).ownBlock ∧ some k_ ≠ (u237001 : Value).ownBlock ∧ some k_ ≠ (u237002 : Value).ownBlock)) (by (with_reducible repeat (first | apply Kd.R_alloc | apply Kd.R_drewN | apply Kd.R_drew)); exact Kd.R_mono HO_9.out (fun _ hk => ⟨⟨hk.1, ⟨hk.2.2.1, ⟨hk.2.2.2.1, hk.2.2.2.2⟩⟩⟩, hk.2.1⟩)) hg (.inl rfl)); have n2_ := Aside0.mk (hp_); have n3_ := Aside0.mk (Kd.R_after (v := (.slice (some ⟨go100, 0, none⟩) x10_2.length co44)) (v1 := (.slice (some ⟨go100, 0, none⟩) x10_2.length co44)) (ok := (fun k_ => some k_ ≠ (.slice (some ad265) x8_2.length co103 : Value).ownBlock ∧ some k_ ≠ (v244 : Value).ownBlock ∧ some k_ ≠ (u237001 : Value).ownBlock ∧ some k_ ≠ (u237002 : Value).ownBlock)) (by (with_reducible repeat (first | apply Kd.R_alloc | apply Kd.R_drewN | apply Kd.R_drew)); exact Kd.R_mono HO_237000.out (fun _ hk => ⟨⟨hk.1, ⟨hk.2.1, ⟨hk.2.2.2.1, hk.2.2.2.2⟩⟩⟩, hk.2.2.1⟩)) hg (.inl rfl)); have n4_ := Aside0.mk (Kd.R_after (v := (.slice (some ⟨go100, 0, none⟩) x10_2.length co44)) (v1 := (.slice (some ⟨go100, 0, none⟩) x10_2.length co44)) (ok := (fun k_ => some k_ ≠ (.slice (some ad265) x8_2.length co103 : Value).ownBlock ∧ some k_ ≠ (v244 : Value).ownBlock ∧ some k_ ≠ (u237000 : Value).ownBlock ∧ some k_ ≠ (u237002 : Value).ownBlock)) (by (with_reducible repeat (first | apply Kd.R_alloc | apply Kd.R_drewN | apply Kd.R_drew)); exact Kd.R_mono HO_237001.out (fun _ hk => ⟨⟨hk.1, ⟨hk.2.1, ⟨hk.2.2.2.1, hk.2.2.2.2⟩⟩⟩, hk.2.2.1⟩)) hg (.inl rfl)); have n5_ := Aside0.mk (Kd.R_after (v := (.slice (some ⟨go100, 0, none⟩) x10_2.length co44)) (v1 := (.slice (some ⟨go100, 0, none⟩) x10_2.length co44)) (ok := (fun k_ => some k_ ≠ (.slice (some ad265) x8_2.length co103 : Value).ownBlock ∧ some k_ ≠ (v244 : Value).ownBlock ∧ some k_ ≠ (u237000 : Value).ownBlock ∧ some k_ ≠ (u237001 : Value).ownBlock)) (by (with_reducible repeat (first | apply Kd.R_alloc | apply Kd.R_drewN | apply Kd.R_drew)); exact Kd.R_mono HO_237002.out (fun _ hk => ⟨⟨hk.1, ⟨hk.2.1, ⟨hk.2.2.2.1, hk.2.2.2.2⟩⟩⟩, hk.2.2.1⟩)) hg (.inl rfl)); have n6_ := Aside0.mk (Kd.S_after (v := (.slice (some ⟨go100, 0, none⟩) x10_2.length co44)) (v1 := (.slice (some ⟨go100, 0, none⟩) x10_2.length co44)) (ok := (fun k_ => some k_ ≠ (.slice (some ad265) x8_2.length co103 : Value).ownBlock ∧ some k_ ≠ (v244 : Value).ownBlock ∧ some k_ ≠ (u237000 : Value).ownBlock ∧ some k_ ≠ (u237001 : Value).ownBlock ∧ some k_ ≠ (u237002 : Value).ownBlock)) (by (with_reducible repeat (first | apply Kd.S_alloc | apply Kd.S_drewN | apply Kd.S_drew)); exact Kd.S_mono HO_237003.out (fun _ hk => ⟨⟨hk.1, ⟨hk.2.1, ⟨hk.2.2.2.1, ⟨hk.2.2.2.2.1, hk.2.2.2.2.2⟩⟩⟩⟩, hk.2.2.1⟩)) hg (.inl rfl)); have n7_ := Aside0.mk (blk_grown (g := gb226) (o := .cells #[.slice none 0 0, .slice none 0 0, .slice none 0 0, .slice none 0 0] 79 (0, 0)) (by (with_reducible repeat (first | refine blk_drewN ?_ _ | refine blk_drew ?_ | refine blk_alloc ?_ _)); exact BK226.out) hg (Kd.R_ne HO_10.out BK226.out (by decide))); have n8_ := Aside0.mk (blk_grown (g := gb236) (o := .cells #[u237000, u237001, u237002, u237003] 79 (0, 0)) (by (with_reducible repeat (first | refine blk_drewN ?_ _ | refine blk_drew ?_ | refine blk_alloc ?_ _)); exact BK236.out) hg (Kd.R_ne HO_10.out BK236.out (by decide))); have n9_ := Aside0.mk ((by rw [hw]; exact below_set (HB.out) GB100.out : Below w.heap.size w w105)); clear HO_8; clear HO_9; clear HO_10; clear HO_237000; clear HO_237001; clear HO_237002; clear HO_237003; clear BK226; clear BK236; clear HB; have HO_8 := n0_; have HO_9 := n1_; have HO_10 := n2_; have HO_237000 := n3_; have HO_237001 := n4_; have HO_237002 := n5_; have HO_237003 := n6_; have BK226 := n7_; have BK236 := n8_; have HB := n9_; clear n0_ n1_ n2_ n3_ n4_ n5_ n6_ n7_ n8_ n9_; clear hg hw hp_; have p101 : 0 ≤ ((ji80) : Int) := of_decide_eq_true (by first | (with_reducible assumption) | assumption); have q101 : ((ji80) : Int) < ((x10_2.length : Int) : Int) := of_decide_eq_true (by first | (with_reducible assumption) | assumption); obtain ⟨hx101_0, hf101_0⟩ := Kd.R_celln 0 HO_10.out ((ji80) : Int) p101 q101; replace p101 := eq_true p101; replace q101 := eq_true q101; obtain ⟨hy106_, hz106_⟩ := Kd.R_celln 0 HO_10.out ((ji80) : Int) (of_decide_eq_true (by first | (with_reducible assumption) | assumption)) (of_decide_eq_true (by first | (with_reducible assumption) | assumption)); have HP106 := Kd.R_putg HO_10.out ((ji80) : Int) (rd l2 x45_2)) | ((with_reducible refine gate_store (t := 3) (p := 112) rfl ?_); refine store_event (t := 3) (p := 112) (v := ?vo_w107) (w1 := (w105.setCell ⟨go100, ((ji80) : Int).toNat, none⟩ (.int .i64 (rd l2 x45_2)))) ?hg ?ho ?hn ?hr ?_; (case ho => rfl); (case hg => rfl); (case hn => rfl); (case hr => first | (go_simp; done) | (go_simp; rfl)); intro w107 hw; have hg : w105.grownBy w107 (some go100) := (by rw [hw]; exact HP106.2); have hp_ : Kd.R (Kd.int .i64) 3 w107 w.heap.size (fun k_ => some k_ ≠ (.slice (some ad265) x8_2.length co103 : Value).ownBlock ∧ some k_ ≠ (v244 : Value).ownBlock ∧ some k_ ≠ (u237000 : Value).ownBlock ∧ some k_ ≠ (u237001 : Value).ownBlock ∧ some k_ ≠ (u237002 : Value).ownBlock) (.slice (some ⟨go100, 0, none⟩) x10_2.length co44) y277 := (by rw [hw, Ny277.out]; exact HP106.1); clear HP106; have n0_ := Aside0.mk (Kd.R_after (v := (.slice (some ⟨go100, 0, none⟩) x10_2.length co44)) (v1 := (.slice (some ⟨go100, 0, none⟩) x10_2.length co44)) (ok := (fun k_ => some k_ ≠ (v244 : Value).ownBlock ∧ some k_ ≠ (u237000 : Value).ownBlock ∧ some k_ ≠ (u237001 : Value).ownBlock ∧ some k_ ≠ (u237002 : Value).ownBlock)) (by (with_reducible repeat (first | apply Kd.R_alloc | apply Kd.R_drewN | apply Kd.R_drew)); exact HO_8.out) hg (.inl rfl)); have n1_ := Aside0.mk (Kd.R_after (v := (.slice (some ⟨go100, 0, none⟩) x10_2.length co44)) (v1 := (.slice (some ⟨go100, 0, none⟩) x10_2.length co44)) (ok := (fun k_ => some k_ ≠ (.slice (some ad265) x8_2.length co103 : Value).ownBlock ∧ some k_ ≠ (u237000 : Value).ownBlock ∧ some k_ ≠ (u237001 : Value).ownBlock ∧ some k_ ≠ (u237002 : Value).ownBlock)) (by (with_reducible repeat (first | apply Kd.R_alloc | apply Kd.R_drewN | apply Kd.R_drew)); exact HO_9.out) hg (.inl rfl)); have n2_ := Aside0.mk (hp_); have n3_ := Aside0.mk (Kd.R_after (v := (.slice (some ⟨go100, 0, none⟩) x10_2.length co44)) (v1 := (.slice (some ⟨go100, 0, none⟩) x10_2.length co44)) (ok := (fun k_ => some k_ ≠ (.slice (some ad265) x8_2.length co103 : Value).ownBlock ∧ some k_ ≠ (v244 : Value).ownBlock ∧ some k_ ≠ (u237001 : Value).ownBlock ∧ some k_ ≠ (u237002 : Value).ownBlock)) (by (with_reducible repeat (first | apply Kd.R_alloc | apply Kd.R_drewN | apply Kd.R_drew)); exact HO_237000.out) hg (.inl rfl)); have n4_ := Aside0.mk (Kd.R_after (v := (.slice (some ⟨go100, 0, none⟩) x10_2.length co44)) (v1 := (.slice (some ⟨go100, 0, none⟩) x10_2.length co44)) (ok := (fun k_ => some k_ ≠ (.slice (some ad265) x8_2.length co103 : Value).ownBlock ∧ some k_ ≠ (v244 : Value).ownBlock ∧ some k_ ≠ (u237000 : Value).ownBlock ∧ some k_ ≠ (u237002 : Value).ownBlock)) (by (with_reducible repeat (first | apply Kd.R_alloc | apply Kd.R_drewN | apply Kd.R_drew)); exact HO_237001.out) hg (.inl rfl)); have n5_ := Aside0.mk (Kd.R_after (v := (.slice (some ⟨go100, 0, none⟩) x10_2.length co44)) (v1 := (.slice (some ⟨go100, 0, none⟩) x10_2.length co44)) (ok := (fun k_ => some k_ ≠ (.slice (some ad265) x8_2.length co103 : Value).ownBlock ∧ some k_ ≠ (v244 : Value).ownBlock ∧ some k_ ≠ (u237000 : Value).ownBlock ∧ some k_ ≠ (u237001 : Value).ownBlock)) (by (with_reducible repeat (first | apply Kd.R_alloc | apply Kd.R_drewN | apply Kd.R_drew)); exact HO_237002.out) hg (.inl rfl)); have n6_ := Aside0.mk (Kd.S_after (v := (.slice (some ⟨go100, 0, none⟩) x10_2.length co44)) (v1 := (.slice (some ⟨go100, 0, none⟩) x10_2.length co44)) (ok := (fun k_ => some k_ ≠ (.slice (some ad265) x8_2.length co103 : Value).ownBlock ∧ some k_ ≠ (v244 : Value).ownBlock ∧ some k_ ≠ (u237000 : Value).ownBlock ∧ some k_ ≠ (u237001 : Value).ownBlock ∧ some k_ ≠ (u237002 : Value).ownBlock)) (by (with_reducible repeat (first | apply Kd.S_alloc | apply Kd.S_drewN | apply Kd.S_drew)); exact HO_237003.out) hg (.inl rfl)); have n7_ := Aside0.mk (blk_grown (g := gb226) (o := .cells #[.slice none 0 0, .slice none 0 0, .slice none 0 0, .slice none 0 0] 79 (0, 0)) (by (with_reducible repeat (first | refine blk_drewN ?_ _ | refine blk_drew ?_ | refine blk_alloc ?_ _)); exact BK226.out) hg (Kd.R_ne HO_10.out BK226.out (by decide))); have n8_ := Aside0.mk (blk_grown (g := gb236) (o := .cells #[u237000, u237001, u237002, u237003] 79 (0, 0)) (by (with_reducible repeat (first | refine blk_drewN ?_ _ | refine blk_drew ?_ | refine blk_alloc ?_ _)); exact BK236.out) hg (Kd.R_ne HO_10.out BK236.out (by decide))); have n9_ := Aside0.mk ((by rw [hw]; exact below_set (HB.out) GB100.out : Below w.heap.size w w107)); clear HO_8; clear HO_9; clear HO_10; clear HO_237000; clear HO_237001; clear HO_237002; clear HO_237003; clear BK226; clear BK236; clear HB; have HO_8 := n0_; have HO_9 := n1_; have HO_10 := n2_; have HO_237000 := n3_; have HO_237001 := n4_; have HO_237002 := n5_; have HO_237003 := n6_; have BK226 := n7_; have BK236 := n8_; have HB := n9_; clear n0_ n1_ n2_ n3_ n4_ n5_ n6_ n7_ n8_ n9_; clear hg hw hp_; have p102 : 0 ≤ ((rd l2 x45_2) : Int) := of_decide_eq_true (by first | (with_reducible assumption) | assumption); have q102 : ((rd l2 x45_2) : Int) < ((x8_2.length : Int) : Int) := of_decide_eq_true (by first | (with_reducible assumption) | assumption); obtain ⟨go102, co102, eo102, gb102, gl102, cl102, HG102⟩ := Kd.R_form HO_8.out (by omega); (first | cases eo102 | (injection eo102 with ea_ en_ ec_; (first | subst ea_ | (injection ea_ with ea_; subst ea_)); subst ec_; clear en_)); have GB102 := Aside0.mk gb102; have GG102 := Aside0.mk HG102; clear gb102 gl102 HG102; (first | simp only [add_plain] at hx265_0 | skip); obtain ⟨hx102_0, hf102_0⟩ := Kd.R_celln 0 HO_8.out ((rd l2 x45_2) : Int) p102 q102; replace p102 := eq_true p102; replace q102 := eq_true q102; have n_ := Aside0.mk (Kd.R_mono (ok' := (fun k_ => some k_ ≠ (v244 : Value).ownBlock ∧ some k_ ≠ (.slice (some ⟨go100, 0, none⟩) x10_2.length co44 : Value).ownBlock ∧ some k_ ≠ (u237000 : Value).ownBlock ∧ some k_ ≠ (u237001 : Value).ownBlock ∧ some k_ ≠ (u237002 : Value).ownBlock)) HO_8.out (fun k_ hk => ⟨hk.1.1, ⟨hk.2, ⟨hk.1.2.1, ⟨hk.1.2.2.1, hk.1.2.2.2⟩⟩⟩⟩)); clear HO_8; have HO_8 := n_; clear n_; obtain ⟨hy108_, hz108_⟩ := Kd.R_celln 0 HO_8.out ((rd l2 x45_2) : Int) (of_decide_eq_true (by first | (with_reducible assumption) | assumption)) (of_decide_eq_true (by first | (with_reducible assumption) | assumption)); have HP108 := Kd.R_putg HO_8.out ((rd l2 x45_2) : Int) ji80) | ((with_reducible refine gate_store (t := 3) (p := 113) rfl ?_); refine store_event (t := 3) (p := 113) (v := ?vo_w109) (w1 := (w107.setCell ⟨go102, ((rd l2 x45_2) : Int).toNat, none⟩ (.int .i64 ji80))) ?hg ?ho ?hn ?hr ?_; (case ho => rfl); (case hg => rfl); (case hn => rfl); (case hr => first | (go_simp; done) | (go_simp; rfl)); intro w109 hw; have hg : w107.grownBy w109 (some go102) := (by rw [hw]; exact HP108.2); have hp_ : Kd.R (Kd.int .i64) 3 w109 w.heap.size (fun k_ => some k_ ≠ (v244 : Value).ownBlock ∧ some k_ ≠ (.slice (some ⟨go100, 0, none⟩) x10_2.length co44 : Value).ownBlock ∧ some k_ ≠ (u237000 : Value).ownBlock ∧ some k_ ≠ (u237001 : Value).ownBlock ∧ some k_ ≠ (u237002 : Value).ownBlock) (.slice (some ⟨go102, 0, none⟩) x8_2.length co103) y278 := (by rw [hw, Ny278.out]; exact HP108.1); clear HP108; have n0_ := Aside0.mk (hp_); have n1_ := Aside0.mk (Kd.R_after (v := (.slice (some ⟨go102, 0, none⟩) x8_2.length co103)) (v1 := (.slice (some ⟨go102, 0, none⟩) x8_2.length co103)) (ok := (fun k_ => some k_ ≠ (.slice (some ⟨go100, 0, none⟩) x10_2.length co44 : Value).ownBlock ∧ some k_ ≠ (u237000 : Value).ownBlock ∧ some k_ ≠ (u237001 : Value).ownBlock ∧ some k_ ≠ (u237002 : Value).ownBlock)) (by (with_reducible repeat (first | apply Kd.R_alloc | apply Kd.R_drewN | apply Kd.R_drew)); exact Kd.R_mono HO_9.out (fun _ hk => ⟨⟨hk.2, ⟨hk.1.2.1, ⟨hk.1.2.2.1, hk.1.2.2.2⟩⟩⟩, hk.1.1⟩)) hg (.inl rfl)); have n2_ := Aside0.mk (Kd.R_after (v := (.slice (some ⟨go102, 0, none⟩) x8_2.length co103)) (v1 := (.slice (some ⟨go102, 0, none⟩) x8_2.length co103)) (ok := (fun k_ => some k_ ≠ (v244 : Value).ownBlock ∧ some k_ ≠ (u237000 : Value).ownBlock ∧ some k_ ≠ (u237001 : Value).ownBlock ∧ some k_ ≠ (u237002 : Value).ownBlock)) (by (with_reducible repeat (first | apply Kd.R_alloc | apply Kd.R_drewN | apply Kd.R_drew)); exact Kd.R_mono HO_10.out (fun _ hk => ⟨⟨hk.2.1, ⟨hk.2.2.1, ⟨hk.2.2.2.1, hk.2.2.2.2⟩⟩⟩, hk.1⟩)) hg (.inl rfl)); have n3_ := Aside0.mk (Kd.R_after (v := (.slice (some ⟨go102, 0, none⟩) x8_2.length co103)) (v1 := (.slice (some ⟨go102, 0, none⟩) x8_2.length co103)) (ok := (fun k_ => some k_ ≠ (v244 : Value).ownBlock ∧ some k_ ≠ (.slice (some ⟨go100, 0, none⟩) x10_2.length co44 : Value).ownBlock ∧ some k_ ≠ (u237001 : Value).ownBlock ∧ some k_ ≠ (u237002 : Value).ownBlock)) (by (with_reducible repeat (first | apply Kd.R_alloc | apply Kd.R_drewN | apply Kd.R_drew)); exact Kd.R_mono HO_237000.out (fun _ hk => ⟨⟨hk.1.2.1, ⟨hk.2, ⟨hk.1.2.2.1, hk.1.2.2.2⟩⟩⟩, hk.1.1⟩)) hg (.inl rfl)); have n4_ := Aside0.mk (Kd.R_after (v := (.slice (some ⟨go102, 0, none⟩) x8_2.length co103)) (v1 := (.slice (some ⟨go102, 0, none⟩) x8_2.length co103)) (ok := (fun k_ => some k_ ≠ (v244 : Value).ownBlock ∧ some k_ ≠ (.slice (some ⟨go100, 0, none⟩) x10_2.length co44 : Value).ownBlock ∧ some k_ ≠ (u237000 : Value).ownBlock ∧ some k_ ≠ (u237002 : Value).ownBlock)) (by (with_reducible repeat (first | apply Kd.R_alloc | apply Kd.R_drewN | apply Kd.R_drew)); exact Kd.R_mono HO_237001.out (fun _ hk => ⟨⟨hk.1.2.1, ⟨hk.2, ⟨hk.1.2.2.1, hk.1.2.2.2⟩⟩⟩, hk.1.1⟩)) hg (.inl rfl)); have n5_ := Aside0.mk (Kd.R_after (v := (.slice (some ⟨go102, 0, none⟩) x8_2.length co103)) (v1 := (.slice (some ⟨go102, 0, none⟩) x8_2.length co103)) (ok := (fun k_ => some k_ ≠ (v244 : Value).ownBlock ∧ some k_ ≠ (.slice (some ⟨go100, 0, none⟩) x10_2.length co44 : Value).ownBlock ∧ some k_ ≠ (u237000 : Value).ownBlock ∧ some k_ ≠ (u237001 : Value).ownBlock)) (by (with_reducible repeat (first | apply Kd.R_alloc | apply Kd.R_drewN | apply Kd.R_drew)); exact Kd.R_mono HO_237002.out (fun _ hk => ⟨⟨hk.1.2.1, ⟨hk.2, ⟨hk.1.2.2.1, hk.1.2.2.2⟩⟩⟩, hk.1.1⟩)) hg (.inl rfl)); have n6_ := Aside0.mk (Kd.S_after (v := (.slice (some ⟨go102, 0, none⟩) x8_2.length co103)) (v1 := (.slice (some ⟨go102, 0, none⟩) x8_2.length co103)) (ok := (fun k_ => some k_ ≠ (v244 : Value).ownBlock ∧ some k_ ≠ (.slice (some ⟨go100, 0, none⟩) x10_2.length co44 : Value).ownBlock ∧ some k_ ≠ (u237000 : Value).ownBlock ∧ some k_ ≠ (u237001 : Value).ownBlock ∧ some k_ ≠ (u237002 : Value).ownBlock)) (by (with_reducible repeat (first | apply Kd.S_alloc | apply Kd.S_drewN | apply Kd.S_drew)); exact Kd.S_mono HO_237003.out (fun _ hk => ⟨⟨hk.1.2.1, ⟨hk.2, ⟨hk.1.2.2.1, ⟨hk.1.2.2.2.1, hk.1.2.2.2.2⟩⟩⟩⟩, hk.1.1⟩)) hg (.inl rfl)); have n7_ := Aside0.mk (blk_grown (g := gb226) (o := .cells #[.slice none 0 0, .slice none 0 0, .slice none 0 0, .slice none 0 0] 79 (0, 0)) (by (with_reducible repeat (first | refine blk_drewN ?_ _ | refine blk_drew ?_ | refine blk_alloc ?_ _)); exact BK226.out) hg (Kd.R_ne HO_8.out BK226.out (by decide))); have n8_ := Aside0.mk (blk_grown (g := gb236) (o := .cells #[u237000, u237001, u237002, u237003] 79 (0, 0)) (by (with_reducible repeat (first | refine blk_drewN ?_ _ | refine blk_drew ?_ | refine blk_alloc ?_ _)); exact BK236.out) hg (Kd.R_ne HO_8.out BK236.out (by decide))); have n9_ := Aside0.mk ((by rw [hw]; exact below_set (HB.out) GB102.out : Below w.heap.size w w109)); clear HO_8; clear HO_9; clear HO_10; clear HO_237000; clear HO_237001; clear HO_237002; clear HO_237003; clear BK226; clear BK236; clear HB; have HO_8 := n0_; have HO_9 := n1_; have HO_10 := n2_; have HO_237000 := n3_; have HO_237001 := n4_; have HO_237002 := n5_; have HO_237003 := n6_; have BK226 := n7_; have BK236 := n8_; have HB := n9_; clear n0_ n1_ n2_ n3_ n4_ n5_ n6_ n7_ n8_ n9_; clear hg hw hp_))
                      (try simp only [← hl10_2])
                      first | go_roundg k2 | (simp only [← hji80] at H' ⊢; go_roundg k2)
                      case measure => have := HK1.out; have := HK2.out; omega
                      case rel => exact ⟨(y278), (x9_2), (y277), (x11_2), (wrap64 (x45_2 + 1)), (x237000_2), (x237001_2), (x237002_2), (u237000), (u237001), (u237002), (by first | rfl | (simp; done) | (simp [*]; done) | (simp [wrap64]; done) | (simp [*, wrap64]; done)), (by first | rfl | (simp; done) | (simp [*]; done) | (simp [wrap64]; done) | (simp [*, wrap64]; done)), H', ⟨by have := HK1.out; have := HK2.out; omega⟩, ⟨by (try simp only [hl10_1]); (try simp only [hl10_2]); (with_reducible repeat (first | apply Kd.R_alloc | apply Kd.R_drewN | apply Kd.R_drew)); exact HO_8.out⟩, ⟨by (try simp only [hl10_1]); (try simp only [hl10_2]); (with_reducible repeat (first | apply Kd.R_alloc | apply Kd.R_drewN | apply Kd.R_drew)); exact Kd.R_mono HO_9.out (fun _ hk => ⟨hk.2, ⟨hk.1.1, ⟨hk.1.2.1, ⟨hk.1.2.2.1, hk.1.2.2.2⟩⟩⟩⟩)⟩, ⟨by (try simp only [hl10_1]); (try simp only [hl10_2]); (with_reducible repeat (first | apply Kd.R_alloc | apply Kd.R_drewN | apply Kd.R_drew)); exact Kd.R_mono HO_10.out (fun _ hk => ⟨hk.2, ⟨hk.1.1, ⟨hk.1.2.1, ⟨hk.1.2.2.1, hk.1.2.2.2⟩⟩⟩⟩)⟩, ⟨by (try simp only [hl10_1]); (try simp only [hl10_2]); (with_reducible repeat (first | apply Kd.R_alloc | apply Kd.R_drewN | apply Kd.R_drew)); exact Kd.R_mono HO_237000.out (fun _ hk => ⟨hk.2, ⟨hk.1.1, ⟨hk.1.2.1, ⟨hk.1.2.2.1, hk.1.2.2.2⟩⟩⟩⟩)⟩, ⟨by (try simp only [hl10_1]); (try simp only [hl10_2]); (with_reducible repeat (first | apply Kd.R_alloc | apply Kd.R_drewN | apply Kd.R_drew)); exact Kd.R_mono HO_237001.out (fun _ hk => ⟨hk.2, ⟨hk.1.1, ⟨hk.1.2.1, ⟨hk.1.2.2.1, hk.1.2.2.2⟩⟩⟩⟩)⟩, ⟨by (try simp only [hl10_1]); (try simp only [hl10_2]); (with_reducible repeat (first | apply Kd.R_alloc | apply Kd.R_drewN | apply Kd.R_drew)); exact Kd.R_mono HO_237002.out (fun _ hk => ⟨hk.2, ⟨hk.1.1, ⟨hk.1.2.1, ⟨hk.1.2.2.1, hk.1.2.2.2⟩⟩⟩⟩)⟩, ⟨by (try simp only [hl10_1]); (try simp only [hl10_2]); (with_reducible repeat (first | apply Kd.S_alloc | apply Kd.S_drewN | apply Kd.S_drew)); exact Kd.S_mono HO_237003.out (fun _ hk => ⟨hk.2, ⟨hk.1.1, ⟨hk.1.2.1, ⟨hk.1.2.2.1, ⟨hk.1.2.2.2.1, hk.1.2.2.2.2⟩⟩⟩⟩⟩)⟩, ⟨by (try simp only [hl10_1]); (try simp only [hl10_2]); (with_reducible repeat (first | refine blk_drewN ?_ _ | refine blk_drew ?_ | refine blk_alloc ?_ _)); exact BK226.out⟩, ⟨by (try simp only [hl10_1]); (try simp only [hl10_2]); (with_reducible repeat (first | refine blk_drewN ?_ _ | refine blk_drew ?_ | refine blk_alloc ?_ _)); exact BK236.out⟩, ⟨by repeat (first | (with_reducible first | exact HB.out | apply below_alloc | apply pw_below_drewN | apply below_drew1 | refine below_set ?_ GE226.out | refine below_set ?_ GE236.out) | exact HB.out)⟩⟩
                     ·rw [if_neg c99] at H
                      exact absurd H (by simp)
                    ·rw [if_neg c98] at H
                     exact absurd H (by simp)
                  ·rw [if_neg c83] at H
                   have c83b0 : decide ((rd x10_2 (ji80)) < 0) = false := decide_eq_false c83
                   clear c83
                   by_cases c110 : (rd x8_2 (rd l2 x45_2)) ≥ 0
                   ·rw [if_pos c110] at H
                    have c110b0 : decide (0 ≤ (rd x8_2 (rd l2 x45_2))) = true := decide_eq_true c110
                    clear c110
                    by_cases c111 : (rd l2 x45_2) < (x237002_2.length : Int)
                    ·rw [if_pos c111] at H
                     have c111b0 : decide ((rd l2 x45_2) < (x237002_2.length : Int)) = true := decide_eq_true c111
                     clear c111
                     obtain ⟨y280, hy280⟩ : ∃ y_ : List Int, y_ = (x237002_2.set ((rd l2 x45_2) : Int).toNat (wrap64 ((rd x237002_2 (rd l2 x45_2)) + 1))) := ⟨_, rfl⟩
                     replace H : (impl_board.l1 k2 a0 a1 l2 x8_2 x9_2 x10_2 x11_2 x12_1 l2 (l2.length : Int) (wrap64 (x45_2 + 1)) x237000_2 x237001_2 y280 x237003_1) = some (r1, r2, r3, r4) := by first | (rw [hy280]; with_reducible exact H) | (have H2_ := (Option.bind_some _ _).symm.trans H; rw [hy280]; with_reducible exact H2_) | (have H2_ := (Option.bind_some _ _).symm.trans H; with_reducible exact H2_) | with_reducible exact H | (rw [hy280]; exact H) | exact H
                     have Ny280 := Aside0.mk hy280
                     clear hy280
                     have H' := Aside0.mk H
                     clear H
                     have p264 : 0 ≤ (x45_2 : Int) := of_decide_eq_true (by first | (with_reducible assumption) | assumption)
                     have q264 : x45_2 < (l2.length : Int) := of_decide_eq_true (by first | (with_reducible assumption) | assumption)
                     (try (have qm264 := q264; rw [HMHR2.out] at qm264; replace qm264 := eq_true qm264))
                     obtain ⟨ad264, e264, hx264_0⟩ := Kd.at_int HR2.out x45_2 p264 q264
                     cases e264
                     replace hx264_0 := (HB.out.cell (World.block_lt_of_cell? w _ hx264_0)).trans hx264_0
                     replace p264 := eq_true p264
                     replace q264 := eq_true q264
                     obtain ⟨Ao113, co113, eo113⟩ := Kd.R_slice HO_8.out
                     subst eo113
                     have p265 : 0 ≤ ((rd l2 x45_2) : Int) := of_decide_eq_true (by first | (with_reducible assumption) | assumption)
                     have q265 : (rd l2 x45_2) < (x8_2.length : Int) := of_decide_eq_true (by first | (with_reducible assumption) | assumption)
                     obtain ⟨ad265, e265, hx265_0⟩ := Kd.at_int (Kd.R_reads' HO_8.out).2.2 (rd l2 x45_2) p265 q265
                     cases e265
                     replace p265 := eq_true p265
                     replace q265 := eq_true q265
                     have p272 : 0 ≤ ((ji80) : Int) := of_decide_eq_true (by first | (with_reducible assumption) | assumption)
                     have q272 : (ji80) < (x10_2.length : Int) := of_decide_eq_true (by first | (with_reducible assumption) | assumption)
                     obtain ⟨ad272, e272, hx272_0⟩ := Kd.at_int (Kd.R_reads' HO_10.out).2.2 (ji80) p272 q272
                     cases e272
                     replace p272 := eq_true p272
                     replace q272 := eq_true q272
                     have hnb114 := NB236_226.out
                     have hnc114 := NB226_236.out
                     have hcz115_0 : wr.cell? ⟨gb236, 0, none⟩ = some (u237000) := (blk_cell BK236.out 0).trans rfl
                     have hcz115_1 : wr.cell? ⟨gb236, 1, none⟩ = some (u237001) := (blk_cell BK236.out 1).trans rfl
                     have hcz115_2 : wr.cell? ⟨gb236, 2, none⟩ = some (u237002) := (blk_cell BK236.out 2).trans rfl
                     have hcz115_3 : wr.cell? ⟨gb236, 3, none⟩ = some (u237003) := (blk_cell BK236.out 3).trans rfl
                     have hfz115_0 := blk_frozen BK236.out 0
                     have hfz115_1 := blk_frozen BK236.out 1
                     have hfz115_2 := blk_frozen BK236.out 2
                     have hfz115_3 := blk_frozen BK236.out 3
                     obtain ⟨Ao116, co116, eo116⟩ := Kd.R_slice HO_237002.out
                     subst eo116
                     have p279 : 0 ≤ ((rd l2 x45_2) : Int) := of_decide_eq_true (by first | (with_reducible assumption) | assumption)
                     have q279 : (rd l2 x45_2) < (x237002_2.length : Int) := of_decide_eq_true (by first | (with_reducible assumption) | assumption)
                     obtain ⟨ad279, e279, hx279_0⟩ := Kd.at_int (Kd.R_reads' HO_237002.out).2.2 (rd l2 x45_2) p279 q279
                     cases e279
                     replace p279 := eq_true p279
                     replace q279 := eq_true q279
                     have p112 : 0 ≤ ((rd l2 x45_2) : Int) := of_decide_eq_true (by first | (with_reducible assumption) | assumption)
                     have q112 : ((rd l2 x45_2) : Int) < ((x237002_2.length : Int) : Int) := of_decide_eq_true (by first | (with_reducible assumption) | assumption)
                     obtain ⟨go112, co112, eo112, gb112, gl112, cl112, HG112⟩ := Kd.R_form HO_237002.out (by omega)
                     (first | cases eo112 | (injection eo112 with ea_ en_ ec_; (first | subst ea_ | (injection ea_ with ea_; subst ea_)); subst ec_; clear en_))
                     have GB112 := Aside0.mk gb112
                     have GG112 := Aside0.mk HG112
                     clear gb112 gl112 HG112
                     (first | simp only [add_plain] at hx279_0 | skip)
                     obtain ⟨hx112_0, hf112_0⟩ := Kd.R_celln 0 HO_237002.out ((rd l2 x45_2) : Int) p112 q112
                     replace p112 := eq_true p112
                     replace q112 := eq_true q112
                     have HP117 := Kd.R_putg HO_237002.out ((rd l2 x45_2) : Int) (wrap64 ((rd x237002_2 (rd l2 x45_2)) + 1))
                     go_wp2_with (first | ((with_reducible refine gate_store (t := 3) (p := 123) rfl ?_); refine store_event (t := 3) (p := 123) (v := ?vo_w118) (w1 := (wr.setCell ⟨go112, ((rd l2 x45_2) : Int).toNat, none⟩ (.int .i64 (wrap64 ((rd x237002_2 (rd l2 x45_2)) + 1))))) ?hg ?ho ?hn ?hr ?_; (case ho => rfl); (case hg => rfl); (case hn => rfl); (case hr => first | (go_simp; done) | (go_simp; rfl)); intro w118 hw; have hg : wr.grownBy w118 (some go112) := (by rw [hw]; exact HP117.2); have hp_ : Kd.R (Kd.int .i64) 3 w118 w.heap.size (fun k_ => some k_ ≠ (.slice (some ad265) x8_2.length co113 : Value).ownBlock ∧ some k_ ≠ (v244 : Value).ownBlock ∧ some k_ ≠ (.slice (some ad272) x10_2.length co44 : Value).ownBlock ∧ some k_ ≠ (u237000 : Value).ownBlock ∧ some k_ ≠ (u237001 : Value).ownBlock) (.slice (some ⟨go112, 0, none⟩) x237002_2.length co116) y280 := (by rw [hw, Ny280.out]; exact HP117.1); clear HP117; have n0_ := Aside0.mk (Kd.R_after (v := (.slice (some ⟨go112, 0, none⟩) x237002_2.length co116)) (v1 := (.slice (some ⟨go112, 0, none⟩) x237002_2.length co116)) (ok := (fun k_ => some k_ ≠ (v244 : Value).ownBlock ∧ some k_ ≠ (.slice (some ad272) x10_2.length co44 : Value).ownBlock ∧ some k_ ≠ (u237000 : Value).ownBlock ∧ some k_ ≠ (u237001 : Value).ownBlock)) (by (with_reducible repeat (first | apply Kd.R_alloc | apply Kd.R_drewN | apply Kd.R_drew)); exact Kd.R_mono HO_8.out (fun _ hk => ⟨⟨hk.1, ⟨hk.2.1, ⟨hk.2.2.1, hk.2.2.2.1⟩⟩⟩, hk.2.2.2.2⟩)) hg (.inl rfl)); have n1_ := Aside0.mk (Kd.R_after (v := (.slice (some ⟨go112, 0, none⟩) x237002_2.length co116)) (v1 := (.slice (some ⟨go112, 0, none⟩) x237002_2.length co116)) (ok := (fun k_ => some k_ ≠ (.slice (some ad265) x8_2.length co113 : Value).ownBlock ∧ some k_ ≠ (.slice (some ad272) x10_2.length co44 : Value).ownBlock ∧ some k_ ≠ (u237000 : Value).ownBlock ∧ some k_ ≠ (u237001 : Value).ownBlock)) (by (with_reducible repeat (first | apply Kd.R_alloc | apply Kd.R_drewN | apply Kd.R_drew)); exact Kd.R_mono HO_9.out (fun _ hk => ⟨⟨hk.1, ⟨hk.2.1, ⟨hk.2.2.1, hk.2.2.2.1⟩⟩⟩, hk.2.2.2.2⟩)) hg (.inl rfl)); have n2_ := Aside0.mk (Kd.R_after (v := (.slice (some ⟨go112, 0, none⟩) x237002_2.length co116)) (v1 := (.slice (some ⟨go112, 0, none⟩) x237002_2.length co116)) (ok := (fun k_ => some k_ ≠ (.slice (some ad265) x8_2.length co113 : Value).ownBlock ∧ some k_ ≠ (v244 : Value).ownBlock ∧ some k_ ≠ (u237000 : Value).ownBlock ∧ some k_ ≠ (u237001 : Value).ownBlock)) (by (with_reducible repeat (first | apply Kd.R_alloc | apply Kd.R_drewN | apply Kd.R_drew)); exact Kd.R_mono HO_10.out (fun _ hk => ⟨⟨hk.1, ⟨hk.2.1, ⟨hk.2.2.1, hk.2.2.2.1⟩⟩⟩, hk.2.2.2.2⟩)) hg (.inl rfl)); have n3_ := Aside0.mk (Kd.R_after (v := (.slice (some ⟨go112, 0, none⟩) x237002_2.length co116)) (v1 := (.slice (some ⟨go112, 0, none⟩) x237002_2.length co116)) (ok := (fun k_ => some k_ ≠ (.slice (some ad265) x8_2.length co113 : Value).ownBlock ∧ some k_ ≠ (v244 : Value).ownBlock ∧ some k_ ≠ (.slice (some ad272) x10_2.length co44 : Value).ownBlock ∧ some k_ ≠ (u237001 : Value).ownBlock)) (by (with_reducible repeat (first | apply Kd.R_alloc | apply Kd.R_drewN | apply Kd.R_drew)); exact Kd.R_mono HO_237000.out (fun _ hk => ⟨⟨hk.1, ⟨hk.2.1, ⟨hk.2.2.1, hk.2.2.2.1⟩⟩⟩, hk.2.2.2.2⟩)) hg (.inl rfl)); have n4_ := Aside0.mk (Kd.R_after (v := (.slice (some ⟨go112, 0, none⟩) x237002_2.length co116)) (v1 := (.slice (some ⟨go112, 0, none⟩) x237002_2.length co116)) (ok := (fun k_ => some k_ ≠ (.slice (some ad265) x8_2.length co113 : Value).ownBlock ∧ some k_ ≠ (v244 : Value).ownBlock ∧ some k_ ≠ (.slice (some ad272) x10_2.length co44 : Value).ownBlock ∧ some k_ ≠ (u237000 : Value).ownBlock)) (by (with_reducible repeat (first | apply Kd.R_alloc | apply Kd.R_drewN | apply Kd.R_drew)); exact Kd.R_mono HO_237001.out (fun _ hk => ⟨⟨hk.1, ⟨hk.2.1, ⟨hk.2.2.1, hk.2.2.2.1⟩⟩⟩, hk.2.2.2.2⟩)) hg (.inl rfl)); have n5_ := Aside0.mk (hp_); have n6_ := Aside0.mk (Kd.S_after (v := (.slice (some ⟨go112, 0, none⟩) x237002_2.length co116)) (v1 := (.slice (some ⟨go112, 0, none⟩) x237002_2.length co116)) (ok := (fun k_ => some k_ ≠ (.slice (some ad265) x8_2.length co113 : Value).ownBlock ∧ some k_ ≠ (v244 : Value).ownBlock ∧ some k_ ≠ (.slice (some ad272) x10_2.length co44 : Value).ownBlock ∧ some k_ ≠ (u237000 : Value).ownBlock ∧ some k_ ≠ (u237001 : Value).ownBlock)) (by (with_reducible repeat (first | apply Kd.S_alloc | apply Kd.S_drewN | apply Kd.S_drew)); exact Kd.S_mono HO_237003.out (fun _ hk => ⟨⟨hk.1, ⟨hk.2.1, ⟨hk.2.2.1, ⟨hk.2.2.2.1, hk.2.2.2.2.1⟩⟩⟩⟩, hk.2.2.2.2.2⟩)) hg (.inl rfl)); have n7_ := Aside0.mk (blk_grown (g := gb226) (o := .cells #[.slice none 0 0, .slice none 0 0, .slice none 0 0, .slice none 0 0] 79 (0, 0)) (by (with_reducible repeat (first | refine blk_drewN ?_ _ | refine blk_drew ?_ | refine blk_alloc ?_ _)); exact BK226.out) hg (Kd.R_ne HO_237002.out BK226.out (by decide))); have n8_ := Aside0.mk (blk_grown (g := gb236) (o := .cells #[u237000, u237001, .slice (some ⟨go112, 0, none⟩) x237002_2.length co116, u237003] 79 (0, 0)) (by (with_reducible repeat (first | refine blk_drewN ?_ _ | refine blk_drew ?_ | refine blk_alloc ?_ _)); exact BK236.out) hg (Kd.R_ne HO_237002.out BK236.out (by decide))); have n9_ := Aside0.mk ((by rw [hw]; exact below_set (HB.out) GB112.out : Below w.heap.size w w118)); clear HO_8; clear HO_9; clear HO_10; clear HO_237000; clear HO_237001; clear HO_237002; clear HO_237003; clear BK226; clear BK236; clear HB; have HO_8 := n0_; have HO_9 := n1_; have HO_10 := n2_; have HO_237000 := n3_; have HO_237001 := n4_; have HO_237002 := n5_; have HO_237003 := n6_; have BK226 := n7_; have BK236 := n8_; have HB := n9_; clear n0_ n1_ n2_ n3_ n4_ n5_ n6_ n7_ n8_ n9_; clear hg hw hp_))
                     (try simp only [← hl10_2])
                     first | go_roundg k2 | (simp only [← hji80] at H' ⊢; go_roundg k2)
                     case measure => have := HK1.out; have := HK2.out; omega
                     case rel => exact ⟨(x8_2), (x9_2), (x10_2), (x11_2), (wrap64 (x45_2 + 1)), (x237000_2), (x237001_2), (y280), (u237000), (u237001), (.slice (some ⟨go112, 0, none⟩) x237002_2.length co116), (by first | rfl | (simp; done) | (simp [*]; done) | (simp [wrap64]; done) | (simp [*, wrap64]; done)), (by first | rfl | (simp; done) | (simp [*]; done) | (simp [wrap64]; done) | (simp [*, wrap64]; done)), H', ⟨by have := HK1.out; have := HK2.out; omega⟩, ⟨by (try simp only [hl10_1]); (try simp only [hl10_2]); (with_reducible repeat (first | apply Kd.R_alloc | apply Kd.R_drewN | apply Kd.R_drew)); exact Kd.R_mono HO_8.out (fun _ hk => ⟨hk.1.1, ⟨hk.1.2.1, ⟨hk.1.2.2.1, ⟨hk.1.2.2.2, hk.2⟩⟩⟩⟩)⟩, ⟨by (try simp only [hl10_1]); (try simp only [hl10_2]); (with_reducible repeat (first | apply Kd.R_alloc | apply Kd.R_drewN | apply Kd.R_drew)); exact Kd.R_mono HO_9.out (fun _ hk => ⟨hk.1.1, ⟨hk.1.2.1, ⟨hk.1.2.2.1, ⟨hk.1.2.2.2, hk.2⟩⟩⟩⟩)⟩, ⟨by (try simp only [hl10_1]); (try simp only [hl10_2]); (with_reducible repeat (first | apply Kd.R_alloc | apply Kd.R_drewN | apply Kd.R_drew)); exact Kd.R_mono HO_10.out (fun _ hk => ⟨hk.1.1, ⟨hk.1.2.1, ⟨hk.1.2.2.1, ⟨hk.1.2.2.2, hk.2⟩⟩⟩⟩)⟩, ⟨by (try simp only [hl10_1]); (try simp only [hl10_2]); (with_reducible repeat (first | apply Kd.R_alloc | apply Kd.R_drewN | apply Kd.R_drew)); exact Kd.R_mono HO_237000.out (fun _ hk => ⟨hk.1.1, ⟨hk.1.2.1, ⟨hk.1.2.2.1, ⟨hk.1.2.2.2, hk.2⟩⟩⟩⟩)⟩, ⟨by (try simp only [hl10_1]); (try simp only [hl10_2]); (with_reducible repeat (first | apply Kd.R_alloc | apply Kd.R_drewN | apply Kd.R_drew)); exact Kd.R_mono HO_237001.out (fun _ hk => ⟨hk.1.1, ⟨hk.1.2.1, ⟨hk.1.2.2.1, ⟨hk.1.2.2.2, hk.2⟩⟩⟩⟩)⟩, ⟨by (try simp only [hl10_1]); (try simp only [hl10_2]); (with_reducible repeat (first | apply Kd.R_alloc | apply Kd.R_drewN | apply Kd.R_drew)); exact HO_237002.out⟩, ⟨by (try simp only [hl10_1]); (try simp only [hl10_2]); (with_reducible repeat (first | apply Kd.S_alloc | apply Kd.S_drewN | apply Kd.S_drew)); exact Kd.S_mono HO_237003.out (fun _ hk => ⟨hk.1.1, ⟨hk.1.2.1, ⟨hk.1.2.2.1, ⟨hk.1.2.2.2.1, ⟨hk.1.2.2.2.2, hk.2⟩⟩⟩⟩⟩)⟩, ⟨by (try simp only [hl10_1]); (try simp only [hl10_2]); (with_reducible repeat (first | refine blk_drewN ?_ _ | refine blk_drew ?_ | refine blk_alloc ?_ _)); exact BK226.out⟩, ⟨by (try simp only [hl10_1]); (try simp only [hl10_2]); (with_reducible repeat (first | refine blk_drewN ?_ _ | refine blk_drew ?_ | refine blk_alloc ?_ _)); exact BK236.out⟩, ⟨by repeat (first | (with_reducible first | exact HB.out | apply below_alloc | apply pw_below_drewN | apply below_drew1 | refine below_set ?_ GE226.out | refine below_set ?_ GE236.out) | exact HB.out)⟩⟩
                    ·rw [if_neg c111] at H
                     exact absurd H (by simp)
                   ·rw [if_neg c110] at H
                    have c110b0 : decide (0 ≤ (rd x8_2 (rd l2 x45_2))) = false := decide_eq_false c110
                    clear c110
                    have H' := Aside0.mk H
                    clear H
                    have p264 : 0 ≤ (x45_2 : Int) := of_decide_eq_true (by first | (with_reducible assumption) | assumption)
                    have q264 : x45_2 < (l2.length : Int) := of_decide_eq_true (by first | (with_reducible assumption) | assumption)
                    (try (have qm264 := q264; rw [HMHR2.out] at qm264; replace qm264 := eq_true qm264))
                    obtain ⟨ad264, e264, hx264_0⟩ := Kd.at_int HR2.out x45_2 p264 q264
                    cases e264
                    replace hx264_0 := (HB.out.cell (World.block_lt_of_cell? w _ hx264_0)).trans hx264_0
                    replace p264 := eq_true p264
                    replace q264 := eq_true q264
                    obtain ⟨Ao119, co119, eo119⟩ := Kd.R_slice HO_8.out
                    subst eo119
                    have p265 : 0 ≤ ((rd l2 x45_2) : Int) := of_decide_eq_true (by first | (with_reducible assumption) | assumption)
                    have q265 : (rd l2 x45_2) < (x8_2.length : Int) := of_decide_eq_true (by first | (with_reducible assumption) | assumption)
                    obtain ⟨ad265, e265, hx265_0⟩ := Kd.at_int (Kd.R_reads' HO_8.out).2.2 (rd l2 x45_2) p265 q265
                    cases e265
                    replace p265 := eq_true p265
                    replace q265 := eq_true q265
                    have p272 : 0 ≤ ((ji80) : Int) := of_decide_eq_true (by first | (with_reducible assumption) | assumption)
                    have q272 : (ji80) < (x10_2.length : Int) := of_decide_eq_true (by first | (with_reducible assumption) | assumption)
                    obtain ⟨ad272, e272, hx272_0⟩ := Kd.at_int (Kd.R_reads' HO_10.out).2.2 (ji80) p272 q272
                    cases e272
                    replace p272 := eq_true p272
                    replace q272 := eq_true q272
                    go_wp2
                    (try simp only [← hl10_2])
                    first | go_roundg k2 | (simp only [← hji80] at H' ⊢; go_roundg k2)
                    case measure => have := HK1.out; have := HK2.out; omega
                    case rel => exact ⟨(x8_2), (x9_2), (x10_2), (x11_2), (wrap64 (x45_2 + 1)), (x237000_2), (x237001_2), (x237002_2), (u237000), (u237001), (u237002), (by first | rfl | (simp; done) | (simp [*]; done) | (simp [wrap64]; done) | (simp [*, wrap64]; done)), (by first | rfl | (simp; done) | (simp [*]; done) | (simp [wrap64]; done) | (simp [*, wrap64]; done)), H', ⟨by have := HK1.out; have := HK2.out; omega⟩, ⟨by (try simp only [hl10_1]); (try simp only [hl10_2]); (with_reducible repeat (first | apply Kd.R_alloc | apply Kd.R_drewN | apply Kd.R_drew)); exact HO_8.out⟩, ⟨by (try simp only [hl10_1]); (try simp only [hl10_2]); (with_reducible repeat (first | apply Kd.R_alloc | apply Kd.R_drewN | apply Kd.R_drew)); exact HO_9.out⟩, ⟨by (try simp only [hl10_1]); (try simp only [hl10_2]); (with_reducible repeat (first | apply Kd.R_alloc | apply Kd.R_drewN | apply Kd.R_drew)); exact HO_10.out⟩, ⟨by (try simp only [hl10_1]); (try simp only [hl10_2]); (with_reducible repeat (first | apply Kd.R_alloc | apply Kd.R_drewN | apply Kd.R_drew)); exact HO_237000.out⟩, ⟨by (try simp only [hl10_1]); (try simp only [hl10_2]); (with_reducible repeat (first | apply Kd.R_alloc | apply Kd.R_drewN | apply Kd.R_drew)); exact HO_237001.out⟩, ⟨by (try simp only [hl10_1]); (try simp only [hl10_2]); (with_reducible repeat (first | apply Kd.R_alloc | apply Kd.R_drewN | apply Kd.R_drew)); exact HO_237002.out⟩, ⟨by (try simp only [hl10_1]); (try simp only [hl10_2]); (with_reducible repeat (first | apply Kd.S_alloc | apply Kd.S_drewN | apply Kd.S_drew)); exact HO_237003.out⟩, ⟨by (try simp only [hl10_1]); (try simp only [hl10_2]); (with_reducible repeat (first | refine blk_drewN ?_ _ | refine blk_drew ?_ | refine blk_alloc ?_ _)); exact BK226.out⟩, ⟨by (try simp only [hl10_1]); (try simp only [hl10_2]); (with_reducible repeat (first | refine blk_drewN ?_ _ | refine blk_drew ?_ | refine blk_alloc ?_ _)); exact BK236.out⟩, ⟨by repeat (first | (with_reducible first | exact HB.out | apply below_alloc | apply pw_below_drewN | apply below_drew1 | refine below_set ?_ GE226.out | refine below_set ?_ GE236.out) | exact HB.out)⟩⟩
                 ·rw [if_neg c82] at H
                  exact absurd H (by simp)
                ·rw [if_neg c81] at H
                 exact absurd H (by simp)
             ·rw [if_neg c55] at H
              exact absurd H (by simp)
            ·rw [if_neg c54] at H
             exact absurd H (by simp)
           ·rw [if_neg c53] at H
            exact absurd H (by simp)
          ·rw [if_neg c52] at H
           exact absurd H (by simp)
         ·rw [if_neg c51] at H
          have c51b0 : decide (x45_2 < (l2.length : Int)) = false := decide_eq_false c51
          clear c51
          replace H := Option.bind_eq_some_iff.mp H
          obtain ⟨t258, A1200, H⟩ := H
          replace H : (if x237003_1.length < 5864062014805 then (impl_board.l0 k2 a0 a1 l2 x8_2 x9_2 x10_2 x11_2 (wrap64 (x12_1 + 1)) x237000_2 x237001_2 x237002_2 (x237003_1 ++ [t258])) else (none)) = some (r1, r2, r3, r4) := H
          have A120 := Aside0.mk A1200
          clear A1200
          by_cases c121 : x237003_1.length < 5864062014805
          ·rw [if_pos c121] at H
           have LMc121 := Aside0.mk c121
           clear c121
           obtain ⟨y261, hy261⟩ : ∃ y_ : List (List Int), y_ = (x237003_1 ++ [t258]) := ⟨_, rfl⟩
           replace H : (impl_board.l0 k2 a0 a1 l2 x8_2 x9_2 x10_2 x11_2 (wrap64 (x12_1 + 1)) x237000_2 x237001_2 x237002_2 y261) = some (r1, r2, r3, r4) := by first | (rw [hy261]; with_reducible exact H) | (have H2_ := (Option.bind_some _ _).symm.trans H; rw [hy261]; with_reducible exact H2_) | (have H2_ := (Option.bind_some _ _).symm.trans H; with_reducible exact H2_) | with_reducible exact H | (rw [hy261]; exact H) | exact H
           have Ny261 := Aside0.mk hy261
           clear hy261
           have H' := Aside0.mk H
           clear H
           try go_wp2
           have n0_ := Aside0.mk (Kd.R_drew HO_8.out)
           have n1_ := Aside0.mk (Kd.R_drew HO_9.out)
           have n2_ := Aside0.mk (Kd.R_drew HO_10.out)
           have n3_ := Aside0.mk (Kd.R_drew HO_237000.out)
           have n4_ := Aside0.mk (Kd.R_drew HO_237001.out)
           have n5_ := Aside0.mk (Kd.R_drew HO_237002.out)
           have n6_ := Aside0.mk (Kd.S_drew HO_237003.out)
           have n7_ := Aside0.mk (blk_drew BK226.out)
           have n8_ := Aside0.mk (blk_drew BK236.out)
           have n9_ := Aside0.mk (below_drew1 HB.out)
           clear HO_8
           clear HO_9
           clear HO_10
           clear HO_237000
           clear HO_237001
           clear HO_237002
           clear HO_237003
           clear BK226
           clear BK236
           clear HB
           have HO_8 := n0_
           have HO_9 := n1_
           have HO_10 := n2_
           have HO_237000 := n3_
           have HO_237001 := n4_
           have HO_237002 := n5_
           have HO_237003 := n6_
           have BK226 := n7_
           have BK236 := n8_
           have HB := n9_
           clear n0_ n1_ n2_ n3_ n4_ n5_ n6_ n7_ n8_ n9_
           refine start_ (n := 8) (S := fun w' => w'.cell? ⟨gb236, 0, none⟩ = some (u237000) ∧ w'.cell? ⟨gb236, 1, none⟩ = some (u237001) ∧ w'.cell? ⟨gb236, 2, none⟩ = some (u237002) ∧ w'.cell? ⟨gb236, 3, none⟩ = some (u237003)) (ds := [7]) #[false, false, false, false, false, false, false, false] (by kernel_rfl) rfl rfl ⟨(blk_cell BK236.out 0).trans rfl, (blk_cell BK236.out 1).trans rfl, (blk_cell BK236.out 2).trans rfl, (blk_cell BK236.out 3).trans rfl⟩ (fun hHeld => ?_); refine with_tabW impl_board.tab26 impl_board.bits26 (fun HT_ HW_ => ?_)
           generalize wr.drew = w122 at HO_8 HO_9 HO_10 HO_237000 HO_237001 HO_237002 HO_237003 BK226 BK236 HB hHeld ⊢
           refine pure_ (i := 0) (N := some 125) (v := ?_) (a' := ?_) #[true, false, false, false, false, false, false, false] rfl rfl (any_of HT_.out (by kernel_rfl)) (fun _ _ _ h => h) (Or.inl ⟨by rfl, ?_⟩) ?_ ?_
           rotate_left
           ·intro w'
            go_simp
            with_reducible rfl
           rotate_left
           ·simp only [Act.put, List.setIfInBounds_toArray, List.set_cons_zero, List.set_cons_succ, i64_w, i32_w]
            rfl
           refine pure_ (i := 2) (N := some 127) (v := ?_) (a' := ?_) #[true, false, true, false, false, false, false, false] rfl rfl (any_of HT_.out (by kernel_rfl)) (fun _ _ _ h => h) (Or.inl ⟨by rfl, ?_⟩) ?_ ?_
           rotate_left
           ·intro w'
            go_simp
            with_reducible rfl
           rotate_left
           ·simp only [Act.put, List.setIfInBounds_toArray, List.set_cons_zero, List.set_cons_succ, i64_w, i32_w]
            rfl
           refine take_ (i := 1) (N := some 126) (v := ?_) (a' := ?_) #[true, true, true, false, false, false, false, false] rfl rfl (take_ofW HT_.out HW_.out (by kernel_rfl)) (fun _ _ _ h => h) (Or.inl ⟨by rfl, ?_⟩) hHeld ?_ ?_
           rotate_left
           ·rintro w' ⟨s0, s1, s2, s3⟩
            go_simp
            with_reducible rfl
           rotate_left
           ·simp only [Act.put, List.setIfInBounds_toArray, List.set_cons_zero, List.set_cons_succ, i64_w, i32_w]
            rfl
           refine one_ (i := 3) (N := some 128) #[true, true, true, true, false, false, false, false] rfl rfl (one_of HT_.out (by kernel_rfl)) (by decide) (fun K hK => ?_)
           refine goes_ Try.func76 (by kernel_rfl) rfl #[.slice Ao44 x10_2.length co44] (by rfl) rfl rfl (by (try simp only [List.map_toArray, List.map_cons, List.map_nil]); first | done | rfl | (simp only [List.length_drop, List.length_take]; rfl)) ?_
           with_reducible refine (slices_Clone_int_int.calls _ _ x10_2 t258 _ ?side1 ?side2 A120.out).mono ?_
           (case side1 => repeat (first | exact (Kd.R_reads' HO_10.out).2.2 | (with_reducible refine Kd.C_alloc ?_ _) | (with_reducible refine Kd.C_drewN ?_ _) | (with_reducible refine Kd.C_drew ?_)))
           (case side2 => exact (Kd.R_reads' HO_10.out).2.1)
           rintro e w123 ⟨v259, rfl, ho0, hb⟩
           refine ⟨_, rfl, ?_⟩
           have n0_ := Aside0.mk (Kd.R_elder' (by (with_reducible repeat (first | apply Kd.R_alloc | apply Kd.R_drewN | apply Kd.R_drew)); exact HO_8.out) (Kd.R_base ho0) hb)
           have n1_ := Aside0.mk (Kd.R_elder' (by (with_reducible repeat (first | apply Kd.R_alloc | apply Kd.R_drewN | apply Kd.R_drew)); exact HO_9.out) (Kd.R_base ho0) hb)
           have n2_ := Aside0.mk (Kd.R_elder' (by (with_reducible repeat (first | apply Kd.R_alloc | apply Kd.R_drewN | apply Kd.R_drew)); exact HO_10.out) (Kd.R_base ho0) hb)
           have n3_ := Aside0.mk (Kd.R_elder' (by (with_reducible repeat (first | apply Kd.R_alloc | apply Kd.R_drewN | apply Kd.R_drew)); exact HO_237000.out) (Kd.R_base ho0) hb)
           have n4_ := Aside0.mk (Kd.R_elder' (by (with_reducible repeat (first | apply Kd.R_alloc | apply Kd.R_drewN | apply Kd.R_drew)); exact HO_237001.out) (Kd.R_base ho0) hb)
           have n5_ := Aside0.mk (Kd.R_elder' (by (with_reducible repeat (first | apply Kd.R_alloc | apply Kd.R_drewN | apply Kd.R_drew)); exact HO_237002.out) (Kd.R_base ho0) hb)
           have n6_ := Aside0.mk (Kd.S_elder' (by (with_reducible repeat (first | apply Kd.S_alloc | apply Kd.S_drewN | apply Kd.S_drew)); exact HO_237003.out) (Kd.R_base ho0) hb)
           have n7_ := Aside0.mk (Kd.R_lower (Kd.R_new' (Kd.R_new' (Kd.R_new' (Kd.R_new' (Kd.R_new' (Kd.R_new' ho0 (Kd.R_lt (by (with_reducible repeat (first | apply Kd.R_alloc | apply Kd.R_drewN | apply Kd.R_drew)); exact HO_8.out))) (Kd.R_lt (by (with_reducible repeat (first | apply Kd.R_alloc | apply Kd.R_drewN | apply Kd.R_drew)); exact HO_9.out))) (Kd.R_lt (by (with_reducible repeat (first | apply Kd.R_alloc | apply Kd.R_drewN | apply Kd.R_drew)); exact HO_10.out))) (Kd.R_lt (by (with_reducible repeat (first | apply Kd.R_alloc | apply Kd.R_drewN | apply Kd.R_drew)); exact HO_237000.out))) (Kd.R_lt (by (with_reducible repeat (first | apply Kd.R_alloc | apply Kd.R_drewN | apply Kd.R_drew)); exact HO_237001.out))) (Kd.R_lt (by (with_reducible repeat (first | apply Kd.R_alloc | apply Kd.R_drewN | apply Kd.R_drew)); exact HO_237002.out))) (below_size (by repeat (first | (with_reducible first | exact HB.out | apply below_alloc | apply pw_below_drewN | apply below_drew1 | refine below_set ?_ GE226.out | refine below_set ?_ GE236.out) | exact HB.out))))
           have n8_ := Aside0.mk (blk_below (g := gb226) (o := .cells #[.slice none 0 0, .slice none 0 0, .slice none 0 0, .slice none 0 0] 79 (0, 0)) (by (with_reducible repeat (first | refine blk_drewN ?_ _ | refine blk_drew ?_ | refine blk_alloc ?_ _)); exact BK226.out) hb)
           have n9_ := Aside0.mk (blk_below (g := gb236) (o := .cells #[u237000, u237001, u237002, u237003] 79 (0, 0)) (by (with_reducible repeat (first | refine blk_drewN ?_ _ | refine blk_drew ?_ | refine blk_alloc ?_ _)); exact BK236.out) hb)
           have n10_ := Aside0.mk (below_step (by repeat (first | (with_reducible first | exact HB.out | apply below_alloc | apply pw_below_drewN | apply below_drew1 | refine below_set ?_ GE226.out | refine below_set ?_ GE236.out) | exact HB.out)) hb)
           clear HO_8
           clear HO_9
           clear HO_10
           clear HO_237000
           clear HO_237001
           clear HO_237002
           clear HO_237003
           clear BK226
           clear BK236
           clear HB
           have HO_8 := n0_
           have HO_9 := n1_
           have HO_10 := n2_
           have HO_237000 := n3_
           have HO_237001 := n4_
           have HO_237002 := n5_
           have HO_237003 := n6_
           have HO260 := n7_
           have BK226 := n8_
           have BK236 := n9_
           have HB := n10_
           clear n0_ n1_ n2_ n3_ n4_ n5_ n6_ n7_ n8_ n9_ n10_
           (try clear hb)
           (try clear hb2)
           (try clear hk)
           (try clear hi)
           (try clear ho0)
           obtain ⟨Ao125, co125, eo125⟩ := Kd.R_slice HO260.out
           (first | subst eo125 | (injection eo125 with f1_ f2_ f3_; have f4_ := f1_.symm; have f5_ := f3_.symm; clear f1_ f2_ f3_; subst f4_; subst f5_))
           refine hK.out _ _ ⟨(blk_cell BK236.out 0).trans rfl, (blk_cell BK236.out 1).trans rfl, (blk_cell BK236.out 2).trans rfl, (blk_cell BK236.out 3).trans rfl⟩ (fun hHeld => ?_)
           clear hK K
           refine norm_ (a' := ?_) ?_ ?_
           rotate_left
           ·show Act.put _ (some 128) _ = _
            simp only [Act.put, List.setIfInBounds_toArray, List.set_cons_zero, List.set_cons_succ, i64_w, i32_w]
            rfl
           refine one_ (i := 4) (N := some 129) #[true, true, true, true, true, false, false, false] rfl rfl (one_of HT_.out (by kernel_rfl)) (by decide) (fun K hK => ?_)
           refine value_ (w1 := ?_) (v := ?_) (by rfl) rfl ?_ ?_
           rotate_left 2
           ·go_simp
            constructor
            ·rfl
            ·rfl
           refine hK.out _ _ ⟨(blk_cell (blk_alloc BK236.out _) 0).trans rfl, (blk_cell (blk_alloc BK236.out _) 1).trans rfl, (blk_cell (blk_alloc BK236.out _) 2).trans rfl, (blk_cell (blk_alloc BK236.out _) 3).trans rfl⟩ (fun hHeld => ?_)
           clear hK K
           refine norm_ (a' := ?_) ?_ ?_
           rotate_left
           ·show Act.put _ (some 129) _ = _
            simp only [Act.put, List.setIfInBounds_toArray, List.set_cons_zero, List.set_cons_succ, i64_w, i32_w]
            rfl
           refine one_ (i := 5) (N := some 130) #[true, true, true, true, true, true, false, false] rfl rfl (one_of HT_.out (by kernel_rfl)) (by decide) (fun K hK => ?_)
           refine Kd.S_append_step (Kd.slice 3 (Kd.int .i64)) (w0 := w) w.heap.size (by rfl) (.tmp 126) (.tmp 129) 46 25 (.slice none 0 0) 24 rfl Try.underlying46 info25 rfl (by decide) (by omega) u237003 x237003_1 t258 [.slice Ao125 t258.length co125] (fun k_ => some k_ ≠ (v241 : Value).ownBlock ∧ some k_ ≠ (v244 : Value).ownBlock ∧ some k_ ≠ (.slice Ao44 x10_2.length co44 : Value).ownBlock ∧ some k_ ≠ (u237000 : Value).ownBlock ∧ some k_ ≠ (u237001 : Value).ownBlock ∧ some k_ ≠ (u237002 : Value).ownBlock) (fun k_ => some k_ = (.slice Ao125 t258.length co125 : Value).ownBlock) rfl rfl ?aP (fun k_ hk_ => ((Kd.R_mono (ok' := fun k_ => ((fun k_ => some k_ ≠ (v241 : Value).ownBlock ∧ some k_ ≠ (v244 : Value).ownBlock ∧ some k_ ≠ (.slice Ao44 x10_2.length co44 : Value).ownBlock ∧ some k_ ≠ (u237000 : Value).ownBlock ∧ some k_ ≠ (u237001 : Value).ownBlock ∧ some k_ ≠ (u237002 : Value).ownBlock)) k_ ∧ some k_ ≠ (u237003 : Value).ownBlock) (Kd.R_apart' (HO260.out) (Kd.S_typed HO_237003.out) (by decide)) (fun k_ hk => ⟨⟨hk.1.1.1.1.1.1.2, ⟨hk.1.1.1.1.1.2, ⟨hk.1.1.1.1.2, ⟨hk.1.1.1.2, ⟨hk.1.1.2, hk.1.2⟩⟩⟩⟩⟩, hk.2⟩))).1 k_ hk_.symm) ?aF ?aO ?aB ?aS ?aL ?_
           (case aP => exact Kd.M_row (Kd.R_mono (Kd.R_tight rfl (Kd.R_mono (ok' := fun k_ => ((fun k_ => some k_ ≠ (v241 : Value).ownBlock ∧ some k_ ≠ (v244 : Value).ownBlock ∧ some k_ ≠ (.slice Ao44 x10_2.length co44 : Value).ownBlock ∧ some k_ ≠ (u237000 : Value).ownBlock ∧ some k_ ≠ (u237001 : Value).ownBlock ∧ some k_ ≠ (u237002 : Value).ownBlock)) k_ ∧ some k_ ≠ (u237003 : Value).ownBlock) (Kd.R_apart' (HO260.out) (Kd.S_typed HO_237003.out) (by decide)) (fun k_ hk => ⟨⟨hk.1.1.1.1.1.1.2, ⟨hk.1.1.1.1.1.2, ⟨hk.1.1.1.1.2, ⟨hk.1.1.1.2, ⟨hk.1.1.2, hk.1.2⟩⟩⟩⟩⟩, hk.2⟩))) (fun _ h_ => h_)))
           (case aB => exact (by repeat (first | (with_reducible first | exact HB.out | apply below_alloc | apply pw_below_drewN | apply below_drew1 | refine below_set ?_ GE226.out | refine below_set ?_ GE236.out) | exact HB.out)))
           (case aF => exact (fun k_ hk => ⟨Kd.fresh' (Kd.R_lt (by (with_reducible repeat (first | apply Kd.R_alloc | apply Kd.R_drewN | apply Kd.R_drew)); exact HO_8.out)) k_ hk, Kd.fresh' (Kd.R_lt (by (with_reducible repeat (first | apply Kd.R_alloc | apply Kd.R_drewN | apply Kd.R_drew)); exact HO_9.out)) k_ hk, Kd.fresh' (Kd.R_lt (by (with_reducible repeat (first | apply Kd.R_alloc | apply Kd.R_drewN | apply Kd.R_drew)); exact HO_10.out)) k_ hk, Kd.fresh' (Kd.R_lt (by (with_reducible repeat (first | apply Kd.R_alloc | apply Kd.R_drewN | apply Kd.R_drew)); exact HO_237000.out)) k_ hk, Kd.fresh' (Kd.R_lt (by (with_reducible repeat (first | apply Kd.R_alloc | apply Kd.R_drewN | apply Kd.R_drew)); exact HO_237001.out)) k_ hk, Kd.fresh' (Kd.R_lt (by (with_reducible repeat (first | apply Kd.R_alloc | apply Kd.R_drewN | apply Kd.R_drew)); exact HO_237002.out)) k_ hk⟩))
           (case aO => exact (by (with_reducible repeat (first | apply Kd.S_alloc | apply Kd.S_drewN | apply Kd.S_drew)); exact Kd.S_mono HO_237003.out (fun k_ hk => ⟨⟨hk.1.1, ⟨hk.1.2.1, ⟨hk.1.2.2.1, ⟨hk.1.2.2.2.1, ⟨hk.1.2.2.2.2.1, hk.1.2.2.2.2.2⟩⟩⟩⟩⟩, fun e_ => hk.2 e_⟩)))
           (case aS => exact (below_size (by repeat (first | (with_reducible first | exact HB.out | apply below_alloc | apply pw_below_drewN | apply below_drew1 | refine below_set ?_ GE226.out | refine below_set ?_ GE236.out) | exact HB.out))))
           (case aL => have := LMc121.out; omega)
           intro v262 w124 ho hb hg hat
           rw [← Ny261.out] at ho
           have n0_ := Aside0.mk (Kd.R_over' (by (with_reducible repeat (first | apply Kd.R_alloc | apply Kd.R_drewN | apply Kd.R_drew)); exact HO_8.out) (Kd.S_typed (by (with_reducible repeat (first | apply Kd.S_alloc | apply Kd.S_drewN | apply Kd.S_drew)); exact HO_237003.out)) (by decide) hg)
           have n1_ := Aside0.mk (Kd.R_over' (by (with_reducible repeat (first | apply Kd.R_alloc | apply Kd.R_drewN | apply Kd.R_drew)); exact HO_9.out) (Kd.S_typed (by (with_reducible repeat (first | apply Kd.S_alloc | apply Kd.S_drewN | apply Kd.S_drew)); exact HO_237003.out)) (by decide) hg)
           have n2_ := Aside0.mk (Kd.R_over' (by (with_reducible repeat (first | apply Kd.R_alloc | apply Kd.R_drewN | apply Kd.R_drew)); exact HO_10.out) (Kd.S_typed (by (with_reducible repeat (first | apply Kd.S_alloc | apply Kd.S_drewN | apply Kd.S_drew)); exact HO_237003.out)) (by decide) hg)
           have n3_ := Aside0.mk (Kd.R_over' (by (with_reducible repeat (first | apply Kd.R_alloc | apply Kd.R_drewN | apply Kd.R_drew)); exact HO_237000.out) (Kd.S_typed (by (with_reducible repeat (first | apply Kd.S_alloc | apply Kd.S_drewN | apply Kd.S_drew)); exact HO_237003.out)) (by decide) hg)
           have n4_ := Aside0.mk (Kd.R_over' (by (with_reducible repeat (first | apply Kd.R_alloc | apply Kd.R_drewN | apply Kd.R_drew)); exact HO_237001.out) (Kd.S_typed (by (with_reducible repeat (first | apply Kd.S_alloc | apply Kd.S_drewN | apply Kd.S_drew)); exact HO_237003.out)) (by decide) hg)
           have n5_ := Aside0.mk (Kd.R_over' (by (with_reducible repeat (first | apply Kd.R_alloc | apply Kd.R_drewN | apply Kd.R_drew)); exact HO_237002.out) (Kd.S_typed (by (with_reducible repeat (first | apply Kd.S_alloc | apply Kd.S_drewN | apply Kd.S_drew)); exact HO_237003.out)) (by decide) hg)
           have n6_ := Aside0.mk (blk_grown (g := gb226) (o := .cells #[.slice none 0 0, .slice none 0 0, .slice none 0 0, .slice none 0 0] 79 (0, 0)) (by (with_reducible repeat (first | refine blk_drewN ?_ _ | refine blk_drew ?_ | refine blk_alloc ?_ _)); exact BK226.out) hg (Kd.S_ne HO_237003.out BK226.out (by decide)))
           have n7_ := Aside0.mk (blk_grown (g := gb236) (o := .cells #[u237000, u237001, u237002, u237003] 79 (0, 0)) (by (with_reducible repeat (first | refine blk_drewN ?_ _ | refine blk_drew ?_ | refine blk_alloc ?_ _)); exact BK236.out) hg (Kd.S_ne HO_237003.out BK236.out (by decide)))
           have n8_ := Aside0.mk (hb)
           have n9_ := Aside0.mk (ho)
           clear HO_8
           clear HO_9
           clear HO_10
           clear HO_237000
           clear HO_237001
           clear HO_237002
           clear BK226
           clear BK236
           clear HB
           clear HO_237003
           clear HO260
           have HO_8 := n0_
           have HO_9 := n1_
           have HO_10 := n2_
           have HO_237000 := n3_
           have HO_237001 := n4_
           have HO_237002 := n5_
           have BK226 := n6_
           have BK236 := n7_
           have HB := n8_
           have HO263 := n9_
           clear n0_ n1_ n2_ n3_ n4_ n5_ n6_ n7_ n8_ n9_
           clear ho hb hg hat
           obtain ⟨Ao126, co126, eo126⟩ := Kd.S_slice HO263.out
           (first | subst eo126 | (injection eo126 with f1_ f2_ f3_; have f4_ := f1_.symm; have f5_ := f3_.symm; clear f1_ f2_ f3_; subst f4_; subst f5_))
           refine hK.out _ _ ⟨(blk_cell BK236.out 0).trans rfl, (blk_cell BK236.out 1).trans rfl, (blk_cell BK236.out 2).trans rfl, (blk_cell BK236.out 3).trans rfl⟩ (fun hHeld => ?_)
           clear hK K
           refine norm_ (a' := ?_) ?_ ?_
           rotate_left
           ·show Act.put _ (some 130) _ = _
            simp only [Act.put, List.setIfInBounds_toArray, List.set_cons_zero, List.set_cons_succ, i64_w, i32_w]
            rfl
           refine pure_ (i := 6) (N := some 131) (v := ?_) (a' := ?_) #[true, true, true, true, true, true, true, false] rfl rfl (any_of HT_.out (by kernel_rfl)) (fun _ _ _ h => h) (Or.inl ⟨by rfl, ?_⟩) ?_ ?_
           rotate_left
           ·intro w'
            go_simp
            with_reducible rfl
           rotate_left
           ·simp only [Act.put, List.setIfInBounds_toArray, List.set_cons_zero, List.set_cons_succ, i64_w, i32_w]
            rfl
           refine last_ (i := 7) (N := none) #[true, true, true, true, true, true, true, true] rfl rfl (one_of HT_.out (by kernel_rfl)) (by decide) (fun K hK => ?_)
           have hs127 : w124.cell? ⟨gb236, 3, none⟩ = some (u237003) := (blk_cell BK236.out 3).trans rfl
           have hfs127 := blk_frozen BK236.out 3
           have hns127_0 := NB226_236.out
           have hms127_0 := NB236_226.out
           refine skip_ (w1 := ?_) (by rfl) rfl ?_ ?_
           rotate_left
           ·go_simp
            rfl
           refine hK.out _ _ ?_
           clear hK K
           refine done_ (done_of HT_.out (by kernel_rfl)) ?_
           try go_wp2
           (try simp only [← hl10_1, ← hl10_2])
           go_roundg k2
           case measure => have := HK1.out; have := HK2.out; omega
           case rel => exact ⟨(x8_2), (x9_2), (x10_2), (x11_2), (wrap64 (x12_1 + 1)), (x237000_2), (x237001_2), (x237002_2), (y261), (u237000), (u237001), (u237002), (.slice Ao126 y261.length co126), (by first | rfl | (simp; done) | (simp [*]; done) | (simp [wrap64]; done) | (simp [*, wrap64]; done)), (by first | rfl | (simp; done) | (simp [*]; done) | (simp [wrap64]; done) | (simp [*, wrap64]; done)), H', ⟨by have := HK1.out; have := HK2.out; omega⟩, ⟨by (try simp only [hl10_1]); (try simp only [hl10_2]); (with_reducible repeat (first | apply Kd.R_alloc | apply Kd.R_drewN | apply Kd.R_drew)); exact Kd.R_mono (Kd.R_far (p := ⟨gb236, 3, none⟩) (Kd.R_types HO_8.out BK236.out (by decide)) (fun _ hk => hk.2) (.slice Ao126 y261.length co126)) (fun _ hk => ⟨hk.1.1.1, ⟨hk.1.1.2.1, ⟨hk.1.1.2.2.1, ⟨hk.1.1.2.2.2.1, hk.1.1.2.2.2.2⟩⟩⟩⟩)⟩, ⟨by (try simp only [hl10_1]); (try simp only [hl10_2]); (with_reducible repeat (first | apply Kd.R_alloc | apply Kd.R_drewN | apply Kd.R_drew)); exact Kd.R_mono (Kd.R_far (p := ⟨gb236, 3, none⟩) (Kd.R_types HO_9.out BK236.out (by decide)) (fun _ hk => hk.2) (.slice Ao126 y261.length co126)) (fun _ hk => ⟨hk.1.1.1, ⟨hk.1.1.2.1, ⟨hk.1.1.2.2.1, ⟨hk.1.1.2.2.2.1, hk.1.1.2.2.2.2⟩⟩⟩⟩)⟩, ⟨by (try simp only [hl10_1]); (try simp only [hl10_2]); (with_reducible repeat (first | apply Kd.R_alloc | apply Kd.R_drewN | apply Kd.R_drew)); exact Kd.R_mono (Kd.R_far (p := ⟨gb236, 3, none⟩) (Kd.R_types HO_10.out BK236.out (by decide)) (fun _ hk => hk.2) (.slice Ao126 y261.length co126)) (fun _ hk => ⟨hk.1.1.1, ⟨hk.1.1.2.1, ⟨hk.1.1.2.2.1, ⟨hk.1.1.2.2.2.1, hk.1.1.2.2.2.2⟩⟩⟩⟩)⟩, ⟨by (try simp only [hl10_1]); (try simp only [hl10_2]); (with_reducible repeat (first | apply Kd.R_alloc | apply Kd.R_drewN | apply Kd.R_drew)); exact Kd.R_mono (Kd.R_far (p := ⟨gb236, 3, none⟩) (Kd.R_types HO_237000.out BK236.out (by decide)) (fun _ hk => hk.2) (.slice Ao126 y261.length co126)) (fun _ hk => ⟨hk.1.1.1, ⟨hk.1.1.2.1, ⟨hk.1.1.2.2.1, ⟨hk.1.1.2.2.2.1, hk.1.1.2.2.2.2⟩⟩⟩⟩)⟩, ⟨by (try simp only [hl10_1]); (try simp only [hl10_2]); (with_reducible repeat (first | apply Kd.R_alloc | apply Kd.R_drewN | apply Kd.R_drew)); exact Kd.R_mono (Kd.R_far (p := ⟨gb236, 3, none⟩) (Kd.R_types HO_237001.out BK236.out (by decide)) (fun _ hk => hk.2) (.slice Ao126 y261.length co126)) (fun _ hk => ⟨hk.1.1.1, ⟨hk.1.1.2.1, ⟨hk.1.1.2.2.1, ⟨hk.1.1.2.2.2.1, hk.1.1.2.2.2.2⟩⟩⟩⟩)⟩, ⟨by (try simp only [hl10_1]); (try simp only [hl10_2]); (with_reducible repeat (first | apply Kd.R_alloc | apply Kd.R_drewN | apply Kd.R_drew)); exact Kd.R_mono (Kd.R_far (p := ⟨gb236, 3, none⟩) (Kd.R_types HO_237002.out BK236.out (by decide)) (fun _ hk => hk.2) (.slice Ao126 y261.length co126)) (fun _ hk => ⟨hk.1.1.1, ⟨hk.1.1.2.1, ⟨hk.1.1.2.2.1, ⟨hk.1.1.2.2.2.1, hk.1.1.2.2.2.2⟩⟩⟩⟩)⟩, ⟨by (try simp only [hl10_1]); (try simp only [hl10_2]); (with_reducible repeat (first | apply Kd.S_alloc | apply Kd.S_drewN | apply Kd.S_drew)); exact Kd.S_mono (Kd.S_far (p := ⟨gb236, 3, none⟩) (Kd.S_types HO263.out BK236.out (by decide)) (fun _ hk => hk.2) (.slice Ao126 y261.length co126)) (fun _ hk => ⟨hk.1.1, ⟨hk.1.2.1, ⟨hk.1.2.2.1, ⟨hk.1.2.2.2.1, ⟨hk.1.2.2.2.2.1, hk.1.2.2.2.2.2⟩⟩⟩⟩⟩)⟩, ⟨by (try simp only [hl10_1]); (try simp only [hl10_2]); (with_reducible repeat (first | refine blk_drewN ?_ _ | refine blk_drew ?_ | refine blk_alloc ?_ _)); refine blk_far ?_ NB226_236.out _; (with_reducible repeat (first | refine blk_drewN ?_ _ | refine blk_drew ?_ | refine blk_alloc ?_ _)); exact BK226.out⟩, ⟨by (try simp only [hl10_1]); (try simp only [hl10_2]); (with_reducible repeat (first | refine blk_drewN ?_ _ | refine blk_drew ?_ | refine blk_alloc ?_ _)); refine blk_put (cs := #[u237000, u237001, u237002, u237003]) ?_ 3 _ rfl; (with_reducible repeat (first | refine blk_drewN ?_ _ | refine blk_drew ?_ | refine blk_alloc ?_ _)); exact BK236.out⟩, ⟨by repeat (first | (with_reducible first | exact HB.out | apply below_alloc | apply pw_below_drewN | apply below_drew1 | refine below_set ?_ GE226.out | refine below_set ?_ GE236.out) | exact HB.out)⟩⟩
          ·rw [if_neg c121] at H
           exact absurd H (by simp)
      ·rw [if_neg c50] at H
       have c50b0 : decide (0 < x11_1) = false := decide_eq_false c50
       clear c50
       simp only [Option.some.injEq, Prod.mk.injEq] at H
       obtain ⟨rfl, rfl, rfl, rfl⟩ := H
       have hnb128 := NB236_226.out
       have hnc128 := NB226_236.out
       have hcz129_0 : wr.cell? ⟨gb236, 0, none⟩ = some (u237000) := (blk_cell BK236.out 0).trans rfl
       have hcz129_1 : wr.cell? ⟨gb236, 1, none⟩ = some (u237001) := (blk_cell BK236.out 1).trans rfl
       have hcz129_2 : wr.cell? ⟨gb236, 2, none⟩ = some (u237002) := (blk_cell BK236.out 2).trans rfl
       have hcz129_3 : wr.cell? ⟨gb236, 3, none⟩ = some (u237003) := (blk_cell BK236.out 3).trans rfl
       have hfz129_0 := blk_frozen BK236.out 0
       have hfz129_1 := blk_frozen BK236.out 1
       have hfz129_2 := blk_frozen BK236.out 2
       have hfz129_3 := blk_frozen BK236.out 3
       obtain ⟨Ao130, co130, eo130⟩ := Kd.R_slice HO_237000.out
       subst eo130
       have hcz131_0 : wr.cell? ⟨gb226, 0, none⟩ = some (.slice none 0 0) := (blk_cell BK226.out 0).trans rfl
       have hcz131_1 : wr.cell? ⟨gb226, 1, none⟩ = some (.slice none 0 0) := (blk_cell BK226.out 1).trans rfl
       have hcz131_2 : wr.cell? ⟨gb226, 2, none⟩ = some (.slice none 0 0) := (blk_cell BK226.out 2).trans rfl
       have hcz131_3 : wr.cell? ⟨gb226, 3, none⟩ = some (.slice none 0 0) := (blk_cell BK226.out 3).trans rfl
       have hfz131_0 := blk_frozen BK226.out 0
       have hfz131_1 := blk_frozen BK226.out 1
       have hfz131_2 := blk_frozen BK226.out 2
       have hfz131_3 := blk_frozen BK226.out 3
       obtain ⟨Ao132, co132, eo132⟩ := Kd.R_slice HO_237001.out
       subst eo132
       obtain ⟨Ao133, co133, eo133⟩ := Kd.R_slice HO_237002.out
       subst eo133
       obtain ⟨Ao134, co134, eo134⟩ := Kd.S_slice HO_237003.out
       subst eo134
       go_wp2
       refine bodyPost_ret (results_cell_row rfl _ _ gb226 79 #[.slice Ao130 x237000_1.length co130, .slice Ao132 x237001_1.length co132, .slice Ao133 x237002_1.length co133, .slice Ao134 x237003_1.length co134] (0, 0) _ rfl (by (with_reducible repeat (first | refine blk_drewN ?_ _ | refine blk_drew ?_ | refine blk_alloc ?_ _)); refine blk_put (cs := #[.slice Ao130 x237000_1.length co130, .slice Ao132 x237001_1.length co132, .slice Ao133 x237002_1.length co133, .slice none 0 0]) ?_ 3 _ rfl; (with_reducible repeat (first | refine blk_drewN ?_ _ | refine blk_drew ?_ | refine blk_alloc ?_ _)); refine blk_put (cs := #[.slice Ao130 x237000_1.length co130, .slice Ao132 x237001_1.length co132, .slice none 0 0, .slice none 0 0]) ?_ 2 _ rfl; (with_reducible repeat (first | refine blk_drewN ?_ _ | refine blk_drew ?_ | refine blk_alloc ?_ _)); refine blk_put (cs := #[.slice Ao130 x237000_1.length co130, .slice none 0 0, .slice none 0 0, .slice none 0 0]) ?_ 1 _ rfl; (with_reducible repeat (first | refine blk_drewN ?_ _ | refine blk_drew ?_ | refine blk_alloc ?_ _)); refine blk_put (cs := #[.slice none 0 0, .slice none 0 0, .slice none 0 0, .slice none 0 0]) ?_ 0 _ rfl; (with_reducible repeat (first | refine blk_drewN ?_ _ | refine blk_drew ?_ | refine blk_alloc ?_ _)); exact BK226.out) Try.underlying79 rfl (by kernel_rfl)) rfl ?_
       exact ⟨_, _, _, _, by first | rfl | (simp [errW_none, errW_some] <;> rfl) | (simp [*, errW_none, errW_some] <;> rfl), by (with_reducible repeat (first | apply Kd.R_alloc | apply Kd.R_drewN | apply Kd.R_drew)); exact Kd.R_mono (Kd.R_far (p := ⟨gb226, 3, none⟩) (Kd.R_far (p := ⟨gb226, 2, none⟩) (Kd.R_far (p := ⟨gb226, 1, none⟩) (Kd.R_far (p := ⟨gb226, 0, none⟩) (Kd.R_types HO_237000.out BK226.out (by decide)) (fun _ hk => hk.2) (.slice Ao130 x237000_1.length co130)) (fun _ hk => hk.2) (.slice Ao132 x237001_1.length co132)) (fun _ hk => hk.2) (.slice Ao133 x237002_1.length co133)) (fun _ hk => hk.2) (.slice Ao134 x237003_1.length co134)) (fun _ hk => ⟨hk.1.2.2.2.1, hk.1.2.2.2.2⟩), by (with_reducible repeat (first | apply Kd.R_alloc | apply Kd.R_drewN | apply Kd.R_drew)); exact Kd.R_mono (Kd.R_far (p := ⟨gb226, 3, none⟩) (Kd.R_far (p := ⟨gb226, 2, none⟩) (Kd.R_far (p := ⟨gb226, 1, none⟩) (Kd.R_far (p := ⟨gb226, 0, none⟩) (Kd.R_types HO_237001.out BK226.out (by decide)) (fun _ hk => hk.2) (.slice Ao130 x237000_1.length co130)) (fun _ hk => hk.2) (.slice Ao132 x237001_1.length co132)) (fun _ hk => hk.2) (.slice Ao133 x237002_1.length co133)) (fun _ hk => hk.2) (.slice Ao134 x237003_1.length co134)) (fun _ hk => ⟨hk.1.2.2.2.1, hk.1.2.2.2.2⟩), by (with_reducible repeat (first | apply Kd.R_alloc | apply Kd.R_drewN | apply Kd.R_drew)); exact Kd.R_mono (Kd.R_far (p := ⟨gb226, 3, none⟩) (Kd.R_far (p := ⟨gb226, 2, none⟩) (Kd.R_far (p := ⟨gb226, 1, none⟩) (Kd.R_far (p := ⟨gb226, 0, none⟩) (Kd.R_types HO_237002.out BK226.out (by decide)) (fun _ hk => hk.2) (.slice Ao130 x237000_1.length co130)) (fun _ hk => hk.2) (.slice Ao132 x237001_1.length co132)) (fun _ hk => hk.2) (.slice Ao133 x237002_1.length co133)) (fun _ hk => hk.2) (.slice Ao134 x237003_1.length co134)) (fun _ hk => ⟨hk.1.2.2.2.1, hk.1.2.2.2.2⟩), by (with_reducible repeat (first | apply Kd.S_alloc | apply Kd.S_drewN | apply Kd.S_drew)); exact Kd.S_mono (Kd.S_far (p := ⟨gb226, 3, none⟩) (Kd.S_far (p := ⟨gb226, 2, none⟩) (Kd.S_far (p := ⟨gb226, 1, none⟩) (Kd.S_far (p := ⟨gb226, 0, none⟩) (Kd.S_types HO_237003.out BK226.out (by decide)) (fun _ hk => hk.2) (.slice Ao130 x237000_1.length co130)) (fun _ hk => hk.2) (.slice Ao132 x237001_1.length co132)) (fun _ hk => hk.2) (.slice Ao133 x237002_1.length co133)) (fun _ hk => hk.2) (.slice Ao134 x237003_1.length co134)) (fun _ hk => ⟨hk.1.2.2.2.1, ⟨hk.1.2.2.2.2.1, hk.1.2.2.2.2.2⟩⟩), by repeat (first | (with_reducible first | exact HB.out | apply below_alloc | apply pw_below_drewN | apply below_drew1 | refine below_set ?_ GE226.out | refine below_set ?_ GE236.out) | exact HB.out)⟩
   ·rw [if_neg c9] at H
    exact absurd H (by simp)
  ·rw [if_neg c5] at H
   exact absurd H (by simp)
 ·rw [if_neg c4] at H
  exact absurd H (by simp)

end Go.Proofs.Ytoodiahlofeikaa.PFnExactCountBest
