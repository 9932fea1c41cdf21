/- Written by a program of this session (wip/xprint) out of Lean's own print of the given functions: each function as a plain Lean function, and the proof that the call answers it. -/
import Derived.Test.YtoodiahlofeikaaPFnExactCountBestx0
import Derived.Test.YtoodiahlofeikaaPFnExactCountBestx1
import Derived.Test.YtoodiahlofeikaaPFnExactCountBestx2
import Derived.Test.YtoodiahlofeikaaPFnExactCountBestx3
namespace Go.Proofs.Ytoodiahlofeikaa.PFnExactCountBest
open Go.RowKit Go.Proofs.YtoodiahlofeikaaW.PrintWords Go.Proofs.YtoodiahlofeikaaW.PrintLast Go.Proofs.YtoodiahlofeikaaW.PrintMore
attribute [local go_sem] max2_int min2_int max_two min_two max_three min_three max_four min_four   -- for this text's walks alone
set_option linter.unusedVariables false
set_option linter.unusedSimpArgs false

/-! ### spec_l7Run: function 53 -/
mutual
def spec_l7Run.l0 : Nat → Int → Int → List Int → Int → Int → List Int → List Int → List Int → List Int → List Int → List Int → Option (List Int × List Int × List Int × List Int × List Int × List Int)
  | 0, _, _, _, _, _, _, _, _, _, _, _ => none
  | k + 1, x0, x1, x2, x3, x10, x188000, x188001, x188002, x188003, x188004, x188005 => if x3 < 0 then ((spec_l1Has.f k x188004 0).bind fun t188 => (spec_l7Run.j1 k x0 x1 x2 x3 x10 t188 x188000 x188001 x188002 x188003 x188004 x188005)) else (if x10 ≤ x3 then ((spec_l1Has.f k x188004 0).bind fun t189 => (spec_l7Run.j1 k x0 x1 x2 x3 x10 t189 x188000 x188001 x188002 x188003 x188004 x188005)) else (spec_l7Run.j1 k x0 x1 x2 x3 x10 false x188000 x188001 x188002 x188003 x188004 x188005))
def spec_l7Run.j1 : Nat → Int → Int → List Int → Int → Int → Bool → List Int → List Int → List Int → List Int → List Int → List Int → Option (List Int × List Int × List Int × List Int × List Int × List Int)
  | 0, _, _, _, _, _, _, _, _, _, _, _, _ => none
  | k + 1, x0, x1, x2, x3, x10, x25, x188000, x188001, x188002, x188003, x188004, x188005 => if x25 = true then (spec_l7Run.l1 k x0 x1 x2 x3 x10 0 x188000 x188001 x188002 x188003 x188004 x188005) else (some (x188000, x188001, x188002, x188003, x188004, x188005))
def spec_l7Run.l1 : Nat → Int → Int → List Int → Int → Int → Int → List Int → List Int → List Int → List Int → List Int → List Int → Option (List Int × List Int × List Int × List Int × List Int × List Int)
  | 0, _, _, _, _, _, _, _, _, _, _, _, _ => none
  | k + 1, x0, x1, x2, x3, x10, x11, x188000, x188001, x188002, x188003, x188004, x188005 => if x11 < x0 then (if 0 ≤ x11 then (if x11 < (x2.length : Int) then ((spec_l7Act.f x188000 x188001 x188002 x188003 x188004 x188005 (rd x2 x11) x10 x1).bind fun bt191 => (spec_l7Run.l1 k x0 x1 x2 x3 x10 (wrap64 (x11 + 1)) bt191.1 bt191.2.1 bt191.2.2.1 bt191.2.2.2.1 bt191.2.2.2.2.1 bt191.2.2.2.2.2)) else (none)) else (none)) else (spec_l7Run.l0 k x0 x1 x2 x3 (wrap64 (x10 + 1)) x188000 x188001 x188002 x188003 x188004 x188005)
end
def spec_l7Run.f (k : Nat) (a0 : Int) (a1 : Int) (l2 : List Int) (a3 : Int) : Option (List Int × List Int × List Int × List Int × List Int × List Int) := (spec_l7Start.f k a0).bind fun bt169 => (spec_l7Run.l0 k a0 a1 l2 a3 1 bt169.1 bt169.2.1 bt169.2.2.1 bt169.2.2.2.1 bt169.2.2.2.2.1 bt169.2.2.2.2.2)
theorem spec_l7Run.mono_l : ∀ k, (∀ y0 y1 y2 y3 y4 y5 y6 y7 y8 y9 y10, LeO (spec_l7Run.l0 k y0 y1 y2 y3 y4 y5 y6 y7 y8 y9 y10) (spec_l7Run.l0 (k + 1) y0 y1 y2 y3 y4 y5 y6 y7 y8 y9 y10)) ∧ (∀ y0 y1 y2 y3 y4 y5 y6 y7 y8 y9 y10 y11, LeO (spec_l7Run.j1 k y0 y1 y2 y3 y4 y5 y6 y7 y8 y9 y10 y11) (spec_l7Run.j1 (k + 1) y0 y1 y2 y3 y4 y5 y6 y7 y8 y9 y10 y11)) ∧ (∀ y0 y1 y2 y3 y4 y5 y6 y7 y8 y9 y10 y11, LeO (spec_l7Run.l1 k y0 y1 y2 y3 y4 y5 y6 y7 y8 y9 y10 y11) (spec_l7Run.l1 (k + 1) y0 y1 y2 y3 y4 y5 y6 y7 y8 y9 y10 y11))
  | 0 => ⟨fun _ _ _ _ _ _ _ _ _ _ _ r h => by simp [spec_l7Run.l0] at h, fun _ _ _ _ _ _ _ _ _ _ _ _ r h => by simp [spec_l7Run.j1] at h, fun _ _ _ _ _ _ _ _ _ _ _ _ r h => by simp [spec_l7Run.l1] at h⟩
  | k + 1 => by
    obtain ⟨ih0, ih1, ih2⟩ := spec_l7Run.mono_l k
    refine ⟨?_, ?_, ?_⟩
    · intro y0 y1 y2 y3 y4 y5 y6 y7 y8 y9 y10
      unfold spec_l7Run.l0
      repeat' first
      | (with_reducible exact ih0 _ _ _ _ _ _ _ _ _ _ _)
      | (with_reducible exact ih1 _ _ _ _ _ _ _ _ _ _ _ _)
      | (with_reducible exact ih2 _ _ _ _ _ _ _ _ _ _ _ _)
      | (with_reducible exact spec_l1Has.mono _ _ _)
      | (with_reducible exact spec_l7Start.mono _ _)
      | (with_reducible exact LeO.refl _)
      | (with_reducible exact LeO.none _)
      | (with_reducible refine LeO.ite ?_ ?_)
      | (with_reducible refine LeO.bind ?_ (fun _ => ?_))
      | exact ih0 _ _ _ _ _ _ _ _ _ _ _
      | exact ih1 _ _ _ _ _ _ _ _ _ _ _ _
      | exact ih2 _ _ _ _ _ _ _ _ _ _ _ _
      | exact spec_l1Has.mono _ _ _
      | exact spec_l7Start.mono _ _
      | exact LeO.none _
      | refine LeO.ite ?_ ?_
      | refine LeO.bind ?_ (fun _ => ?_)
    · intro y0 y1 y2 y3 y4 y5 y6 y7 y8 y9 y10 y11
      unfold spec_l7Run.j1
      repeat' first
      | (with_reducible exact ih0 _ _ _ _ _ _ _ _ _ _ _)
      | (with_reducible exact ih1 _ _ _ _ _ _ _ _ _ _ _ _)
      | (with_reducible exact ih2 _ _ _ _ _ _ _ _ _ _ _ _)
      | (with_reducible exact spec_l1Has.mono _ _ _)
      | (with_reducible exact spec_l7Start.mono _ _)
      | (with_reducible exact LeO.refl _)
      | (with_reducible exact LeO.none _)
      | (with_reducible refine LeO.ite ?_ ?_)
      | (with_reducible refine LeO.bind ?_ (fun _ => ?_))
      | exact ih0 _ _ _ _ _ _ _ _ _ _ _
      | exact ih1 _ _ _ _ _ _ _ _ _ _ _ _
      | exact ih2 _ _ _ _ _ _ _ _ _ _ _ _
      | exact spec_l1Has.mono _ _ _
      | exact spec_l7Start.mono _ _
      | exact LeO.none _
      | refine LeO.ite ?_ ?_
      | refine LeO.bind ?_ (fun _ => ?_)
    · intro y0 y1 y2 y3 y4 y5 y6 y7 y8 y9 y10 y11
      unfold spec_l7Run.l1
      repeat' first
      | (with_reducible exact ih0 _ _ _ _ _ _ _ _ _ _ _)
      | (with_reducible exact ih1 _ _ _ _ _ _ _ _ _ _ _ _)
      | (with_reducible exact ih2 _ _ _ _ _ _ _ _ _ _ _ _)
      | (with_reducible exact spec_l1Has.mono _ _ _)
      | (with_reducible exact spec_l7Start.mono _ _)
      | (with_reducible exact LeO.refl _)
      | (with_reducible exact LeO.none _)
      | (with_reducible refine LeO.ite ?_ ?_)
      | (with_reducible refine LeO.bind ?_ (fun _ => ?_))
      | exact ih0 _ _ _ _ _ _ _ _ _ _ _
      | exact ih1 _ _ _ _ _ _ _ _ _ _ _ _
      | exact ih2 _ _ _ _ _ _ _ _ _ _ _ _
      | exact spec_l1Has.mono _ _ _
      | exact spec_l7Start.mono _ _
      | exact LeO.none _
      | refine LeO.ite ?_ ?_
      | refine LeO.bind ?_ (fun _ => ?_)
theorem spec_l7Run.mono : ∀ a0 a1 a2 a3 k, LeO (spec_l7Run.f k a0 a1 a2 a3) (spec_l7Run.f (k + 1) a0 a1 a2 a3) := by
  intro a0 a1 a2 a3 k
  obtain ⟨ih0, ih1, ih2⟩ := spec_l7Run.mono_l k
  unfold spec_l7Run.f
  repeat' first
      | (with_reducible exact ih0 _ _ _ _ _ _ _ _ _ _ _)
      | (with_reducible exact ih1 _ _ _ _ _ _ _ _ _ _ _ _)
      | (with_reducible exact ih2 _ _ _ _ _ _ _ _ _ _ _ _)
      | (with_reducible exact spec_l1Has.mono _ _ _)
      | (with_reducible exact spec_l7Start.mono _ _)
      | (with_reducible exact LeO.refl _)
      | (with_reducible exact LeO.none _)
      | (with_reducible refine LeO.ite ?_ ?_)
      | (with_reducible refine LeO.bind ?_ (fun _ => ?_))
      | exact ih0 _ _ _ _ _ _ _ _ _ _ _
      | exact ih1 _ _ _ _ _ _ _ _ _ _ _ _
      | exact ih2 _ _ _ _ _ _ _ _ _ _ _ _
      | exact spec_l1Has.mono _ _ _
      | exact spec_l7Start.mono _ _
      | exact LeO.none _
      | refine LeO.ite ?_ ?_
      | refine LeO.bind ?_ (fun _ => ?_)
def spec_l7Run.T8 : Bool × List (List Nat × List Nat) := (true, [([], []), ([], []), ([], []), ([1, 2], [1, 2]), ([3], [3]), ([], []), ([], []), ([0, 4, 5, 6], [0, 4, 5, 6])])
def spec_l7Run.B8 : List Nat := [0, 0, 0, 6, 14, 0, 0, 127]
theorem spec_l7Run.tab8 : rtab .any (opsOf Try.f53 8) = spec_l7Run.T8 := by kernel_rfl
theorem spec_l7Run.bits8 : waitsOk spec_l7Run.T8.2 spec_l7Run.B8 = true := by kernel_rfl
set_option maxHeartbeats 8000000 in
set_option maxRecDepth 100000 in
theorem spec_l7Run.calls (k : Nat) (a0 : Int) (a1 : Int) (A2 : Option Addr) (c2 : Nat) (l2 : List Int) (a3 : Int) (r1 : List Int) (r2 : List Int) (r3 : List Int) (r4 : List Int) (r5 : List Int) (r6 : List Int) (w : World) (hr2 : Kd.C (Kd.int .i64) w A2 l2.length l2) (hc2 : l2.length ≤ c2) (h : spec_l7Run.f k a0 a1 l2 a3 = some (r1, r2, r3, r4, r5, r6)) :
    Calls Try.prog 53 #[.int .i64 a0, .int .i64 a1, .slice A2 l2.length c2, .int .i64 a3] w fun e w' => ∃ v0_ v1_ v2_ v3_ v4_ v5_ : Value, e = .returned (.agg #[v0_, v1_, v2_, v3_, v4_, v5_]) ∧ Kd.R (Kd.int .i64) 3 w' w.heap.size (fun k_ => some k_ ≠ (v1_ : Value).ownBlock ∧ some k_ ≠ (v2_ : Value).ownBlock ∧ some k_ ≠ (v3_ : Value).ownBlock ∧ some k_ ≠ (v4_ : Value).ownBlock ∧ some k_ ≠ (v5_ : Value).ownBlock) v0_ r1 ∧ Kd.R (Kd.int .i64) 3 w' w.heap.size (fun k_ => some k_ ≠ (v0_ : Value).ownBlock ∧ some k_ ≠ (v2_ : Value).ownBlock ∧ some k_ ≠ (v3_ : Value).ownBlock ∧ some k_ ≠ (v4_ : Value).ownBlock ∧ some k_ ≠ (v5_ : Value).ownBlock) v1_ r2 ∧ Kd.R (Kd.int .i64) 3 w' w.heap.size (fun k_ => some k_ ≠ (v0_ : Value).ownBlock ∧ some k_ ≠ (v1_ : Value).ownBlock ∧ some k_ ≠ (v3_ : Value).ownBlock ∧ some k_ ≠ (v4_ : Value).ownBlock ∧ some k_ ≠ (v5_ : Value).ownBlock) v2_ r3 ∧ Kd.R (Kd.int .i64) 3 w' w.heap.size (fun k_ => some k_ ≠ (v0_ : Value).ownBlock ∧ some k_ ≠ (v1_ : Value).ownBlock ∧ some k_ ≠ (v2_ : Value).ownBlock ∧ some k_ ≠ (v4_ : Value).ownBlock ∧ some k_ ≠ (v5_ : Value).ownBlock) v3_ r4 ∧ Kd.R (Kd.int .i64) 3 w' w.heap.size (fun k_ => some k_ ≠ (v0_ : Value).ownBlock ∧ some k_ ≠ (v1_ : Value).ownBlock ∧ some k_ ≠ (v2_ : Value).ownBlock ∧ some k_ ≠ (v3_ : Value).ownBlock ∧ some k_ ≠ (v5_ : Value).ownBlock) v4_ r5 ∧ Kd.R (Kd.int .i64) 3 w' w.heap.size (fun k_ => some k_ ≠ (v0_ : Value).ownBlock ∧ some k_ ≠ (v1_ : Value).ownBlock ∧ some k_ ≠ (v2_ : Value).ownBlock ∧ some k_ ≠ (v3_ : Value).ownBlock ∧ some k_ ≠ (v4_ : Value).ownBlock) v5_ r6 ∧ Below w.heap.size w w' := by
  have hu73 := Try.underlying73
  have HR2 := Aside0.mk hr2
  have HC2 := Aside0.mk hc2
  clear hr2 hc2
  have HB := Aside0.mk (Below.refl w.heap.size w)
  have H : ((spec_l7Start.f k a0).bind fun bt169 => (spec_l7Run.l0 k a0 a1 l2 a3 1 bt169.1 bt169.2.1 bt169.2.2.1 bt169.2.2.2.1 bt169.2.2.2.2.1 bt169.2.2.2.2.2)) = some (r1, r2, r3, r4, r5, r6) := h
  clear h
  replace H := Option.bind_eq_some_iff.mp H
  obtain ⟨⟨t169, t172, t175, t178, t181, t184⟩, A50, H⟩ := H
  replace H : (spec_l7Run.l0 k a0 a1 l2 a3 1 t169 t172 t175 t178 t181 t184) = some (r1, r2, r3, r4, r5, r6) := H
  have A5 := Aside0.mk A50
  clear A50
  have H' := Aside0.mk H
  clear H
  go_enter Try.func53, Try.ntmps53
  go_wp2_with (first | ((with_reducible refine gate_dst (N := 8) rfl ?_); refine box_event ?hg (N := 8) ?hd (cs := #[.slice none 0 0, .slice none 0 0, .slice none 0 0, .slice none 0 0, .slice none 0 0, .slice none 0 0]) (t := 73) ?hr ?_; (case hd => rfl); (case hg => rfl); (case hr => first | (go_simp; done) | (go_simp; rfl)); intro gb168 hg w6 hbox hb; have n0_ := Aside0.mk (below_step (by repeat (first | (with_reducible first | exact HB.out | apply below_alloc | apply pw_below_drewN | apply below_drew1) | exact HB.out)) hb); have n1_ := Aside0.mk (hbox); have n2_ := Aside0.mk ((by rw [hg]; exact (below_size (by repeat (first | (with_reducible first | exact HB.out | apply below_alloc | apply pw_below_drewN | apply below_drew1) | exact HB.out))) : w.heap.size ≤ gb168)); have n3_ := Aside0.mk ((by rw [hg]; exact (below_size (by repeat (first | (with_reducible first | exact HB.out | apply below_alloc | apply pw_below_drewN | apply below_drew1) | exact HB.out))) : w.heap.size ≤ gb168)); clear HB; have HB := n0_; have BK168 := n1_; have GW168 := n2_; have GE168 := n3_; clear n0_ n1_ n2_ n3_; clear hb hbox hg) | ((with_reducible refine gate_callee (f := 73) rfl ?_); refine goesL_ (some 13) rfl rfl Try.func73 (by kernel_rfl) rfl #[.int .i64 a0] rfl (by (try simp only [List.map_toArray, List.map_cons, List.map_nil]); first | done | rfl | (simp only [List.length_drop, List.length_take]; rfl)) ?_; (with_reducible refine (spec_l7Start.calls k a0 t169 t172 t175 t178 t181 t184 _ A5.out).mono ?_); rintro e w7 ⟨v170, v173, v176, v179, v182, v185, rfl, ho0, ho1, ho2, ho3, ho4, ho5, hb⟩; refine ⟨_, rfl, ?_⟩; have n0_ := Aside0.mk (Kd.R_lower ho0 (below_size (by repeat (first | (with_reducible first | exact HB.out | apply below_alloc | apply pw_below_drewN | apply below_drew1 | refine below_set ?_ GE168.out) | exact HB.out)))); have n1_ := Aside0.mk (Kd.R_lower ho1 (below_size (by repeat (first | (with_reducible first | exact HB.out | apply below_alloc | apply pw_below_drewN | apply below_drew1 | refine below_set ?_ GE168.out) | exact HB.out)))); have n2_ := Aside0.mk (Kd.R_lower ho2 (below_size (by repeat (first | (with_reducible first | exact HB.out | apply below_alloc | apply pw_below_drewN | apply below_drew1 | refine below_set ?_ GE168.out) | exact HB.out)))); have n3_ := Aside0.mk (Kd.R_lower ho3 (below_size (by repeat (first | (with_reducible first | exact HB.out | apply below_alloc | apply pw_below_drewN | apply below_drew1 | refine below_set ?_ GE168.out) | exact HB.out)))); have n4_ := Aside0.mk (Kd.R_lower ho4 (below_size (by repeat (first | (with_reducible first | exact HB.out | apply below_alloc | apply pw_below_drewN | apply below_drew1 | refine below_set ?_ GE168.out) | exact HB.out)))); have n5_ := Aside0.mk (Kd.R_lower ho5 (below_size (by repeat (first | (with_reducible first | exact HB.out | apply below_alloc | apply pw_below_drewN | apply below_drew1 | refine below_set ?_ GE168.out) | exact HB.out)))); have n6_ := Aside0.mk (blk_below (g := gb168) (o := .cells #[.slice none 0 0, .slice none 0 0, .slice none 0 0, .slice none 0 0, .slice none 0 0, .slice none 0 0] 73 (0, 0)) (by (with_reducible repeat (first | refine blk_drewN ?_ _ | refine blk_drew ?_ | refine blk_alloc ?_ _)); exact BK168.out) hb); have n7_ := Aside0.mk (below_step (by repeat (first | (with_reducible first | exact HB.out | apply below_alloc | apply pw_below_drewN | apply below_drew1 | refine below_set ?_ GE168.out) | exact HB.out)) hb); clear BK168; clear HB; have HO171 := n0_; have HO174 := n1_; have HO177 := n2_; have HO180 := n3_; have HO183 := n4_; have HO186 := n5_; have BK168 := n6_; have HB := n7_; clear n0_ n1_ n2_ n3_ n4_ n5_ n6_ n7_; (try clear hb); (try clear hb2); (try clear hk); (try clear hi); (try clear ho0); (try clear ho1); (try clear ho2); (try clear ho3); (try clear ho4); (try clear ho5)) | ((with_reducible refine gate_dst (N := 9) rfl ?_); refine box_event ?hg (N := 9) ?hd (cs := #[.slice none 0 0, .slice none 0 0, .slice none 0 0, .slice none 0 0, .slice none 0 0, .slice none 0 0]) (t := 73) ?hr ?_; (case hd => rfl); (case hg => rfl); (case hr => first | (go_simp; done) | (go_simp; rfl)); intro gb187 hg w8 hbox hb; have n0_ := Aside0.mk (Kd.R_below (by (with_reducible repeat (first | apply Kd.R_alloc | apply Kd.R_drewN | apply Kd.R_drew)); exact HO171.out) hb); have n1_ := Aside0.mk (Kd.R_below (by (with_reducible repeat (first | apply Kd.R_alloc | apply Kd.R_drewN | apply Kd.R_drew)); exact HO174.out) hb); have n2_ := Aside0.mk (Kd.R_below (by (with_reducible repeat (first | apply Kd.R_alloc | apply Kd.R_drewN | apply Kd.R_drew)); exact HO177.out) hb); have n3_ := Aside0.mk (Kd.R_below (by (with_reducible repeat (first | apply Kd.R_alloc | apply Kd.R_drewN | apply Kd.R_drew)); exact HO180.out) hb); have n4_ := Aside0.mk (Kd.R_below (by (with_reducible repeat (first | apply Kd.R_alloc | apply Kd.R_drewN | apply Kd.R_drew)); exact HO183.out) hb); have n5_ := Aside0.mk (Kd.R_below (by (with_reducible repeat (first | apply Kd.R_alloc | apply Kd.R_drewN | apply Kd.R_drew)); exact HO186.out) hb); have n6_ := Aside0.mk (blk_below (g := gb168) (o := .cells #[.slice none 0 0, .slice none 0 0, .slice none 0 0, .slice none 0 0, .slice none 0 0, .slice none 0 0] 73 (0, 0)) (by (with_reducible repeat (first | refine blk_drewN ?_ _ | refine blk_drew ?_ | refine blk_alloc ?_ _)); exact BK168.out) hb); have n7_ := Aside0.mk (below_step (by repeat (first | (with_reducible first | exact HB.out | apply below_alloc | apply pw_below_drewN | apply below_drew1 | refine below_set ?_ GE168.out) | exact HB.out)) hb); have n8_ := Aside0.mk (hbox); have n9_ := Aside0.mk ((by rw [hg]; exact (below_size (by repeat (first | (with_reducible first | exact HB.out | apply below_alloc | apply pw_below_drewN | apply below_drew1 | refine below_set ?_ GE168.out) | exact HB.out))) : w.heap.size ≤ gb187)); have n10_ := Aside0.mk ((by rw [hg]; exact (below_size (by repeat (first | (with_reducible first | exact HB.out | apply below_alloc | apply pw_below_drewN | apply below_drew1 | refine below_set ?_ GE168.out) | exact HB.out))) : w.heap.size ≤ gb187)); have n11_ := Aside0.mk ((by rw [hg]; exact Nat.ne_of_lt (blk_lt (g := gb168) (o := .cells #[.slice none 0 0, .slice none 0 0, .slice none 0 0, .slice none 0 0, .slice none 0 0, .slice none 0 0] 73 (0, 0)) (by (with_reducible repeat (first | refine blk_drewN ?_ _ | refine blk_drew ?_ | refine blk_alloc ?_ _)); exact BK168.out)) : gb168 ≠ gb187)); have n12_ := Aside0.mk ((by rw [hg]; exact Nat.ne_of_gt (blk_lt (g := gb168) (o := .cells #[.slice none 0 0, .slice none 0 0, .slice none 0 0, .slice none 0 0, .slice none 0 0, .slice none 0 0] 73 (0, 0)) (by (with_reducible repeat (first | refine blk_drewN ?_ _ | refine blk_drew ?_ | refine blk_alloc ?_ _)); exact BK168.out)) : gb187 ≠ gb168)); clear HO171; clear HO174; clear HO177; clear HO180; clear HO183; clear HO186; clear BK168; clear HB; have HO171 := n0_; have HO174 := n1_; have HO177 := n2_; have HO180 := n3_; have HO183 := n4_; have HO186 := n5_; have BK168 := n6_; have HB := n7_; have BK187 := n8_; have GW187 := n9_; have GE187 := n10_; have NB168_187 := n11_; have NB187_168 := n12_; clear n0_ n1_ n2_ n3_ n4_ n5_ n6_ n7_ n8_ n9_ n10_ n11_ n12_; clear hb hbox hg; obtain ⟨Ao9, co9, eo9⟩ := Kd.R_slice HO171.out; subst eo9; have hnb10 := NB187_168.out; have hnc10 := NB168_187.out; have hcz11_0 : w8.cell? ⟨gb187, 0, none⟩ = some (.slice none 0 0) := (blk_cell BK187.out 0).trans rfl; have hcz11_1 : w8.cell? ⟨gb187, 1, none⟩ = some (.slice none 0 0) := (blk_cell BK187.out 1).trans rfl; have hcz11_2 : w8.cell? ⟨gb187, 2, none⟩ = some (.slice none 0 0) := (blk_cell BK187.out 2).trans rfl; have hcz11_3 : w8.cell? ⟨gb187, 3, none⟩ = some (.slice none 0 0) := (blk_cell BK187.out 3).trans rfl; have hcz11_4 : w8.cell? ⟨gb187, 4, none⟩ = some (.slice none 0 0) := (blk_cell BK187.out 4).trans rfl; have hcz11_5 : w8.cell? ⟨gb187, 5, none⟩ = some (.slice none 0 0) := (blk_cell BK187.out 5).trans rfl; have hfz11_0 := blk_frozen BK187.out 0; have hfz11_1 := blk_frozen BK187.out 1; have hfz11_2 := blk_frozen BK187.out 2; have hfz11_3 := blk_frozen BK187.out 3; have hfz11_4 := blk_frozen BK187.out 4; have hfz11_5 := blk_frozen BK187.out 5; obtain ⟨Ao12, co12, eo12⟩ := Kd.R_slice HO174.out; subst eo12; obtain ⟨Ao13, co13, eo13⟩ := Kd.R_slice HO177.out; subst eo13; obtain ⟨Ao14, co14, eo14⟩ := Kd.R_slice HO180.out; subst eo14; obtain ⟨Ao15, co15, eo15⟩ := Kd.R_slice HO183.out; subst eo15; obtain ⟨Ao16, co16, eo16⟩ := Kd.R_slice HO186.out; subst eo16))
  go_loopg [10] k (fun kq v10 w' => ∃ (x10_1 : Int) (x188000_1 : List Int) (x188001_1 : List Int) (x188002_1 : List Int) (x188003_1 : List Int) (x188004_1 : List Int) (x188005_1 : List Int) (u188000 : Value) (u188001 : Value) (u188002 : Value) (u188003 : Value) (u188004 : Value) (u188005 : Value), v10 = .int .i64 x10_1 ∧ Aside0 (spec_l7Run.l0 kq a0 a1 l2 a3 x10_1 x188000_1 x188001_1 x188002_1 x188003_1 x188004_1 x188005_1 = some (r1, r2, r3, r4, r5, r6)) ∧ Aside0 (kq ≤ k) ∧ Aside0 (Kd.R (Kd.int .i64) 3 w' w.heap.size (fun k_ => some k_ ≠ (u188001 : Value).ownBlock ∧ some k_ ≠ (u188002 : Value).ownBlock ∧ some k_ ≠ (u188003 : Value).ownBlock ∧ some k_ ≠ (u188004 : Value).ownBlock ∧ some k_ ≠ (u188005 : Value).ownBlock) u188000 x188000_1) ∧ Aside0 (Kd.R (Kd.int .i64) 3 w' w.heap.size (fun k_ => some k_ ≠ (u188000 : Value).ownBlock ∧ some k_ ≠ (u188002 : Value).ownBlock ∧ some k_ ≠ (u188003 : Value).ownBlock ∧ some k_ ≠ (u188004 : Value).ownBlock ∧ some k_ ≠ (u188005 : Value).ownBlock) u188001 x188001_1) ∧ Aside0 (Kd.R (Kd.int .i64) 3 w' w.heap.size (fun k_ => some k_ ≠ (u188000 : Value).ownBlock ∧ some k_ ≠ (u188001 : Value).ownBlock ∧ some k_ ≠ (u188003 : Value).ownBlock ∧ some k_ ≠ (u188004 : Value).ownBlock ∧ some k_ ≠ (u188005 : Value).ownBlock) u188002 x188002_1) ∧ Aside0 (Kd.R (Kd.int .i64) 3 w' w.heap.size (fun k_ => some k_ ≠ (u188000 : Value).ownBlock ∧ some k_ ≠ (u188001 : Value).ownBlock ∧ some k_ ≠ (u188002 : Value).ownBlock ∧ some k_ ≠ (u188004 : Value).ownBlock ∧ some k_ ≠ (u188005 : Value).ownBlock) u188003 x188003_1) ∧ Aside0 (Kd.R (Kd.int .i64) 3 w' w.heap.size (fun k_ => some k_ ≠ (u188000 : Value).ownBlock ∧ some k_ ≠ (u188001 : Value).ownBlock ∧ some k_ ≠ (u188002 : Value).ownBlock ∧ some k_ ≠ (u188003 : Value).ownBlock ∧ some k_ ≠ (u188005 : Value).ownBlock) u188004 x188004_1) ∧ Aside0 (Kd.R (Kd.int .i64) 3 w' w.heap.size (fun k_ => some k_ ≠ (u188000 : Value).ownBlock ∧ some k_ ≠ (u188001 : Value).ownBlock ∧ some k_ ≠ (u188002 : Value).ownBlock ∧ some k_ ≠ (u188003 : Value).ownBlock ∧ some k_ ≠ (u188004 : Value).ownBlock) u188005 x188005_1) ∧ Aside0 (w'.heap[gb168]? = some (.cells #[(.slice none 0 0), (.slice none 0 0), (.slice none 0 0), (.slice none 0 0), (.slice none 0 0), (.slice none 0 0)] 73 (0, 0))) ∧ Aside0 (w'.heap[gb187]? = some (.cells #[u188000, u188001, u188002, u188003, u188004, u188005] 73 (0, 0))) ∧ Aside0 (Below w.heap.size w w'))
  case atStart => exact ⟨(1), (t169), (t172), (t175), (t178), (t181), (t184), (.slice Ao9 t169.length co9), (.slice Ao12 t172.length co12), (.slice Ao13 t175.length co13), (.slice Ao14 t178.length co14), (.slice Ao15 t181.length co15), (.slice Ao16 t184.length co16), (by first | rfl | (simp; done) | (simp [*]; done) | (simp [wrap64]; done) | (simp [*, wrap64]; done)), H', ⟨Nat.le_refl _⟩, ⟨by (with_reducible repeat (first | apply Kd.R_alloc | apply Kd.R_drewN | apply Kd.R_drew)); exact Kd.R_mono (Kd.R_far (p := ⟨gb187, 5, none⟩) (Kd.R_far (p := ⟨gb187, 4, none⟩) (Kd.R_far (p := ⟨gb187, 3, none⟩) (Kd.R_far (p := ⟨gb187, 2, none⟩) (Kd.R_far (p := ⟨gb187, 1, none⟩) (Kd.R_far (p := ⟨gb187, 0, none⟩) (Kd.R_types HO171.out BK187.out (by decide)) (fun _ hk => hk.2) (.slice Ao9 t169.length co9)) (fun _ hk => hk.2) (.slice Ao12 t172.length co12)) (fun _ hk => hk.2) (.slice Ao13 t175.length co13)) (fun _ hk => hk.2) (.slice Ao14 t178.length co14)) (fun _ hk => hk.2) (.slice Ao15 t181.length co15)) (fun _ hk => hk.2) (.slice Ao16 t184.length co16)) (fun _ hk => ⟨hk.1.1, ⟨hk.1.2.1, ⟨hk.1.2.2.1, ⟨hk.1.2.2.2.1, hk.1.2.2.2.2⟩⟩⟩⟩)⟩, ⟨by (with_reducible repeat (first | apply Kd.R_alloc | apply Kd.R_drewN | apply Kd.R_drew)); exact Kd.R_mono (Kd.R_far (p := ⟨gb187, 5, none⟩) (Kd.R_far (p := ⟨gb187, 4, none⟩) (Kd.R_far (p := ⟨gb187, 3, none⟩) (Kd.R_far (p := ⟨gb187, 2, none⟩) (Kd.R_far (p := ⟨gb187, 1, none⟩) (Kd.R_far (p := ⟨gb187, 0, none⟩) (Kd.R_types HO174.out BK187.out (by decide)) (fun _ hk => hk.2) (.slice Ao9 t169.length co9)) (fun _ hk => hk.2) (.slice Ao12 t172.length co12)) (fun _ hk => hk.2) (.slice Ao13 t175.length co13)) (fun _ hk => hk.2) (.slice Ao14 t178.length co14)) (fun _ hk => hk.2) (.slice Ao15 t181.length co15)) (fun _ hk => hk.2) (.slice Ao16 t184.length co16)) (fun _ hk => ⟨hk.1.1, ⟨hk.1.2.1, ⟨hk.1.2.2.1, ⟨hk.1.2.2.2.1, hk.1.2.2.2.2⟩⟩⟩⟩)⟩, ⟨by (with_reducible repeat (first | apply Kd.R_alloc | apply Kd.R_drewN | apply Kd.R_drew)); exact Kd.R_mono (Kd.R_far (p := ⟨gb187, 5, none⟩) (Kd.R_far (p := ⟨gb187, 4, none⟩) (Kd.R_far (p := ⟨gb187, 3, none⟩) (Kd.R_far (p := ⟨gb187, 2, none⟩) (Kd.R_far (p := ⟨gb187, 1, none⟩) (Kd.R_far (p := ⟨gb187, 0, none⟩) (Kd.R_types HO177.out BK187.out (by decide)) (fun _ hk => hk.2) (.slice Ao9 t169.length co9)) (fun _ hk => hk.2) (.slice Ao12 t172.length co12)) (fun _ hk => hk.2) (.slice Ao13 t175.length co13)) (fun _ hk => hk.2) (.slice Ao14 t178.length co14)) (fun _ hk => hk.2) (.slice Ao15 t181.length co15)) (fun _ hk => hk.2) (.slice Ao16 t184.length co16)) (fun _ hk => ⟨hk.1.1, ⟨hk.1.2.1, ⟨hk.1.2.2.1, ⟨hk.1.2.2.2.1, hk.1.2.2.2.2⟩⟩⟩⟩)⟩, ⟨by (with_reducible repeat (first | apply Kd.R_alloc | apply Kd.R_drewN | apply Kd.R_drew)); exact Kd.R_mono (Kd.R_far (p := ⟨gb187, 5, none⟩) (Kd.R_far (p := ⟨gb187, 4, none⟩) (Kd.R_far (p := ⟨gb187, 3, none⟩) (Kd.R_far (p := ⟨gb187, 2, none⟩) (Kd.R_far (p := ⟨gb187, 1, none⟩) (Kd.R_far (p := ⟨gb187, 0, none⟩) (Kd.R_types HO180.out BK187.out (by decide)) (fun _ hk => hk.2) (.slice Ao9 t169.length co9)) (fun _ hk => hk.2) (.slice Ao12 t172.length co12)) (fun _ hk => hk.2) (.slice Ao13 t175.length co13)) (fun _ hk => hk.2) (.slice Ao14 t178.length co14)) (fun _ hk => hk.2) (.slice Ao15 t181.length co15)) (fun _ hk => hk.2) (.slice Ao16 t184.length co16)) (fun _ hk => ⟨hk.1.1, ⟨hk.1.2.1, ⟨hk.1.2.2.1, ⟨hk.1.2.2.2.1, hk.1.2.2.2.2⟩⟩⟩⟩)⟩, ⟨by (with_reducible repeat (first | apply Kd.R_alloc | apply Kd.R_drewN | apply Kd.R_drew)); exact Kd.R_mono (Kd.R_far (p := ⟨gb187, 5, none⟩) (Kd.R_far (p := ⟨gb187, 4, none⟩) (Kd.R_far (p := ⟨gb187, 3, none⟩) (Kd.R_far (p := ⟨gb187, 2, none⟩) (Kd.R_far (p := ⟨gb187, 1, none⟩) (Kd.R_far (p := ⟨gb187, 0, none⟩) (Kd.R_types HO183.out BK187.out (by decide)) (fun _ hk => hk.2) (.slice Ao9 t169.length co9)) (fun _ hk => hk.2) (.slice Ao12 t172.length co12)) (fun _ hk => hk.2) (.slice Ao13 t175.length co13)) (fun _ hk => hk.2) (.slice Ao14 t178.length co14)) (fun _ hk => hk.2) (.slice Ao15 t181.length co15)) (fun _ hk => hk.2) (.slice Ao16 t184.length co16)) (fun _ hk => ⟨hk.1.1, ⟨hk.1.2.1, ⟨hk.1.2.2.1, ⟨hk.1.2.2.2.1, hk.1.2.2.2.2⟩⟩⟩⟩)⟩, ⟨by (with_reducible repeat (first | apply Kd.R_alloc | apply Kd.R_drewN | apply Kd.R_drew)); exact Kd.R_mono (Kd.R_far (p := ⟨gb187, 5, none⟩) (Kd.R_far (p := ⟨gb187, 4, none⟩) (Kd.R_far (p := ⟨gb187, 3, none⟩) (Kd.R_far (p := ⟨gb187, 2, none⟩) (Kd.R_far (p := ⟨gb187, 1, none⟩) (Kd.R_far (p := ⟨gb187, 0, none⟩) (Kd.R_types HO186.out BK187.out (by decide)) (fun _ hk => hk.2) (.slice Ao9 t169.length co9)) (fun _ hk => hk.2) (.slice Ao12 t172.length co12)) (fun _ hk => hk.2) (.slice Ao13 t175.length co13)) (fun _ hk => hk.2) (.slice Ao14 t178.length co14)) (fun _ hk => hk.2) (.slice Ao15 t181.length co15)) (fun _ hk => hk.2) (.slice Ao16 t184.length co16)) (fun _ hk => ⟨hk.1.1, ⟨hk.1.2.1, ⟨hk.1.2.2.1, ⟨hk.1.2.2.2.1, hk.1.2.2.2.2⟩⟩⟩⟩)⟩, ⟨by (with_reducible repeat (first | refine blk_drewN ?_ _ | refine blk_drew ?_ | refine blk_alloc ?_ _)); refine blk_far ?_ NB168_187.out _; (with_reducible repeat (first | refine blk_drewN ?_ _ | refine blk_drew ?_ | refine blk_alloc ?_ _)); refine blk_far ?_ NB168_187.out _; (with_reducible repeat (first | refine blk_drewN ?_ _ | refine blk_drew ?_ | refine blk_alloc ?_ _)); refine blk_far ?_ NB168_187.out _; (with_reducible repeat (first | refine blk_drewN ?_ _ | refine blk_drew ?_ | refine blk_alloc ?_ _)); refine blk_far ?_ NB168_187.out _; (with_reducible repeat (first | refine blk_drewN ?_ _ | refine blk_drew ?_ | refine blk_alloc ?_ _)); refine blk_far ?_ NB168_187.out _; (with_reducible repeat (first | refine blk_drewN ?_ _ | refine blk_drew ?_ | refine blk_alloc ?_ _)); refine blk_far ?_ NB168_187.out _; (with_reducible repeat (first | refine blk_drewN ?_ _ | refine blk_drew ?_ | refine blk_alloc ?_ _)); exact BK168.out⟩, ⟨by (with_reducible repeat (first | refine blk_drewN ?_ _ | refine blk_drew ?_ | refine blk_alloc ?_ _)); refine blk_put (cs := #[.slice Ao9 t169.length co9, .slice Ao12 t172.length co12, .slice Ao13 t175.length co13, .slice Ao14 t178.length co14, .slice Ao15 t181.length co15, .slice none 0 0]) ?_ 5 _ rfl; (with_reducible repeat (first | refine blk_drewN ?_ _ | refine blk_drew ?_ | refine blk_alloc ?_ _)); refine blk_put (cs := #[.slice Ao9 t169.length co9, .slice Ao12 t172.length co12, .slice Ao13 t175.length co13, .slice Ao14 t178.length co14, .slice none 0 0, .slice none 0 0]) ?_ 4 _ rfl; (with_reducible repeat (first | refine blk_drewN ?_ _ | refine blk_drew ?_ | refine blk_alloc ?_ _)); refine blk_put (cs := #[.slice Ao9 t169.length co9, .slice Ao12 t172.length co12, .slice Ao13 t175.length co13, .slice none 0 0, .slice none 0 0, .slice none 0 0]) ?_ 3 _ rfl; (with_reducible repeat (first | refine blk_drewN ?_ _ | refine blk_drew ?_ | refine blk_alloc ?_ _)); refine blk_put (cs := #[.slice Ao9 t169.length co9, .slice Ao12 t172.length co12, .slice none 0 0, .slice none 0 0, .slice none 0 0, .slice none 0 0]) ?_ 2 _ rfl; (with_reducible repeat (first | refine blk_drewN ?_ _ | refine blk_drew ?_ | refine blk_alloc ?_ _)); refine blk_put (cs := #[.slice Ao9 t169.length co9, .slice none 0 0, .slice none 0 0, .slice none 0 0, .slice none 0 0, .slice none 0 0]) ?_ 1 _ rfl; (with_reducible repeat (first | refine blk_drewN ?_ _ | refine blk_drew ?_ | refine blk_alloc ?_ _)); refine blk_put (cs := #[.slice none 0 0, .slice none 0 0, .slice none 0 0, .slice none 0 0, .slice none 0 0, .slice none 0 0]) ?_ 0 _ rfl; (with_reducible repeat (first | refine blk_drewN ?_ _ | refine blk_drew ?_ | refine blk_alloc ?_ _)); exact BK187.out⟩, ⟨by repeat (first | (with_reducible first | exact HB.out | apply below_alloc | apply pw_below_drewN | apply below_drew1 | refine below_set ?_ GE168.out | refine below_set ?_ GE187.out) | exact HB.out)⟩⟩
  case round =>
    clear H'
    try clear c1
    try clear c2
    try clear p2
    try clear c5
    try clear p6
    try clear c7
    try clear c10
    try clear hcz11_0
    try clear hcz11_1
    try clear hcz11_2
    try clear hcz11_3
    try clear hcz11_4
    try clear hcz11_5
    try clear hfz11_0
    try clear hfz11_1
    try clear hfz11_2
    try clear hfz11_3
    try clear hfz11_4
    try clear hfz11_5
    obtain ⟨x10_1, x188000_1, x188001_1, x188002_1, x188003_1, x188004_1, x188005_1, u188000, u188001, u188002, u188003, u188004, u188005, rfl, HA, HK1, HO_188000, HO_188001, HO_188002, HO_188003, HO_188004, HO_188005, BK168, BK187, HB⟩ := hrel
    cases gk with
    | zero => exact absurd HA.out (by simp [spec_l7Run.l0])
    | succ k1 =>
      have H := HA.out
      clear HA
      simp only [spec_l7Run.l0] at H
      have HC17 := Aside0.mk H
      clear H
      go_upto_region 3 with (fail)
      go_cut [25] (fun v25 wc => ∃ (kq : Nat) (x25_16 : Bool), v25 = .bool x25_16 ∧ Aside0 (spec_l7Run.j1 kq a0 a1 l2 a3 x10_1 x25_16 x188000_1 x188001_1 x188002_1 x188003_1 x188004_1 x188005_1 = some (r1, r2, r3, r4, r5, r6)) ∧ Aside0 (kq ≤ k1) ∧ Aside0 (Kd.R (Kd.int .i64) 3 wc w.heap.size (fun k_ => some k_ ≠ (u188001 : Value).ownBlock ∧ some k_ ≠ (u188002 : Value).ownBlock ∧ some k_ ≠ (u188003 : Value).ownBlock ∧ some k_ ≠ (u188004 : Value).ownBlock ∧ some k_ ≠ (u188005 : Value).ownBlock) u188000 x188000_1) ∧ Aside0 (Kd.R (Kd.int .i64) 3 wc w.heap.size (fun k_ => some k_ ≠ (u188000 : Value).ownBlock ∧ some k_ ≠ (u188002 : Value).ownBlock ∧ some k_ ≠ (u188003 : Value).ownBlock ∧ some k_ ≠ (u188004 : Value).ownBlock ∧ some k_ ≠ (u188005 : Value).ownBlock) u188001 x188001_1) ∧ Aside0 (Kd.R (Kd.int .i64) 3 wc w.heap.size (fun k_ => some k_ ≠ (u188000 : Value).ownBlock ∧ some k_ ≠ (u188001 : Value).ownBlock ∧ some k_ ≠ (u188003 : Value).ownBlock ∧ some k_ ≠ (u188004 : Value).ownBlock ∧ some k_ ≠ (u188005 : Value).ownBlock) u188002 x188002_1) ∧ Aside0 (Kd.R (Kd.int .i64) 3 wc w.heap.size (fun k_ => some k_ ≠ (u188000 : Value).ownBlock ∧ some k_ ≠ (u188001 : Value).ownBlock ∧ some k_ ≠ (u188002 : Value).ownBlock ∧ some k_ ≠ (u188004 : Value).ownBlock ∧ some k_ ≠ (u188005 : Value).ownBlock) u188003 x188003_1) ∧ Aside0 (Kd.R (Kd.int .i64) 3 wc w.heap.size (fun k_ => some k_ ≠ (u188000 : Value).ownBlock ∧ some k_ ≠ (u188001 : Value).ownBlock ∧ some k_ ≠ (u188002 : Value).ownBlock ∧ some k_ ≠ (u188003 : Value).ownBlock ∧ some k_ ≠ (u188005 : Value).ownBlock) u188004 x188004_1) ∧ Aside0 (Kd.R (Kd.int .i64) 3 wc w.heap.size (fun k_ => some k_ ≠ (u188000 : Value).ownBlock ∧ some k_ ≠ (u188001 : Value).ownBlock ∧ some k_ ≠ (u188002 : Value).ownBlock ∧ some k_ ≠ (u188003 : Value).ownBlock ∧ some k_ ≠ (u188004 : Value).ownBlock) u188005 x188005_1) ∧ Aside0 (wc.heap[gb168]? = some (.cells #[(.slice none 0 0), (.slice none 0 0), (.slice none 0 0), (.slice none 0 0), (.slice none 0 0), (.slice none 0 0)] 73 (0, 0))) ∧ Aside0 (wc.heap[gb187]? = some (.cells #[u188000, u188001, u188002, u188003, u188004, u188005] 73 (0, 0))) ∧ Aside0 (Below w.heap.size w wc))
      case first =>
        have H := HC17.out
        clear HC17
        by_cases c18 : a3 < 0
        · rw [if_pos c18] at H
          have c18b0 : decide (a3 < 0) = true := decide_eq_true c18
          clear c18
          (first | rw [c18b0] | (simp only [i64_w, i32_w]; rw [c18b0]) | skip)
          replace H := Option.bind_eq_some_iff.mp H
          obtain ⟨t188, A190, H⟩ := H
          replace H : (spec_l7Run.j1 k1 a0 a1 l2 a3 x10_1 t188 x188000_1 x188001_1 x188002_1 x188003_1 x188004_1 x188005_1) = some (r1, r2, r3, r4, r5, r6) := H
          have A19 := Aside0.mk A190
          clear A190
          have H' := Aside0.mk H
          clear H
          have hnb20 := NB187_168.out
          have hnc20 := NB168_187.out
          have hcz21_0 : wr.cell? ⟨gb187, 0, none⟩ = some (u188000) := (blk_cell BK187.out 0).trans rfl
          have hcz21_1 : wr.cell? ⟨gb187, 1, none⟩ = some (u188001) := (blk_cell BK187.out 1).trans rfl
          have hcz21_2 : wr.cell? ⟨gb187, 2, none⟩ = some (u188002) := (blk_cell BK187.out 2).trans rfl
          have hcz21_3 : wr.cell? ⟨gb187, 3, none⟩ = some (u188003) := (blk_cell BK187.out 3).trans rfl
          have hcz21_4 : wr.cell? ⟨gb187, 4, none⟩ = some (u188004) := (blk_cell BK187.out 4).trans rfl
          have hcz21_5 : wr.cell? ⟨gb187, 5, none⟩ = some (u188005) := (blk_cell BK187.out 5).trans rfl
          have hfz21_0 := blk_frozen BK187.out 0
          have hfz21_1 := blk_frozen BK187.out 1
          have hfz21_2 := blk_frozen BK187.out 2
          have hfz21_3 := blk_frozen BK187.out 3
          have hfz21_4 := blk_frozen BK187.out 4
          have hfz21_5 := blk_frozen BK187.out 5
          obtain ⟨Ao22, co22, eo22⟩ := Kd.R_slice HO_188004.out
          subst eo22
          go_wp2_with (first | (go_at_call 37; (with_reducible refine (spec_l1Has.calls k1 _ _ x188004_1 0 t188 _ ?side1 ?side2 A19.out).mono ?_); (case side1 => repeat (first | exact (Kd.R_reads' HO_188004.out).2.2 | (with_reducible refine Kd.C_alloc ?_ _) | (with_reducible refine Kd.C_drewN ?_ _) | (with_reducible refine Kd.C_drew ?_))); (case side2 => exact (Kd.R_reads' HO_188004.out).2.1); rintro e w' ⟨rfl, ⟨nd, rfl⟩⟩))
          go_meet
          case rel => exact ⟨_, (t188), (by first | rfl | (simp; done) | (simp [*]; done) | (simp [wrap64]; done) | (simp [*, wrap64]; done)), H', ⟨by have := HK1.out; first | omega | exact Nat.le_refl _⟩, ⟨by (with_reducible repeat (first | apply Kd.R_alloc | apply Kd.R_drewN | apply Kd.R_drew)); exact HO_188000.out⟩, ⟨by (with_reducible repeat (first | apply Kd.R_alloc | apply Kd.R_drewN | apply Kd.R_drew)); exact HO_188001.out⟩, ⟨by (with_reducible repeat (first | apply Kd.R_alloc | apply Kd.R_drewN | apply Kd.R_drew)); exact HO_188002.out⟩, ⟨by (with_reducible repeat (first | apply Kd.R_alloc | apply Kd.R_drewN | apply Kd.R_drew)); exact HO_188003.out⟩, ⟨by (with_reducible repeat (first | apply Kd.R_alloc | apply Kd.R_drewN | apply Kd.R_drew)); exact HO_188004.out⟩, ⟨by (with_reducible repeat (first | apply Kd.R_alloc | apply Kd.R_drewN | apply Kd.R_drew)); exact HO_188005.out⟩, ⟨by (with_reducible repeat (first | refine blk_drewN ?_ _ | refine blk_drew ?_ | refine blk_alloc ?_ _)); exact BK168.out⟩, ⟨by (with_reducible repeat (first | refine blk_drewN ?_ _ | refine blk_drew ?_ | refine blk_alloc ?_ _)); exact BK187.out⟩, ⟨by repeat (first | (with_reducible first | exact HB.out | apply below_alloc | apply pw_below_drewN | apply below_drew1 | refine below_set ?_ GE168.out | refine below_set ?_ GE187.out) | exact HB.out)⟩⟩
        · rw [if_neg c18] at H
          have c18b0 : decide (a3 < 0) = false := decide_eq_false c18
          clear c18
          (first | rw [c18b0] | (simp only [i64_w, i32_w]; rw [c18b0]) | skip)
          by_cases c23 : x10_1 ≤ a3
          · rw [if_pos c23] at H
            have c23b0 : decide (x10_1 ≤ a3) = true := decide_eq_true c23
            clear c23
            replace H := Option.bind_eq_some_iff.mp H
            obtain ⟨t189, A240, H⟩ := H
            replace H : (spec_l7Run.j1 k1 a0 a1 l2 a3 x10_1 t189 x188000_1 x188001_1 x188002_1 x188003_1 x188004_1 x188005_1) = some (r1, r2, r3, r4, r5, r6) := H
            have A24 := Aside0.mk A240
            clear A240
            have H' := Aside0.mk H
            clear H
            have hnb25 := NB187_168.out
            have hnc25 := NB168_187.out
            have hcz26_0 : wr.cell? ⟨gb187, 0, none⟩ = some (u188000) := (blk_cell BK187.out 0).trans rfl
            have hcz26_1 : wr.cell? ⟨gb187, 1, none⟩ = some (u188001) := (blk_cell BK187.out 1).trans rfl
            have hcz26_2 : wr.cell? ⟨gb187, 2, none⟩ = some (u188002) := (blk_cell BK187.out 2).trans rfl
            have hcz26_3 : wr.cell? ⟨gb187, 3, none⟩ = some (u188003) := (blk_cell BK187.out 3).trans rfl
            have hcz26_4 : wr.cell? ⟨gb187, 4, none⟩ = some (u188004) := (blk_cell BK187.out 4).trans rfl
            have hcz26_5 : wr.cell? ⟨gb187, 5, none⟩ = some (u188005) := (blk_cell BK187.out 5).trans rfl
            have hfz26_0 := blk_frozen BK187.out 0
            have hfz26_1 := blk_frozen BK187.out 1
            have hfz26_2 := blk_frozen BK187.out 2
            have hfz26_3 := blk_frozen BK187.out 3
            have hfz26_4 := blk_frozen BK187.out 4
            have hfz26_5 := blk_frozen BK187.out 5
            obtain ⟨Ao27, co27, eo27⟩ := Kd.R_slice HO_188004.out
            subst eo27
            go_wp2_with (first | (go_at_call 37; (with_reducible refine (spec_l1Has.calls k1 _ _ x188004_1 0 t189 _ ?side1 ?side2 A24.out).mono ?_); (case side1 => repeat (first | exact (Kd.R_reads' HO_188004.out).2.2 | (with_reducible refine Kd.C_alloc ?_ _) | (with_reducible refine Kd.C_drewN ?_ _) | (with_reducible refine Kd.C_drew ?_))); (case side2 => exact (Kd.R_reads' HO_188004.out).2.1); rintro e w' ⟨rfl, ⟨nd, rfl⟩⟩))
            go_meet
            case rel => exact ⟨_, (t189), (by first | rfl | (simp; done) | (simp [*]; done) | (simp [wrap64]; done) | (simp [*, wrap64]; done)), H', ⟨by have := HK1.out; first | omega | exact Nat.le_refl _⟩, ⟨by (with_reducible repeat (first | apply Kd.R_alloc | apply Kd.R_drewN | apply Kd.R_drew)); exact HO_188000.out⟩, ⟨by (with_reducible repeat (first | apply Kd.R_alloc | apply Kd.R_drewN | apply Kd.R_drew)); exact HO_188001.out⟩, ⟨by (with_reducible repeat (first | apply Kd.R_alloc | apply Kd.R_drewN | apply Kd.R_drew)); exact HO_188002.out⟩, ⟨by (with_reducible repeat (first | apply Kd.R_alloc | apply Kd.R_drewN | apply Kd.R_drew)); exact HO_188003.out⟩, ⟨by (with_reducible repeat (first | apply Kd.R_alloc | apply Kd.R_drewN | apply Kd.R_drew)); exact HO_188004.out⟩, ⟨by (with_reducible repeat (first | apply Kd.R_alloc | apply Kd.R_drewN | apply Kd.R_drew)); exact HO_188005.out⟩, ⟨by (with_reducible repeat (first | refine blk_drewN ?_ _ | refine blk_drew ?_ | refine blk_alloc ?_ _)); exact BK168.out⟩, ⟨by (with_reducible repeat (first | refine blk_drewN ?_ _ | refine blk_drew ?_ | refine blk_alloc ?_ _)); exact BK187.out⟩, ⟨by repeat (first | (with_reducible first | exact HB.out | apply below_alloc | apply pw_below_drewN | apply below_drew1 | refine below_set ?_ GE168.out | refine below_set ?_ GE187.out) | exact HB.out)⟩⟩
          · rw [if_neg c23] at H
            have c23b0 : decide (x10_1 ≤ a3) = false := decide_eq_false c23
            clear c23
            have H' := Aside0.mk H
            clear H
            go_wp2
            go_meet
            case rel => exact ⟨_, (false), (by first | rfl | (simp; done) | (simp [*]; done) | (simp [wrap64]; done) | (simp [*, wrap64]; done)), H', ⟨by have := HK1.out; first | omega | exact Nat.le_refl _⟩, ⟨by (with_reducible repeat (first | apply Kd.R_alloc | apply Kd.R_drewN | apply Kd.R_drew)); exact HO_188000.out⟩, ⟨by (with_reducible repeat (first | apply Kd.R_alloc | apply Kd.R_drewN | apply Kd.R_drew)); exact HO_188001.out⟩, ⟨by (with_reducible repeat (first | apply Kd.R_alloc | apply Kd.R_drewN | apply Kd.R_drew)); exact HO_188002.out⟩, ⟨by (with_reducible repeat (first | apply Kd.R_alloc | apply Kd.R_drewN | apply Kd.R_drew)); exact HO_188003.out⟩, ⟨by (with_reducible repeat (first | apply Kd.R_alloc | apply Kd.R_drewN | apply Kd.R_drew)); exact HO_188004.out⟩, ⟨by (with_reducible repeat (first | apply Kd.R_alloc | apply Kd.R_drewN | apply Kd.R_drew)); exact HO_188005.out⟩, ⟨by (with_reducible repeat (first | refine blk_drewN ?_ _ | refine blk_drew ?_ | refine blk_alloc ?_ _)); exact BK168.out⟩, ⟨by (with_reducible repeat (first | refine blk_drewN ?_ _ | refine blk_drew ?_ | refine blk_alloc ?_ _)); exact BK187.out⟩, ⟨by repeat (first | (with_reducible first | exact HB.out | apply below_alloc | apply pw_below_drewN | apply below_drew1 | refine below_set ?_ GE168.out | refine below_set ?_ GE187.out) | exact HB.out)⟩⟩
      case rest =>
        clear HC17
        try clear c1
        try clear c2
        try clear p2
        try clear c5
        try clear p6
        try clear c7
        try clear c10
        try clear c18
        try clear c18b0
        try clear c20
        try clear c23
        try clear c23b0
        try clear c25
        try clear hcz11_0
        try clear hcz11_1
        try clear hcz11_2
        try clear hcz11_3
        try clear hcz11_4
        try clear hcz11_5
        try clear hcz21_0
        try clear hcz21_1
        try clear hcz21_2
        try clear hcz21_3
        try clear hcz21_4
        try clear hcz21_5
        try clear hcz26_0
        try clear hcz26_1
        try clear hcz26_2
        try clear hcz26_3
        try clear hcz26_4
        try clear hcz26_5
        try clear hfz11_0
        try clear hfz11_1
        try clear hfz11_2
        try clear hfz11_3
        try clear hfz11_4
        try clear hfz11_5
        try clear hfz21_0
        try clear hfz21_1
        try clear hfz21_2
        try clear hfz21_3
        try clear hfz21_4
        try clear hfz21_5
        try clear hfz26_0
        try clear hfz26_1
        try clear hfz26_2
        try clear hfz26_3
        try clear hfz26_4
        try clear hfz26_5
        try clear p2
        try clear p6
        obtain ⟨kq, x25_16, rfl, HA, HJ16, HO_188000, HO_188001, HO_188002, HO_188003, HO_188004, HO_188005, BK168, BK187, HB⟩ := hcut
        cases kq with
        | zero => exact absurd HA.out (by simp [spec_l7Run.j1])
        | succ kj16 =>
          have H := HA.out
          clear HA
          simp only [spec_l7Run.j1] at H
          by_cases c28 : x25_16 = true
          · subst c28
            have H1 : (spec_l7Run.l1 kj16 a0 a1 l2 a3 x10_1 0 x188000_1 x188001_1 x188002_1 x188003_1 x188004_1 x188005_1) = some (r1, r2, r3, r4, r5, r6) := by rw [if_pos rfl] at H; exact H
            clear H
            have H := H1
            clear H1
            have H' := Aside0.mk H
            clear H
            go_wp2
            go_loopg [11] kj16 (fun kq v11 w' => ∃ (x11_3 : Int) (x188000_3 : List Int) (x188001_3 : List Int) (x188002_3 : List Int) (x188003_3 : List Int) (x188004_3 : List Int) (x188005_3 : List Int) (u188000 : Value) (u188001 : Value) (u188002 : Value) (u188003 : Value) (u188004 : Value) (u188005 : Value), v11 = .int .i64 x11_3 ∧ Aside0 (spec_l7Run.l1 kq a0 a1 l2 a3 x10_1 x11_3 x188000_3 x188001_3 x188002_3 x188003_3 x188004_3 x188005_3 = some (r1, r2, r3, r4, r5, r6)) ∧ Aside0 (kq ≤ kj16) ∧ Aside0 (Kd.R (Kd.int .i64) 3 w' w.heap.size (fun k_ => some k_ ≠ (u188001 : Value).ownBlock ∧ some k_ ≠ (u188002 : Value).ownBlock ∧ some k_ ≠ (u188003 : Value).ownBlock ∧ some k_ ≠ (u188004 : Value).ownBlock ∧ some k_ ≠ (u188005 : Value).ownBlock) u188000 x188000_3) ∧ Aside0 (Kd.R (Kd.int .i64) 3 w' w.heap.size (fun k_ => some k_ ≠ (u188000 : Value).ownBlock ∧ some k_ ≠ (u188002 : Value).ownBlock ∧ some k_ ≠ (u188003 : Value).ownBlock ∧ some k_ ≠ (u188004 : Value).ownBlock ∧ some k_ ≠ (u188005 : Value).ownBlock) u188001 x188001_3) ∧ Aside0 (Kd.R (Kd.int .i64) 3 w' w.heap.size (fun k_ => some k_ ≠ (u188000 : Value).ownBlock ∧ some k_ ≠ (u188001 : Value).ownBlock ∧ some k_ ≠ (u188003 : Value).ownBlock ∧ some k_ ≠ (u188004 : Value).ownBlock ∧ some k_ ≠ (u188005 : Value).ownBlock) u188002 x188002_3) ∧ Aside0 (Kd.R (Kd.int .i64) 3 w' w.heap.size (fun k_ => some k_ ≠ (u188000 : Value).ownBlock ∧ some k_ ≠ (u188001 : Value).ownBlock ∧ some k_ ≠ (u188002 : Value).ownBlock ∧ some k_ ≠ (u188004 : Value).ownBlock ∧ some k_ ≠ (u188005 : Value).ownBlock) u188003 x188003_3) ∧ Aside0 (Kd.R (Kd.int .i64) 3 w' w.heap.size (fun k_ => some k_ ≠ (u188000 : Value).ownBlock ∧ some k_ ≠ (u188001 : Value).ownBlock ∧ some k_ ≠ (u188002 : Value).ownBlock ∧ some k_ ≠ (u188003 : Value).ownBlock ∧ some k_ ≠ (u188005 : Value).ownBlock) u188004 x188004_3) ∧ Aside0 (Kd.R (Kd.int .i64) 3 w' w.heap.size (fun k_ => some k_ ≠ (u188000 : Value).ownBlock ∧ some k_ ≠ (u188001 : Value).ownBlock ∧ some k_ ≠ (u188002 : Value).ownBlock ∧ some k_ ≠ (u188003 : Value).ownBlock ∧ some k_ ≠ (u188004 : Value).ownBlock) u188005 x188005_3) ∧ Aside0 (w'.heap[gb168]? = some (.cells #[(.slice none 0 0), (.slice none 0 0), (.slice none 0 0), (.slice none 0 0), (.slice none 0 0), (.slice none 0 0)] 73 (0, 0))) ∧ Aside0 (w'.heap[gb187]? = some (.cells #[u188000, u188001, u188002, u188003, u188004, u188005] 73 (0, 0))) ∧ Aside0 (Below w.heap.size w w'))
            case atStart => exact ⟨(0), (x188000_1), (x188001_1), (x188002_1), (x188003_1), (x188004_1), (x188005_1), (u188000), (u188001), (u188002), (u188003), (u188004), (u188005), (by first | rfl | (simp; done) | (simp [*]; done) | (simp [wrap64]; done) | (simp [*, wrap64]; done)), H', ⟨Nat.le_refl _⟩, ⟨by (with_reducible repeat (first | apply Kd.R_alloc | apply Kd.R_drewN | apply Kd.R_drew)); exact HO_188000.out⟩, ⟨by (with_reducible repeat (first | apply Kd.R_alloc | apply Kd.R_drewN | apply Kd.R_drew)); exact HO_188001.out⟩, ⟨by (with_reducible repeat (first | apply Kd.R_alloc | apply Kd.R_drewN | apply Kd.R_drew)); exact HO_188002.out⟩, ⟨by (with_reducible repeat (first | apply Kd.R_alloc | apply Kd.R_drewN | apply Kd.R_drew)); exact HO_188003.out⟩, ⟨by (with_reducible repeat (first | apply Kd.R_alloc | apply Kd.R_drewN | apply Kd.R_drew)); exact HO_188004.out⟩, ⟨by (with_reducible repeat (first | apply Kd.R_alloc | apply Kd.R_drewN | apply Kd.R_drew)); exact HO_188005.out⟩, ⟨by (with_reducible repeat (first | refine blk_drewN ?_ _ | refine blk_drew ?_ | refine blk_alloc ?_ _)); exact BK168.out⟩, ⟨by (with_reducible repeat (first | refine blk_drewN ?_ _ | refine blk_drew ?_ | refine blk_alloc ?_ _)); exact BK187.out⟩, ⟨by repeat (first | (with_reducible first | exact HB.out | apply below_alloc | apply pw_below_drewN | apply below_drew1 | refine below_set ?_ GE168.out | refine below_set ?_ GE187.out) | exact HB.out)⟩⟩
            case round =>
              clear H'
              try clear c1
              try clear c2
              try clear p2
              try clear c5
              try clear p6
              try clear c7
              try clear c10
              try clear c18
              try clear c18b0
              try clear c20
              try clear c23
              try clear c23b0
              try clear c25
              try clear c28
              try clear hcz11_0
              try clear hcz11_1
              try clear hcz11_2
              try clear hcz11_3
              try clear hcz11_4
              try clear hcz11_5
              try clear hcz21_0
              try clear hcz21_1
              try clear hcz21_2
              try clear hcz21_3
              try clear hcz21_4
              try clear hcz21_5
              try clear hcz26_0
              try clear hcz26_1
              try clear hcz26_2
              try clear hcz26_3
              try clear hcz26_4
              try clear hcz26_5
              try clear hfz11_0
              try clear hfz11_1
              try clear hfz11_2
              try clear hfz11_3
              try clear hfz11_4
              try clear hfz11_5
              try clear hfz21_0
              try clear hfz21_1
              try clear hfz21_2
              try clear hfz21_3
              try clear hfz21_4
              try clear hfz21_5
              try clear hfz26_0
              try clear hfz26_1
              try clear hfz26_2
              try clear hfz26_3
              try clear hfz26_4
              try clear hfz26_5
              try clear p2
              try clear p6
              obtain ⟨x11_3, x188000_3, x188001_3, x188002_3, x188003_3, x188004_3, x188005_3, u188000, u188001, u188002, u188003, u188004, u188005, rfl, HA, HK3, HO_188000, HO_188001, HO_188002, HO_188003, HO_188004, HO_188005, BK168, BK187, HB⟩ := hrel
              cases gk with
              | zero => exact absurd HA.out (by simp [spec_l7Run.l1])
              | succ k3 =>
                have H := HA.out
                clear HA
                simp only [spec_l7Run.l1] at H
                by_cases c29 : x11_3 < a0
                · rw [if_pos c29] at H
                  have c29b0 : decide (x11_3 < a0) = true := decide_eq_true c29
                  clear c29
                  by_cases c30 : 0 ≤ x11_3
                  · rw [if_pos c30] at H
                    have c30b0 : decide (0 ≤ x11_3) = true := decide_eq_true c30
                    clear c30
                    by_cases c31 : x11_3 < (l2.length : Int)
                    · rw [if_pos c31] at H
                      have c31b0 : decide (x11_3 < (l2.length : Int)) = true := decide_eq_true c31
                      clear c31
                      replace H := Option.bind_eq_some_iff.mp H
                      obtain ⟨⟨t191, t192, t193, t194, t195, t196⟩, A320, H⟩ := H
                      replace H : (spec_l7Run.l1 k3 a0 a1 l2 a3 x10_1 (wrap64 (x11_3 + 1)) t191 t192 t193 t194 t195 t196) = some (r1, r2, r3, r4, r5, r6) := H
                      have A32 := Aside0.mk A320
                      clear A320
                      have H' := Aside0.mk H
                      clear H
                      try go_wp2
                      have n0_ := Aside0.mk (Kd.R_drew HO_188000.out)
                      have n1_ := Aside0.mk (Kd.R_drew HO_188001.out)
                      have n2_ := Aside0.mk (Kd.R_drew HO_188002.out)
                      have n3_ := Aside0.mk (Kd.R_drew HO_188003.out)
                      have n4_ := Aside0.mk (Kd.R_drew HO_188004.out)
                      have n5_ := Aside0.mk (Kd.R_drew HO_188005.out)
                      have n6_ := Aside0.mk (blk_drew BK168.out)
                      have n7_ := Aside0.mk (blk_drew BK187.out)
                      have n8_ := Aside0.mk (below_drew1 HB.out)
                      clear HO_188000
                      clear HO_188001
                      clear HO_188002
                      clear HO_188003
                      clear HO_188004
                      clear HO_188005
                      clear BK168
                      clear BK187
                      clear HB
                      have HO_188000 := n0_
                      have HO_188001 := n1_
                      have HO_188002 := n2_
                      have HO_188003 := n3_
                      have HO_188004 := n4_
                      have HO_188005 := n5_
                      have BK168 := n6_
                      have BK187 := n7_
                      have HB := n8_
                      clear n0_ n1_ n2_ n3_ n4_ n5_ n6_ n7_ n8_
                      have p190 : 0 ≤ (x11_3 : Int) := of_decide_eq_true (by first | (with_reducible assumption) | assumption)
                      have q190 : x11_3 < (l2.length : Int) := of_decide_eq_true (by first | (with_reducible assumption) | assumption)
                      (try (have qm190 := q190; rw [HMHR2.out] at qm190; replace qm190 := eq_true qm190))
                      obtain ⟨ad190, e190, hx190_0⟩ := Kd.at_int HR2.out x11_3 p190 q190
                      have hw190_0 := hx190_0
                      cases e190
                      replace hx190_0 := (HB.out.cell (World.block_lt_of_cell? w _ hx190_0)).trans hx190_0
                      replace p190 := eq_true p190
                      replace q190 := eq_true q190
                      obtain ⟨Ao34, co34, eo34⟩ := Kd.R_slice HO_188000.out
                      (first | subst eo34 | (injection eo34 with f1_ f2_ f3_; have f4_ := f1_.symm; have f5_ := f3_.symm; clear f1_ f2_ f3_; subst f4_; subst f5_))
                      obtain ⟨Ao35, co35, eo35⟩ := Kd.R_slice HO_188001.out
                      (first | subst eo35 | (injection eo35 with f1_ f2_ f3_; have f4_ := f1_.symm; have f5_ := f3_.symm; clear f1_ f2_ f3_; subst f4_; subst f5_))
                      obtain ⟨Ao36, co36, eo36⟩ := Kd.R_slice HO_188002.out
                      (first | subst eo36 | (injection eo36 with f1_ f2_ f3_; have f4_ := f1_.symm; have f5_ := f3_.symm; clear f1_ f2_ f3_; subst f4_; subst f5_))
                      obtain ⟨Ao37, co37, eo37⟩ := Kd.R_slice HO_188003.out
                      (first | subst eo37 | (injection eo37 with f1_ f2_ f3_; have f4_ := f1_.symm; have f5_ := f3_.symm; clear f1_ f2_ f3_; subst f4_; subst f5_))
                      obtain ⟨Ao38, co38, eo38⟩ := Kd.R_slice HO_188004.out
                      (first | subst eo38 | (injection eo38 with f1_ f2_ f3_; have f4_ := f1_.symm; have f5_ := f3_.symm; clear f1_ f2_ f3_; subst f4_; subst f5_))
                      obtain ⟨Ao39, co39, eo39⟩ := Kd.R_slice HO_188005.out
                      (first | subst eo39 | (injection eo39 with f1_ f2_ f3_; have f4_ := f1_.symm; have f5_ := f3_.symm; clear f1_ f2_ f3_; subst f4_; subst f5_))
                      refine start_ (n := 8) (S := fun w' => w'.cell? ⟨gb187, 0, none⟩ = some (.slice Ao34 x188000_3.length co34) ∧ w'.cell? ⟨gb187, 1, none⟩ = some (.slice Ao35 x188001_3.length co35) ∧ w'.cell? ⟨gb187, 2, none⟩ = some (.slice Ao36 x188002_3.length co36) ∧ w'.cell? ⟨gb187, 3, none⟩ = some (.slice Ao37 x188003_3.length co37) ∧ w'.cell? ⟨gb187, 4, none⟩ = some (.slice Ao38 x188004_3.length co38) ∧ w'.cell? ⟨gb187, 5, none⟩ = some (.slice Ao39 x188005_3.length co39) ∧ w'.cell? (ad190.add (x11_3).toNat) = some (.int .i64 (rd l2 x11_3))) (ds := []) #[false, false, false, false, false, false, false, false] (by kernel_rfl) rfl rfl ⟨(blk_cell BK187.out 0).trans rfl, (blk_cell BK187.out 1).trans rfl, (blk_cell BK187.out 2).trans rfl, (blk_cell BK187.out 3).trans rfl, (blk_cell BK187.out 4).trans rfl, (blk_cell BK187.out 5).trans rfl, ((HB.out.cell (World.block_lt_of_cell? w _ hw190_0)).trans hw190_0)⟩ (fun hHeld => ?_); refine with_tabW spec_l7Run.tab8 spec_l7Run.bits8 (fun HT_ HW_ => ?_)
                      generalize wr.drew = w33 at HO_188000 HO_188001 HO_188002 HO_188003 HO_188004 HO_188005 BK168 BK187 HB hx190_0 hHeld ⊢
                      refine pure_ (i := 1) (N := some 34) (v := ?_) (a' := ?_) #[false, true, false, false, false, false, false, false] rfl rfl (any_of HT_.out (by kernel_rfl)) (fun _ _ _ h => h) (Or.inl ⟨by rfl, ?_⟩) ?_ ?_
                      rotate_left
                      · intro w'
                        go_simp
                        with_reducible rfl
                      rotate_left
                      · simp only [Act.put, List.setIfInBounds_toArray, List.set_cons_zero, List.set_cons_succ, i64_w, i32_w]
                        rfl
                      refine pure_ (i := 2) (N := some 35) (v := ?_) (a' := ?_) #[false, true, true, false, false, false, false, false] rfl rfl (any_of HT_.out (by kernel_rfl)) (fun _ _ _ h => h) (Or.inl ⟨by rfl, ?_⟩) ?_ ?_
                      rotate_left
                      · intro w'
                        go_simp
                        with_reducible rfl
                      rotate_left
                      · simp only [Act.put, List.setIfInBounds_toArray, List.set_cons_zero, List.set_cons_succ, i64_w, i32_w]
                        rfl
                      refine pure_ (i := 3) (N := some 36) (v := ?_) (a' := ?_) #[false, true, true, true, false, false, false, false] rfl rfl (any_of HT_.out (by kernel_rfl)) (fun _ _ _ h => h) (Or.inl ⟨by rfl, ?_⟩) ?_ ?_
                      rotate_left
                      · intro w'
                        go_simp
                        with_reducible rfl
                      rotate_left
                      · simp only [Act.put, List.setIfInBounds_toArray, List.set_cons_zero, List.set_cons_succ, i64_w, i32_w]
                        rfl
                      refine pure_ (i := 5) (N := some 38) (v := ?_) (a' := ?_) #[false, true, true, true, false, true, false, false] rfl rfl (any_of HT_.out (by kernel_rfl)) (fun _ _ _ h => h) (Or.inl ⟨by rfl, ?_⟩) ?_ ?_
                      rotate_left
                      · intro w'
                        go_simp
                        with_reducible rfl
                      rotate_left
                      · simp only [Act.put, List.setIfInBounds_toArray, List.set_cons_zero, List.set_cons_succ, i64_w, i32_w]
                        rfl
                      refine pure_ (i := 6) (N := some 39) (v := ?_) (a' := ?_) #[false, true, true, true, false, true, true, false] rfl rfl (any_of HT_.out (by kernel_rfl)) (fun _ _ _ h => h) (Or.inl ⟨by rfl, ?_⟩) ?_ ?_
                      rotate_left
                      · intro w'
                        go_simp
                        with_reducible rfl
                      rotate_left
                      · simp only [Act.put, List.setIfInBounds_toArray, List.set_cons_zero, List.set_cons_succ, i64_w, i32_w]
                        rfl
                      refine take_ (i := 0) (N := some 33) (v := ?_) (a' := ?_) #[true, true, true, true, false, true, true, false] rfl rfl (take_ofW HT_.out HW_.out (by kernel_rfl)) (fun _ _ _ h => h) (Or.inl ⟨by rfl, ?_⟩) hHeld ?_ ?_
                      rotate_left
                      · rintro w' ⟨s0, s1, s2, s3, s4, s5, s6⟩
                        go_simp
                        with_reducible rfl
                      rotate_left
                      · simp only [Act.put, List.setIfInBounds_toArray, List.set_cons_zero, List.set_cons_succ, i64_w, i32_w]
                        rfl
                      refine take_ (i := 4) (N := some 37) (v := ?_) (a' := ?_) #[true, true, true, true, true, true, true, false] rfl rfl (take_ofW HT_.out HW_.out (by kernel_rfl)) (fun _ _ _ h => h) (Or.inl ⟨by rfl, ?_⟩) hHeld ?_ ?_
                      rotate_left
                      · rintro w' ⟨s0, s1, s2, s3, s4, s5, s6⟩
                        go_simp
                        with_reducible rfl
                      rotate_left
                      · simp only [Act.put, List.setIfInBounds_toArray, List.set_cons_zero, List.set_cons_succ, i64_w, i32_w]
                        rfl
                      refine one_ (i := 7) (N := some 40) #[true, true, true, true, true, true, true, true] rfl rfl (one_of HT_.out (by kernel_rfl)) (by decide) (fun K hK => ?_)
                      refine goes_ Try.func74 (by kernel_rfl) rfl #[.agg #[.slice Ao34 x188000_3.length co34, .slice Ao35 x188001_3.length co35, .slice Ao36 x188002_3.length co36, .slice Ao37 x188003_3.length co37, .slice Ao38 x188004_3.length co38, .slice Ao39 x188005_3.length co39], .int .i64 (rd l2 x11_3), .int .i64 x10_1, .int .i64 a1] (by rfl) rfl rfl (by (try simp only [List.map_toArray, List.map_cons, List.map_nil]); first | done | rfl | (simp only [List.length_drop, List.length_take]; rfl)) ?_
                      with_reducible refine (spec_l7Act.calls (fun k_ => some k_ = (.slice Ao34 x188000_3.length co34 : Value).ownBlock) (.slice Ao34 x188000_3.length co34) x188000_3 (fun k_ => some k_ = (.slice Ao35 x188001_3.length co35 : Value).ownBlock) (.slice Ao35 x188001_3.length co35) x188001_3 (fun k_ => some k_ = (.slice Ao36 x188002_3.length co36 : Value).ownBlock) (.slice Ao36 x188002_3.length co36) x188002_3 (fun k_ => some k_ = (.slice Ao37 x188003_3.length co37 : Value).ownBlock) (.slice Ao37 x188003_3.length co37) x188003_3 (fun k_ => some k_ = (.slice Ao38 x188004_3.length co38 : Value).ownBlock) (.slice Ao38 x188004_3.length co38) x188004_3 (fun k_ => some k_ = (.slice Ao39 x188005_3.length co39 : Value).ownBlock) (.slice Ao39 x188005_3.length co39) x188005_3 (rd l2 x11_3) x10_1 a1 t191 t192 t193 t194 t195 t196 w _ ?side1 ?side2 ?side3 ?side4 ?side5 ?side6 ?side7 ?side8 ?side9 ?side10 ?side11 ?side12 ?side13 ?side14 ?side15 ?side16 ?side17 ?side18 ?side19 ?side20 ?side21 ?side22 ?side23 ?side24 ?side25 ?side26 ?side27 ?side28 ?side29 ?side30 ?side31 ?side32 ?side33 ?side34 ?side35 ?side36 ?side37 A32.out).mono ?_
                      (case side1 => repeat (first | (with_reducible first | exact HB.out | apply below_alloc | apply pw_below_drewN | apply below_drew1 | refine below_set ?_ GE168.out | refine below_set ?_ GE187.out) | exact HB.out))
                      (case side2 => exact Kd.R_tight rfl HO_188000.out)
                      (case side3 => exact fun k_ e_ => (HO_188000.out.1 k_ e_.symm).1)
                      (case side4 => exact fun k_ e_ => (HO_188000.out.1 k_ e_.symm).2.1)
                      (case side5 => exact fun k_ e_ => (HO_188000.out.1 k_ e_.symm).2.2.1)
                      (case side6 => exact fun k_ e_ => (HO_188000.out.1 k_ e_.symm).2.2.2.1)
                      (case side7 => exact fun k_ e_ => (HO_188000.out.1 k_ e_.symm).2.2.2.2)
                      (case side8 => exact Kd.R_tight rfl HO_188001.out)
                      (case side9 => exact fun k_ e_ => (HO_188001.out.1 k_ e_.symm).1)
                      (case side10 => exact fun k_ e_ => (HO_188001.out.1 k_ e_.symm).2.1)
                      (case side11 => exact fun k_ e_ => (HO_188001.out.1 k_ e_.symm).2.2.1)
                      (case side12 => exact fun k_ e_ => (HO_188001.out.1 k_ e_.symm).2.2.2.1)
                      (case side13 => exact fun k_ e_ => (HO_188001.out.1 k_ e_.symm).2.2.2.2)
                      (case side14 => exact Kd.R_tight rfl HO_188002.out)
                      (case side15 => exact fun k_ e_ => (HO_188002.out.1 k_ e_.symm).1)
                      (case side16 => exact fun k_ e_ => (HO_188002.out.1 k_ e_.symm).2.1)
                      (case side17 => exact fun k_ e_ => (HO_188002.out.1 k_ e_.symm).2.2.1)
                      (case side18 => exact fun k_ e_ => (HO_188002.out.1 k_ e_.symm).2.2.2.1)
                      (case side19 => exact fun k_ e_ => (HO_188002.out.1 k_ e_.symm).2.2.2.2)
                      (case side20 => exact Kd.R_tight rfl HO_188003.out)
                      (case side21 => exact fun k_ e_ => (HO_188003.out.1 k_ e_.symm).1)
                      (case side22 => exact fun k_ e_ => (HO_188003.out.1 k_ e_.symm).2.1)
                      (case side23 => exact fun k_ e_ => (HO_188003.out.1 k_ e_.symm).2.2.1)
                      (case side24 => exact fun k_ e_ => (HO_188003.out.1 k_ e_.symm).2.2.2.1)
                      (case side25 => exact fun k_ e_ => (HO_188003.out.1 k_ e_.symm).2.2.2.2)
                      (case side26 => exact Kd.R_tight rfl HO_188004.out)
                      (case side27 => exact fun k_ e_ => (HO_188004.out.1 k_ e_.symm).1)
                      (case side28 => exact fun k_ e_ => (HO_188004.out.1 k_ e_.symm).2.1)
                      (case side29 => exact fun k_ e_ => (HO_188004.out.1 k_ e_.symm).2.2.1)
                      (case side30 => exact fun k_ e_ => (HO_188004.out.1 k_ e_.symm).2.2.2.1)
                      (case side31 => exact fun k_ e_ => (HO_188004.out.1 k_ e_.symm).2.2.2.2)
                      (case side32 => exact Kd.R_tight rfl HO_188005.out)
                      (case side33 => exact fun k_ e_ => (HO_188005.out.1 k_ e_.symm).1)
                      (case side34 => exact fun k_ e_ => (HO_188005.out.1 k_ e_.symm).2.1)
                      (case side35 => exact fun k_ e_ => (HO_188005.out.1 k_ e_.symm).2.2.1)
                      (case side36 => exact fun k_ e_ => (HO_188005.out.1 k_ e_.symm).2.2.2.1)
                      (case side37 => exact fun k_ e_ => (HO_188005.out.1 k_ e_.symm).2.2.2.2)
                      rintro e w40 ⟨rfl, hy0, hy1, hy2, hy3, hy4, hy5, hb, hkp⟩
                      refine ⟨_, rfl, ?_⟩
                      have n0_ := Aside0.mk (Kd.R_reok rfl hy0 (fun k_ e_ => HO_188000.out.1 k_ e_))
                      have n1_ := Aside0.mk (Kd.R_reok rfl hy1 (fun k_ e_ => HO_188001.out.1 k_ e_))
                      have n2_ := Aside0.mk (Kd.R_reok rfl hy2 (fun k_ e_ => HO_188002.out.1 k_ e_))
                      have n3_ := Aside0.mk (Kd.R_reok rfl hy3 (fun k_ e_ => HO_188003.out.1 k_ e_))
                      have n4_ := Aside0.mk (Kd.R_reok rfl hy4 (fun k_ e_ => HO_188004.out.1 k_ e_))
                      have n5_ := Aside0.mk (Kd.R_reok rfl hy5 (fun k_ e_ => HO_188005.out.1 k_ e_))
                      have n6_ := Aside0.mk (blk_kept (g := gb168) (o := .cells #[.slice none 0 0, .slice none 0 0, .slice none 0 0, .slice none 0 0, .slice none 0 0, .slice none 0 0] 73 (0, 0)) (by (with_reducible repeat (first | refine blk_drewN ?_ _ | refine blk_drew ?_ | refine blk_alloc ?_ _)); exact BK168.out) hkp (fun hs_ => Or.elim hs_ (fun e_ => (fun e_ => (Kd.R_ne HO_188000.out BK168.out (by decide)) e_) e_) (fun e_ => Or.elim e_ (fun e_ => (fun e_ => (Kd.R_ne HO_188001.out BK168.out (by decide)) e_) e_) (fun e_ => Or.elim e_ (fun e_ => (fun e_ => (Kd.R_ne HO_188002.out BK168.out (by decide)) e_) e_) (fun e_ => Or.elim e_ (fun e_ => (fun e_ => (Kd.R_ne HO_188003.out BK168.out (by decide)) e_) e_) (fun e_ => Or.elim e_ (fun e_ => (fun e_ => (Kd.R_ne HO_188004.out BK168.out (by decide)) e_) e_) (fun e_ => (fun e_ => (Kd.R_ne HO_188005.out BK168.out (by decide)) e_) e_)))))))
                      have n7_ := Aside0.mk (blk_kept (g := gb187) (o := .cells #[.slice Ao34 x188000_3.length co34, .slice Ao35 x188001_3.length co35, .slice Ao36 x188002_3.length co36, .slice Ao37 x188003_3.length co37, .slice Ao38 x188004_3.length co38, .slice Ao39 x188005_3.length co39] 73 (0, 0)) (by (with_reducible repeat (first | refine blk_drewN ?_ _ | refine blk_drew ?_ | refine blk_alloc ?_ _)); exact BK187.out) hkp (fun hs_ => Or.elim hs_ (fun e_ => (fun e_ => (Kd.R_ne HO_188000.out BK187.out (by decide)) e_) e_) (fun e_ => Or.elim e_ (fun e_ => (fun e_ => (Kd.R_ne HO_188001.out BK187.out (by decide)) e_) e_) (fun e_ => Or.elim e_ (fun e_ => (fun e_ => (Kd.R_ne HO_188002.out BK187.out (by decide)) e_) e_) (fun e_ => Or.elim e_ (fun e_ => (fun e_ => (Kd.R_ne HO_188003.out BK187.out (by decide)) e_) e_) (fun e_ => Or.elim e_ (fun e_ => (fun e_ => (Kd.R_ne HO_188004.out BK187.out (by decide)) e_) e_) (fun e_ => (fun e_ => (Kd.R_ne HO_188005.out BK187.out (by decide)) e_) e_)))))))
                      have n8_ := Aside0.mk (hb)
                      clear HO_188000
                      clear HO_188001
                      clear HO_188002
                      clear HO_188003
                      clear HO_188004
                      clear HO_188005
                      clear BK168
                      clear BK187
                      clear HB
                      have HO_188000 := n0_
                      have HO_188001 := n1_
                      have HO_188002 := n2_
                      have HO_188003 := n3_
                      have HO_188004 := n4_
                      have HO_188005 := n5_
                      have BK168 := n6_
                      have BK187 := n7_
                      have HB := n8_
                      clear n0_ n1_ n2_ n3_ n4_ n5_ n6_ n7_ n8_
                      (try clear hb)
                      (try clear hkp)
                      (try clear hy0)
                      (try clear hy1)
                      (try clear hy2)
                      (try clear hy3)
                      (try clear hy4)
                      (try clear hy5)
                      refine hK.out _ _ ⟨(blk_cell BK187.out 0).trans rfl, (blk_cell BK187.out 1).trans rfl, (blk_cell BK187.out 2).trans rfl, (blk_cell BK187.out 3).trans rfl, (blk_cell BK187.out 4).trans rfl, (blk_cell BK187.out 5).trans rfl, ((HB.out.cell (World.block_lt_of_cell? w _ hw190_0)).trans hw190_0)⟩ (fun hHeld => ?_)
                      clear hK K
                      refine norm_ (a' := ?_) ?_ ?_
                      rotate_left
                      · show Act.put _ (some 40) _ = _
                        simp only [Act.put, List.setIfInBounds_toArray, List.set_cons_zero, List.set_cons_succ, i64_w, i32_w]
                        rfl
                      refine done_ (done_of HT_.out (by kernel_rfl)) ?_
                      try go_wp2
                      go_roundg k3
                      case measure => have := HK1.out; have := HJ16.out; have := HK3.out; omega
                      case rel => exact ⟨(wrap64 (x11_3 + 1)), (t191), (t192), (t193), (t194), (t195), (t196), (.slice Ao34 x188000_3.length co34), (.slice Ao35 x188001_3.length co35), (.slice Ao36 x188002_3.length co36), (.slice Ao37 x188003_3.length co37), (.slice Ao38 x188004_3.length co38), (.slice Ao39 x188005_3.length co39), (by first | rfl | (simp; done) | (simp [*]; done) | (simp [wrap64]; done) | (simp [*, wrap64]; done)), H', ⟨by have := HK1.out; have := HJ16.out; have := HK3.out; omega⟩, ⟨by (with_reducible repeat (first | apply Kd.R_alloc | apply Kd.R_drewN | apply Kd.R_drew)); exact HO_188000.out⟩, ⟨by (with_reducible repeat (first | apply Kd.R_alloc | apply Kd.R_drewN | apply Kd.R_drew)); exact HO_188001.out⟩, ⟨by (with_reducible repeat (first | apply Kd.R_alloc | apply Kd.R_drewN | apply Kd.R_drew)); exact HO_188002.out⟩, ⟨by (with_reducible repeat (first | apply Kd.R_alloc | apply Kd.R_drewN | apply Kd.R_drew)); exact HO_188003.out⟩, ⟨by (with_reducible repeat (first | apply Kd.R_alloc | apply Kd.R_drewN | apply Kd.R_drew)); exact HO_188004.out⟩, ⟨by (with_reducible repeat (first | apply Kd.R_alloc | apply Kd.R_drewN | apply Kd.R_drew)); exact HO_188005.out⟩, ⟨by (with_reducible repeat (first | refine blk_drewN ?_ _ | refine blk_drew ?_ | refine blk_alloc ?_ _)); exact BK168.out⟩, ⟨by (with_reducible repeat (first | refine blk_drewN ?_ _ | refine blk_drew ?_ | refine blk_alloc ?_ _)); exact BK187.out⟩, ⟨by repeat (first | (with_reducible first | exact HB.out | apply below_alloc | apply pw_below_drewN | apply below_drew1 | refine below_set ?_ GE168.out | refine below_set ?_ GE187.out) | exact HB.out)⟩⟩
                    · rw [if_neg c31] at H
                      exact absurd H (by simp)
                  · rw [if_neg c30] at H
                    exact absurd H (by simp)
                · rw [if_neg c29] at H
                  have c29b0 : decide (x11_3 < a0) = false := decide_eq_false c29
                  clear c29
                  have H' := Aside0.mk H
                  clear H
                  go_wp2
                  go_roundg k3
                  case measure => have := HK1.out; have := HJ16.out; have := HK3.out; omega
                  case rel => exact ⟨(wrap64 (x10_1 + 1)), (x188000_3), (x188001_3), (x188002_3), (x188003_3), (x188004_3), (x188005_3), (u188000), (u188001), (u188002), (u188003), (u188004), (u188005), (by first | rfl | (simp; done) | (simp [*]; done) | (simp [wrap64]; done) | (simp [*, wrap64]; done)), H', ⟨by have := HK1.out; have := HJ16.out; have := HK3.out; omega⟩, ⟨by (with_reducible repeat (first | apply Kd.R_alloc | apply Kd.R_drewN | apply Kd.R_drew)); exact HO_188000.out⟩, ⟨by (with_reducible repeat (first | apply Kd.R_alloc | apply Kd.R_drewN | apply Kd.R_drew)); exact HO_188001.out⟩, ⟨by (with_reducible repeat (first | apply Kd.R_alloc | apply Kd.R_drewN | apply Kd.R_drew)); exact HO_188002.out⟩, ⟨by (with_reducible repeat (first | apply Kd.R_alloc | apply Kd.R_drewN | apply Kd.R_drew)); exact HO_188003.out⟩, ⟨by (with_reducible repeat (first | apply Kd.R_alloc | apply Kd.R_drewN | apply Kd.R_drew)); exact HO_188004.out⟩, ⟨by (with_reducible repeat (first | apply Kd.R_alloc | apply Kd.R_drewN | apply Kd.R_drew)); exact HO_188005.out⟩, ⟨by (with_reducible repeat (first | refine blk_drewN ?_ _ | refine blk_drew ?_ | refine blk_alloc ?_ _)); exact BK168.out⟩, ⟨by (with_reducible repeat (first | refine blk_drewN ?_ _ | refine blk_drew ?_ | refine blk_alloc ?_ _)); exact BK187.out⟩, ⟨by repeat (first | (with_reducible first | exact HB.out | apply below_alloc | apply pw_below_drewN | apply below_drew1 | refine below_set ?_ GE168.out | refine below_set ?_ GE187.out) | exact HB.out)⟩⟩
          · replace c28 := Bool.eq_false_iff.mpr c28
            subst c28
            have H1 : (some (x188000_1, x188001_1, x188002_1, x188003_1, x188004_1, x188005_1)) = some (r1, r2, r3, r4, r5, r6) := by rw [if_neg (show ¬ (false = true) by decide)] at H; exact H
            clear H
            have H := H1
            clear H1
            simp only [Option.some.injEq, Prod.mk.injEq] at H
            obtain ⟨rfl, rfl, rfl, rfl, rfl, rfl⟩ := H
            have hnb41 := NB187_168.out
            have hnc41 := NB168_187.out
            have hcz42_0 : wc.cell? ⟨gb187, 0, none⟩ = some (u188000) := (blk_cell BK187.out 0).trans rfl
            have hcz42_1 : wc.cell? ⟨gb187, 1, none⟩ = some (u188001) := (blk_cell BK187.out 1).trans rfl
            have hcz42_2 : wc.cell? ⟨gb187, 2, none⟩ = some (u188002) := (blk_cell BK187.out 2).trans rfl
            have hcz42_3 : wc.cell? ⟨gb187, 3, none⟩ = some (u188003) := (blk_cell BK187.out 3).trans rfl
            have hcz42_4 : wc.cell? ⟨gb187, 4, none⟩ = some (u188004) := (blk_cell BK187.out 4).trans rfl
            have hcz42_5 : wc.cell? ⟨gb187, 5, none⟩ = some (u188005) := (blk_cell BK187.out 5).trans rfl
            have hfz42_0 := blk_frozen BK187.out 0
            have hfz42_1 := blk_frozen BK187.out 1
            have hfz42_2 := blk_frozen BK187.out 2
            have hfz42_3 := blk_frozen BK187.out 3
            have hfz42_4 := blk_frozen BK187.out 4
            have hfz42_5 := blk_frozen BK187.out 5
            obtain ⟨Ao43, co43, eo43⟩ := Kd.R_slice HO_188000.out
            subst eo43
            have hcz44_0 : wc.cell? ⟨gb168, 0, none⟩ = some (.slice none 0 0) := (blk_cell BK168.out 0).trans rfl
            have hcz44_1 : wc.cell? ⟨gb168, 1, none⟩ = some (.slice none 0 0) := (blk_cell BK168.out 1).trans rfl
            have hcz44_2 : wc.cell? ⟨gb168, 2, none⟩ = some (.slice none 0 0) := (blk_cell BK168.out 2).trans rfl
            have hcz44_3 : wc.cell? ⟨gb168, 3, none⟩ = some (.slice none 0 0) := (blk_cell BK168.out 3).trans rfl
            have hcz44_4 : wc.cell? ⟨gb168, 4, none⟩ = some (.slice none 0 0) := (blk_cell BK168.out 4).trans rfl
            have hcz44_5 : wc.cell? ⟨gb168, 5, none⟩ = some (.slice none 0 0) := (blk_cell BK168.out 5).trans rfl
            have hfz44_0 := blk_frozen BK168.out 0
            have hfz44_1 := blk_frozen BK168.out 1
            have hfz44_2 := blk_frozen BK168.out 2
            have hfz44_3 := blk_frozen BK168.out 3
            have hfz44_4 := blk_frozen BK168.out 4
            have hfz44_5 := blk_frozen BK168.out 5
            obtain ⟨Ao45, co45, eo45⟩ := Kd.R_slice HO_188001.out
            subst eo45
            obtain ⟨Ao46, co46, eo46⟩ := Kd.R_slice HO_188002.out
            subst eo46
            obtain ⟨Ao47, co47, eo47⟩ := Kd.R_slice HO_188003.out
            subst eo47
            obtain ⟨Ao48, co48, eo48⟩ := Kd.R_slice HO_188004.out
            subst eo48
            obtain ⟨Ao49, co49, eo49⟩ := Kd.R_slice HO_188005.out
            subst eo49
            go_wp2
            refine bodyPost_ret (results_cell_row rfl _ _ gb168 73 #[.slice Ao43 x188000_1.length co43, .slice Ao45 x188001_1.length co45, .slice Ao46 x188002_1.length co46, .slice Ao47 x188003_1.length co47, .slice Ao48 x188004_1.length co48, .slice Ao49 x188005_1.length co49] (0, 0) _ rfl (by (with_reducible repeat (first | refine blk_drewN ?_ _ | refine blk_drew ?_ | refine blk_alloc ?_ _)); refine blk_put (cs := #[.slice Ao43 x188000_1.length co43, .slice Ao45 x188001_1.length co45, .slice Ao46 x188002_1.length co46, .slice Ao47 x188003_1.length co47, .slice Ao48 x188004_1.length co48, .slice none 0 0]) ?_ 5 _ rfl; (with_reducible repeat (first | refine blk_drewN ?_ _ | refine blk_drew ?_ | refine blk_alloc ?_ _)); refine blk_put (cs := #[.slice Ao43 x188000_1.length co43, .slice Ao45 x188001_1.length co45, .slice Ao46 x188002_1.length co46, .slice Ao47 x188003_1.length co47, .slice none 0 0, .slice none 0 0]) ?_ 4 _ rfl; (with_reducible repeat (first | refine blk_drewN ?_ _ | refine blk_drew ?_ | refine blk_alloc ?_ _)); refine blk_put (cs := #[.slice Ao43 x188000_1.length co43, .slice Ao45 x188001_1.length co45, .slice Ao46 x188002_1.length co46, .slice none 0 0, .slice none 0 0, .slice none 0 0]) ?_ 3 _ rfl; (with_reducible repeat (first | refine blk_drewN ?_ _ | refine blk_drew ?_ | refine blk_alloc ?_ _)); refine blk_put (cs := #[.slice Ao43 x188000_1.length co43, .slice Ao45 x188001_1.length co45, .slice none 0 0, .slice none 0 0, .slice none 0 0, .slice none 0 0]) ?_ 2 _ rfl; (with_reducible repeat (first | refine blk_drewN ?_ _ | refine blk_drew ?_ | refine blk_alloc ?_ _)); refine blk_put (cs := #[.slice Ao43 x188000_1.length co43, .slice none 0 0, .slice none 0 0, .slice none 0 0, .slice none 0 0, .slice none 0 0]) ?_ 1 _ rfl; (with_reducible repeat (first | refine blk_drewN ?_ _ | refine blk_drew ?_ | refine blk_alloc ?_ _)); refine blk_put (cs := #[.slice none 0 0, .slice none 0 0, .slice none 0 0, .slice none 0 0, .slice none 0 0, .slice none 0 0]) ?_ 0 _ rfl; (with_reducible repeat (first | refine blk_drewN ?_ _ | refine blk_drew ?_ | refine blk_alloc ?_ _)); exact BK168.out) Try.underlying73 rfl (by kernel_rfl)) rfl ?_
            exact ⟨_, _, _, _, _, _, by first | rfl | (simp [errW_none, errW_some] <;> rfl) | (simp [*, errW_none, errW_some] <;> rfl), by (with_reducible repeat (first | apply Kd.R_alloc | apply Kd.R_drewN | apply Kd.R_drew)); exact Kd.R_mono (Kd.R_far (p := ⟨gb168, 5, none⟩) (Kd.R_far (p := ⟨gb168, 4, none⟩) (Kd.R_far (p := ⟨gb168, 3, none⟩) (Kd.R_far (p := ⟨gb168, 2, none⟩) (Kd.R_far (p := ⟨gb168, 1, none⟩) (Kd.R_far (p := ⟨gb168, 0, none⟩) (Kd.R_types HO_188000.out BK168.out (by decide)) (fun _ hk => hk.2) (.slice Ao43 x188000_1.length co43)) (fun _ hk => hk.2) (.slice Ao45 x188001_1.length co45)) (fun _ hk => hk.2) (.slice Ao46 x188002_1.length co46)) (fun _ hk => hk.2) (.slice Ao47 x188003_1.length co47)) (fun _ hk => hk.2) (.slice Ao48 x188004_1.length co48)) (fun _ hk => hk.2) (.slice Ao49 x188005_1.length co49)) (fun _ hk => ⟨hk.1.1, ⟨hk.1.2.1, ⟨hk.1.2.2.1, ⟨hk.1.2.2.2.1, hk.1.2.2.2.2⟩⟩⟩⟩), by (with_reducible repeat (first | apply Kd.R_alloc | apply Kd.R_drewN | apply Kd.R_drew)); exact Kd.R_mono (Kd.R_far (p := ⟨gb168, 5, none⟩) (Kd.R_far (p := ⟨gb168, 4, none⟩) (Kd.R_far (p := ⟨gb168, 3, none⟩) (Kd.R_far (p := ⟨gb168, 2, none⟩) (Kd.R_far (p := ⟨gb168, 1, none⟩) (Kd.R_far (p := ⟨gb168, 0, none⟩) (Kd.R_types HO_188001.out BK168.out (by decide)) (fun _ hk => hk.2) (.slice Ao43 x188000_1.length co43)) (fun _ hk => hk.2) (.slice Ao45 x188001_1.length co45)) (fun _ hk => hk.2) (.slice Ao46 x188002_1.length co46)) (fun _ hk => hk.2) (.slice Ao47 x188003_1.length co47)) (fun _ hk => hk.2) (.slice Ao48 x188004_1.length co48)) (fun _ hk => hk.2) (.slice Ao49 x188005_1.length co49)) (fun _ hk => ⟨hk.1.1, ⟨hk.1.2.1, ⟨hk.1.2.2.1, ⟨hk.1.2.2.2.1, hk.1.2.2.2.2⟩⟩⟩⟩), by (with_reducible repeat (first | apply Kd.R_alloc | apply Kd.R_drewN | apply Kd.R_drew)); exact Kd.R_mono (Kd.R_far (p := ⟨gb168, 5, none⟩) (Kd.R_far (p := ⟨gb168, 4, none⟩) (Kd.R_far (p := ⟨gb168, 3, none⟩) (Kd.R_far (p := ⟨gb168, 2, none⟩) (Kd.R_far (p := ⟨gb168, 1, none⟩) (Kd.R_far (p := ⟨gb168, 0, none⟩) (Kd.R_types HO_188002.out BK168.out (by decide)) (fun _ hk => hk.2) (.slice Ao43 x188000_1.length co43)) (fun _ hk => hk.2) (.slice Ao45 x188001_1.length co45)) (fun _ hk => hk.2) (.slice Ao46 x188002_1.length co46)) (fun _ hk => hk.2) (.slice Ao47 x188003_1.length co47)) (fun _ hk => hk.2) (.slice Ao48 x188004_1.length co48)) (fun _ hk => hk.2) (.slice Ao49 x188005_1.length co49)) (fun _ hk => ⟨hk.1.1, ⟨hk.1.2.1, ⟨hk.1.2.2.1, ⟨hk.1.2.2.2.1, hk.1.2.2.2.2⟩⟩⟩⟩), by (with_reducible repeat (first | apply Kd.R_alloc | apply Kd.R_drewN | apply Kd.R_drew)); exact Kd.R_mono (Kd.R_far (p := ⟨gb168, 5, none⟩) (Kd.R_far (p := ⟨gb168, 4, none⟩) (Kd.R_far (p := ⟨gb168, 3, none⟩) (Kd.R_far (p := ⟨gb168, 2, none⟩) (Kd.R_far (p := ⟨gb168, 1, none⟩) (Kd.R_far (p := ⟨gb168, 0, none⟩) (Kd.R_types HO_188003.out BK168.out (by decide)) (fun _ hk => hk.2) (.slice Ao43 x188000_1.length co43)) (fun _ hk => hk.2) (.slice Ao45 x188001_1.length co45)) (fun _ hk => hk.2) (.slice Ao46 x188002_1.length co46)) (fun _ hk => hk.2) (.slice Ao47 x188003_1.length co47)) (fun _ hk => hk.2) (.slice Ao48 x188004_1.length co48)) (fun _ hk => hk.2) (.slice Ao49 x188005_1.length co49)) (fun _ hk => ⟨hk.1.1, ⟨hk.1.2.1, ⟨hk.1.2.2.1, ⟨hk.1.2.2.2.1, hk.1.2.2.2.2⟩⟩⟩⟩), by (with_reducible repeat (first | apply Kd.R_alloc | apply Kd.R_drewN | apply Kd.R_drew)); exact Kd.R_mono (Kd.R_far (p := ⟨gb168, 5, none⟩) (Kd.R_far (p := ⟨gb168, 4, none⟩) (Kd.R_far (p := ⟨gb168, 3, none⟩) (Kd.R_far (p := ⟨gb168, 2, none⟩) (Kd.R_far (p := ⟨gb168, 1, none⟩) (Kd.R_far (p := ⟨gb168, 0, none⟩) (Kd.R_types HO_188004.out BK168.out (by decide)) (fun _ hk => hk.2) (.slice Ao43 x188000_1.length co43)) (fun _ hk => hk.2) (.slice Ao45 x188001_1.length co45)) (fun _ hk => hk.2) (.slice Ao46 x188002_1.length co46)) (fun _ hk => hk.2) (.slice Ao47 x188003_1.length co47)) (fun _ hk => hk.2) (.slice Ao48 x188004_1.length co48)) (fun _ hk => hk.2) (.slice Ao49 x188005_1.length co49)) (fun _ hk => ⟨hk.1.1, ⟨hk.1.2.1, ⟨hk.1.2.2.1, ⟨hk.1.2.2.2.1, hk.1.2.2.2.2⟩⟩⟩⟩), by (with_reducible repeat (first | apply Kd.R_alloc | apply Kd.R_drewN | apply Kd.R_drew)); exact Kd.R_mono (Kd.R_far (p := ⟨gb168, 5, none⟩) (Kd.R_far (p := ⟨gb168, 4, none⟩) (Kd.R_far (p := ⟨gb168, 3, none⟩) (Kd.R_far (p := ⟨gb168, 2, none⟩) (Kd.R_far (p := ⟨gb168, 1, none⟩) (Kd.R_far (p := ⟨gb168, 0, none⟩) (Kd.R_types HO_188005.out BK168.out (by decide)) (fun _ hk => hk.2) (.slice Ao43 x188000_1.length co43)) (fun _ hk => hk.2) (.slice Ao45 x188001_1.length co45)) (fun _ hk => hk.2) (.slice Ao46 x188002_1.length co46)) (fun _ hk => hk.2) (.slice Ao47 x188003_1.length co47)) (fun _ hk => hk.2) (.slice Ao48 x188004_1.length co48)) (fun _ hk => hk.2) (.slice Ao49 x188005_1.length co49)) (fun _ hk => ⟨hk.1.1, ⟨hk.1.2.1, ⟨hk.1.2.2.1, ⟨hk.1.2.2.2.1, hk.1.2.2.2.2⟩⟩⟩⟩), by repeat (first | (with_reducible first | exact HB.out | apply below_alloc | apply pw_below_drewN | apply below_drew1 | refine below_set ?_ GE168.out | refine below_set ?_ GE187.out) | exact HB.out)⟩

/-! ### spec_l1Most: function 54 -/
def spec_l1Most.f (a0 : Int) (a1 : Int) : Option (Int) := if a0 > a1 then (some a0) else (some a1)
set_option maxHeartbeats 8000000 in
set_option maxRecDepth 100000 in
theorem spec_l1Most.calls (a0 : Int) (a1 : Int) (r : Int) (w : World) (h : spec_l1Most.f a0 a1 = some r) :
    Calls Try.prog 54 #[.int .i64 a0, .int .i64 a1] w fun e w' => e = .returned (.int .i64 r) ∧ Drawn0 w w' := by
  have H : (if a0 > a1 then (some a0) else (some a1)) = some r := h
  clear h
  by_cases c3 : a0 > a1
  · rw [if_pos c3] at H
    have c3b0 : decide (a1 < a0) = true := decide_eq_true c3
    clear c3
    obtain rfl := Option.some.inj H
    go_enter Try.func54, Try.ntmps54
    go_wp2
    go_ret
    exact ⟨by first | rfl | (simp; done) | (simp [*]; done) | (simp [wrap64]; done) | (simp [*, wrap64]; done), by repeat (first | exact Drawn0.refl _ | apply Drawn0.step)⟩
  · rw [if_neg c3] at H
    have c3b0 : decide (a1 < a0) = false := decide_eq_false c3
    clear c3
    obtain rfl := Option.some.inj H
    go_enter Try.func54, Try.ntmps54
    go_wp2
    go_ret
    exact ⟨by first | rfl | (simp; done) | (simp [*]; done) | (simp [wrap64]; done) | (simp [*, wrap64]; done), by repeat (first | exact Drawn0.refl _ | apply Drawn0.step)⟩

/-! ### spec_l7Time: function 31 -/
def spec_l7Time.l0 : Nat → Int → Int → List Int → Int → Option (Int)
  | 0, _, _, _, _ => none
  | k + 1, x0, x7, x8, x9 => if x9 < x0 then (if 0 ≤ x9 then (if x9 < (x8.length : Int) then ((spec_l1Most.f x7 (rd x8 x9)).bind fun t216 => (spec_l7Time.l0 k x0 t216 x8 (wrap64 (x9 + 1)))) else (none)) else (none)) else (some x7)
def spec_l7Time.f (k : Nat) (a0 : Int) (a1 : Int) (l2 : List Int) : Option (Int) := (spec_l7Run.f k a0 a1 l2 (-1)).bind fun bt197 => (spec_l7Time.l0 k a0 0 bt197.2.2.2.2.1 0)
theorem spec_l7Time.mono_l : ∀ k, (∀ y0 y1 y2 y3, LeO (spec_l7Time.l0 k y0 y1 y2 y3) (spec_l7Time.l0 (k + 1) y0 y1 y2 y3))
  | 0 => fun _ _ _ _ r h => by simp [spec_l7Time.l0] at h
  | k + 1 => by
    have ih0 := spec_l7Time.mono_l k
    · intro y0 y1 y2 y3
      unfold spec_l7Time.l0
      repeat' first
      | (with_reducible exact ih0 _ _ _ _)
      | (with_reducible exact spec_l7Run.mono _ _ _ _ _)
      | (with_reducible exact LeO.refl _)
      | (with_reducible exact LeO.none _)
      | (with_reducible refine LeO.ite ?_ ?_)
      | (with_reducible refine LeO.bind ?_ (fun _ => ?_))
      | exact ih0 _ _ _ _
      | exact spec_l7Run.mono _ _ _ _ _
      | exact LeO.none _
      | refine LeO.ite ?_ ?_
      | refine LeO.bind ?_ (fun _ => ?_)
theorem spec_l7Time.mono : ∀ a0 a1 a2 k, LeO (spec_l7Time.f k a0 a1 a2) (spec_l7Time.f (k + 1) a0 a1 a2) := by
  intro a0 a1 a2 k
  have ih0 := spec_l7Time.mono_l k
  unfold spec_l7Time.f
  repeat' first
      | (with_reducible exact ih0 _ _ _ _)
      | (with_reducible exact spec_l7Run.mono _ _ _ _ _)
      | (with_reducible exact LeO.refl _)
      | (with_reducible exact LeO.none _)
      | (with_reducible refine LeO.ite ?_ ?_)
      | (with_reducible refine LeO.bind ?_ (fun _ => ?_))
      | exact ih0 _ _ _ _
      | exact spec_l7Run.mono _ _ _ _ _
      | exact LeO.none _
      | refine LeO.ite ?_ ?_
      | refine LeO.bind ?_ (fun _ => ?_)
set_option maxHeartbeats 8000000 in
set_option maxRecDepth 100000 in
theorem spec_l7Time.calls (k : Nat) (a0 : Int) (a1 : Int) (A2 : Option Addr) (c2 : Nat) (l2 : List Int) (r : Int) (w : World) (hr2 : Kd.C (Kd.int .i64) w A2 l2.length l2) (hc2 : l2.length ≤ c2) (h : spec_l7Time.f k a0 a1 l2 = some r) :
    Calls Try.prog 31 #[.int .i64 a0, .int .i64 a1, .slice A2 l2.length c2] w fun e w' => e = .returned (.int .i64 r) ∧ Below w.heap.size w w' := by
  have hf73_4 : ∀ (w : World) (v0 v1 v2 v3 v4 v5 : Value), (Instr.field 73 (.agg #[v0, v1, v2, v3, v4, v5]) 4).run Try.prog w = .ok v4 w := fun _ _ _ _ _ _ _ => by kernel_rfl
  have HR2 := Aside0.mk hr2
  have HC2 := Aside0.mk hc2
  clear hr2 hc2
  have HB := Aside0.mk (Below.refl w.heap.size w)
  have H : ((spec_l7Run.f k a0 a1 l2 (-1)).bind fun bt197 => (spec_l7Time.l0 k a0 0 bt197.2.2.2.2.1 0)) = some r := h
  clear h
  replace H := Option.bind_eq_some_iff.mp H
  obtain ⟨⟨t197, t200, t203, t206, t209, t212⟩, A40, H⟩ := H
  replace H : (spec_l7Time.l0 k a0 0 t209 0) = some r := H
  have A4 := Aside0.mk A40
  clear A40
  have H' := Aside0.mk H
  clear H
  go_enter Try.func31, Try.ntmps31
  go_wp2_with (first | ((with_reducible refine gate_callee (f := 53) rfl ?_); refine goesL_ (some 13) rfl rfl Try.func53 (by kernel_rfl) rfl #[.int .i64 a0, .int .i64 a1, .slice A2 l2.length c2, .int .i64 (-1)] rfl (by (try simp only [List.map_toArray, List.map_cons, List.map_nil]); first | done | rfl | (simp only [List.length_drop, List.length_take]; rfl)) ?_; (with_reducible refine (spec_l7Run.calls k a0 a1 _ _ l2 (-1) t197 t200 t203 t206 t209 t212 _ ?side1 ?side2 A4.out).mono ?_); (case side1 => repeat (first | exact HR2.out | (with_reducible refine Kd.C_alloc ?_ _) | (with_reducible refine Kd.C_drewN ?_ _) | (with_reducible refine Kd.C_drew ?_))); (case side2 => exact HC2.out); rintro e w5 ⟨v198, v201, v204, v207, v210, v213, rfl, ho0, ho1, ho2, ho3, ho4, ho5, hb⟩; refine ⟨_, rfl, ?_⟩; have n0_ := Aside0.mk (Kd.R_lower ho0 (below_size (by repeat (first | (with_reducible first | exact HB.out | apply below_alloc | apply pw_below_drewN | apply below_drew1) | exact HB.out)))); have n1_ := Aside0.mk (Kd.R_lower ho1 (below_size (by repeat (first | (with_reducible first | exact HB.out | apply below_alloc | apply pw_below_drewN | apply below_drew1) | exact HB.out)))); have n2_ := Aside0.mk (Kd.R_lower ho2 (below_size (by repeat (first | (with_reducible first | exact HB.out | apply below_alloc | apply pw_below_drewN | apply below_drew1) | exact HB.out)))); have n3_ := Aside0.mk (Kd.R_lower ho3 (below_size (by repeat (first | (with_reducible first | exact HB.out | apply below_alloc | apply pw_below_drewN | apply below_drew1) | exact HB.out)))); have n4_ := Aside0.mk (Kd.R_lower ho4 (below_size (by repeat (first | (with_reducible first | exact HB.out | apply below_alloc | apply pw_below_drewN | apply below_drew1) | exact HB.out)))); have n5_ := Aside0.mk (Kd.R_lower ho5 (below_size (by repeat (first | (with_reducible first | exact HB.out | apply below_alloc | apply pw_below_drewN | apply below_drew1) | exact HB.out)))); have n6_ := Aside0.mk (below_step (by repeat (first | (with_reducible first | exact HB.out | apply below_alloc | apply pw_below_drewN | apply below_drew1) | exact HB.out)) hb); clear HB; have HO199 := n0_; have HO202 := n1_; have HO205 := n2_; have HO208 := n3_; have HO211 := n4_; have HO214 := n5_; have HB := n6_; clear n0_ n1_ n2_ n3_ n4_ n5_ n6_; (try clear hb); (try clear hb2); (try clear hk); (try clear hi); (try clear ho0); (try clear ho1); (try clear ho2); (try clear ho3); (try clear ho4); (try clear ho5)))
  go_loopg [7, 9] k (fun kq v7 v9 w' => ∃ (x7_1 : Int) (x9_1 : Int), v7 = .int .i64 x7_1 ∧ v9 = .int .i64 x9_1 ∧ Aside0 (spec_l7Time.l0 kq a0 x7_1 t209 x9_1 = some r) ∧ Aside0 (kq ≤ k) ∧ Aside0 (Kd.R (Kd.int .i64) 3 w' w.heap.size (fun _ => True) v210 t209) ∧ Aside0 (Below w.heap.size w w'))
  case atStart => exact ⟨(0), (0), (by first | rfl | (simp; done) | (simp [*]; done) | (simp [wrap64]; done) | (simp [*, wrap64]; done)), (by first | rfl | (simp; done) | (simp [*]; done) | (simp [wrap64]; done) | (simp [*, wrap64]; done)), H', ⟨Nat.le_refl _⟩, ⟨by (with_reducible repeat (first | apply Kd.R_alloc | apply Kd.R_drewN | apply Kd.R_drew)); exact Kd.R_mono HO211.out (fun _ hk => trivial)⟩, ⟨by repeat (first | (with_reducible first | exact HB.out | apply below_alloc | apply pw_below_drewN | apply below_drew1) | exact HB.out)⟩⟩
  case round =>
    clear H'
    try clear c2
    try clear p2
    try clear c3
    try clear c5
    obtain ⟨x7_1, x9_1, rfl, rfl, HA, HK1, HO_8, HB⟩ := hrel
    cases gk with
    | zero => exact absurd HA.out (by simp [spec_l7Time.l0])
    | succ k1 =>
      have H := HA.out
      clear HA
      simp only [spec_l7Time.l0] at H
      by_cases c6 : x9_1 < a0
      · rw [if_pos c6] at H
        have c6b0 : decide (x9_1 < a0) = true := decide_eq_true c6
        clear c6
        by_cases c7 : 0 ≤ x9_1
        · rw [if_pos c7] at H
          have c7b0 : decide (0 ≤ x9_1) = true := decide_eq_true c7
          clear c7
          by_cases c8 : x9_1 < (t209.length : Int)
          · rw [if_pos c8] at H
            have c8b0 : decide (x9_1 < (t209.length : Int)) = true := decide_eq_true c8
            clear c8
            replace H := Option.bind_eq_some_iff.mp H
            obtain ⟨t216, A90, H⟩ := H
            replace H : (spec_l7Time.l0 k1 a0 t216 t209 (wrap64 (x9_1 + 1))) = some r := H
            have A9 := Aside0.mk A90
            clear A90
            have H' := Aside0.mk H
            clear H
            obtain ⟨Ao10, co10, eo10⟩ := Kd.R_slice HO_8.out
            subst eo10
            have p215 : 0 ≤ (x9_1 : Int) := of_decide_eq_true (by first | (with_reducible assumption) | assumption)
            have q215 : x9_1 < (t209.length : Int) := of_decide_eq_true (by first | (with_reducible assumption) | assumption)
            obtain ⟨ad215, e215, hx215_0⟩ := Kd.at_int (Kd.R_reads' HO_8.out).2.2 x9_1 p215 q215
            cases e215
            replace p215 := eq_true p215
            replace q215 := eq_true q215
            go_wp2_with (first | ((with_reducible refine gate_callee (f := 54) rfl ?_); refine goesL_ (some 25) rfl rfl Try.func54 (by kernel_rfl) rfl #[.int .i64 x7_1, .int .i64 (rd t209 x9_1)] rfl (by (try simp only [List.map_toArray, List.map_cons, List.map_nil]); first | done | rfl | (simp only [List.length_drop, List.length_take]; rfl)) ?_; (with_reducible refine (spec_l1Most.calls x7_1 (rd t209 x9_1) t216 _ A9.out).mono ?_); rintro e w' ⟨rfl, ⟨nd, rfl⟩⟩; refine ⟨_, rfl, ?_⟩))
            go_roundg k1
            case measure => have := HK1.out; omega
            case rel => exact ⟨(t216), (wrap64 (x9_1 + 1)), (by first | rfl | (simp; done) | (simp [*]; done) | (simp [wrap64]; done) | (simp [*, wrap64]; done)), (by first | rfl | (simp; done) | (simp [*]; done) | (simp [wrap64]; done) | (simp [*, wrap64]; done)), H', ⟨by have := HK1.out; omega⟩, ⟨by (with_reducible repeat (first | apply Kd.R_alloc | apply Kd.R_drewN | apply Kd.R_drew)); exact HO_8.out⟩, ⟨by repeat (first | (with_reducible first | exact HB.out | apply below_alloc | apply pw_below_drewN | apply below_drew1) | exact HB.out)⟩⟩
          · rw [if_neg c8] at H
            exact absurd H (by simp)
        · rw [if_neg c7] at H
          exact absurd H (by simp)
      · rw [if_neg c6] at H
        have c6b0 : decide (x9_1 < a0) = false := decide_eq_false c6
        clear c6
        obtain rfl := Option.some.inj H
        go_wp2
        go_ret
        exact ⟨by first | rfl | (simp [errW_none, errW_some] <;> rfl) | (simp [*, errW_none, errW_some] <;> rfl), by repeat (first | (with_reducible first | exact HB.out | apply below_alloc | apply pw_below_drewN | apply below_drew1) | exact HB.out)⟩

end Go.Proofs.Ytoodiahlofeikaa.PFnExactCountBest
