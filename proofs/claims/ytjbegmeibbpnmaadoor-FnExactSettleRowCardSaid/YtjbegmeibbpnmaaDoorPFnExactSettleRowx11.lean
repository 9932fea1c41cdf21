/- Written by a program of this session (wip/xprint) out of Lean's own print of the given functions: each function as a plain Lean function, and the proof that the call answers it. -/
import Derived.Test.YtjbegmeibbpnmaaDoorPFnExactSettleRowx0
import Derived.Test.YtjbegmeibbpnmaaDoorPFnExactSettleRowx1
import Derived.Test.YtjbegmeibbpnmaaDoorPFnExactSettleRowx6
import Derived.Test.YtjbegmeibbpnmaaDoorPFnExactSettleRowx7
import Derived.Test.YtjbegmeibbpnmaaDoorPFnExactSettleRowx9
import Derived.Test.YtjbegmeibbpnmaaDoorPFnExactSettleRowx10
namespace Go.Proofs.YtjbegmeibbpnmaaDoor.PFnExactSettleRow
open Go.RowKit Go.Proofs.YtjbegmeibbpnmaaDoorW.PrintWords Go.Proofs.YtjbegmeibbpnmaaDoorW.PrintLast Go.Proofs.YtjbegmeibbpnmaaDoorW.PrintMore
attribute [local go_sem] max2_int min2_int max_two min_two max_three min_three max_four min_four   -- for this text's walks alone
set_option linter.unusedVariables false
set_option linter.unusedSimpArgs false

/-! ### laws_FnExactSettleRow: function 3 -/
mutual
def laws_FnExactSettleRow.j0 : Nat → Int → Bool → Int → Bool → Bool → Int → Bool → List Int → Int → Bool → List Int → Int → Bool → List Int → Int → Bool → List Int → Option (Bool)
  | 0, _, _, _, _, _, _, _, _, _, _, _, _, _, _, _, _, _ => none
  | k + 1, x5, x6, x9, x10, x50, x363000, x363001, x363002, x377000, x377001, x377002, x383000, x383001, x383002, x391000, x391001, x391002 => if x50 = true then (some false) else ((laws_toRow.f k x363000 x363001 x363002).bind fun bt392 => ((laws_eqRow.f k x383000 x383001 x383002 bt392.1 bt392.2.1 bt392.2.2).bind fun t397 => (if t397 = true then ((laws_markRow.f k x383000 x383001 x383002 1).bind fun bt398 => (if bt398.1 < 0 then (laws_FnExactSettleRow.j1 k x5 x6 true x363000 x363001 x363002 x377000 x377001 x377002 x391000 x391001 x391002) else ((laws_eqRow.f k x391000 x391001 x391002 x377000 x377001 x377002).bind fun t400 => (if t400 = true then (if x9 = x5 then (laws_FnExactSettleRow.j1 k x5 x6 (x10 != x6) x363000 x363001 x363002 x377000 x377001 x377002 x391000 x391001 x391002) else (laws_FnExactSettleRow.j1 k x5 x6 true x363000 x363001 x363002 x377000 x377001 x377002 x391000 x391001 x391002)) else (laws_FnExactSettleRow.j1 k x5 x6 true x363000 x363001 x363002 x377000 x377001 x377002 x391000 x391001 x391002))))) else (some false))))
def laws_FnExactSettleRow.j1 : Nat → Int → Bool → Bool → Int → Bool → List Int → Int → Bool → List Int → Int → Bool → List Int → Option (Bool)
  | 0, _, _, _, _, _, _, _, _, _, _, _, _ => none
  | k + 1, x5, x6, x76, x363000, x363001, x363002, x377000, x377001, x377002, x391000, x391001, x391002 => if x76 = true then (some false) else ((laws_markRow.f k x391000 x391001 x391002 1).bind fun bt401 => ((laws_heldRow.f k x391000 x391001 bt401.2 1).bind fun t403 => (if t403 < 0 then (some false) else (if t403 = bt401.1 then ((laws_toRow.f k x363000 x363001 x363002).bind fun bt404 => ((impl_SettleRow.f k bt404.1 bt404.2.1 bt404.2.2).bind fun bt409 => ((laws_eqRow.f k bt409.1 bt409.2.1 bt409.2.2.1 x377000 x377001 x377002).bind fun t417 => (if t417 = true then (if bt409.2.2.2.1 = x5 then (laws_FnExactSettleRow.j2 k bt401.1 (bt409.2.2.2.2 != x6) x391000 x391001 bt401.2) else (laws_FnExactSettleRow.j2 k bt401.1 true x391000 x391001 bt401.2)) else (laws_FnExactSettleRow.j2 k bt401.1 true x391000 x391001 bt401.2))))) else (some false)))))
def laws_FnExactSettleRow.j2 : Nat → Int → Bool → Int → Bool → List Int → Option (Bool)
  | 0, _, _, _, _, _ => none
  | k + 1, x12, x108, x391000, x391001, x391002 => if x108 = true then (some false) else ((laws_heldRow.f k x391000 x391001 x391002 1).bind fun t418 => (if t418 < 0 then (some false) else (if t418 = x12 then (some true) else (some false))))
end
def laws_FnExactSettleRow.f (k : Nat) (a0_0 : Int) (a0_1 : Bool) (l0_2 : List Int) : Option (Bool) := (laws_szRow.f a0_0 a0_1 l0_2 1048576).bind fun t363 => (if t363 < 0 then (some true) else ((laws_toRow.f k a0_0 a0_1 l0_2).bind fun bt364 => ((spec_SettleRow.f k bt364.1 bt364.2.1 bt364.2.2).bind fun bt369 => ((laws_toRow.f k a0_0 a0_1 l0_2).bind fun bt377 => ((impl_SettleRow.f k bt377.1 bt377.2.1 bt377.2.2).bind fun bt383 => ((laws_eqRow.f k bt383.1 bt383.2.1 bt383.2.2.1 bt369.1 bt369.2.1 bt369.2.2.1).bind fun t391 => (if t391 = true then (if bt383.2.2.2.1 = bt369.2.2.2.1 then (laws_FnExactSettleRow.j0 k bt369.2.2.2.1 bt369.2.2.2.2 bt383.2.2.2.1 bt383.2.2.2.2 (bt383.2.2.2.2 != bt369.2.2.2.2) a0_0 a0_1 l0_2 bt369.1 bt369.2.1 bt369.2.2.1 bt377.1 bt377.2.1 bt377.2.2 bt383.1 bt383.2.1 bt383.2.2.1) else (laws_FnExactSettleRow.j0 k bt369.2.2.2.1 bt369.2.2.2.2 bt383.2.2.2.1 bt383.2.2.2.2 true a0_0 a0_1 l0_2 bt369.1 bt369.2.1 bt369.2.2.1 bt377.1 bt377.2.1 bt377.2.2 bt383.1 bt383.2.1 bt383.2.2.1)) else (laws_FnExactSettleRow.j0 k bt369.2.2.2.1 bt369.2.2.2.2 bt383.2.2.2.1 bt383.2.2.2.2 true a0_0 a0_1 l0_2 bt369.1 bt369.2.1 bt369.2.2.1 bt377.1 bt377.2.1 bt377.2.2 bt383.1 bt383.2.1 bt383.2.2.1))))))))
theorem laws_FnExactSettleRow.mono_l : ∀ k, (∀ y0 y1 y2 y3 y4 y5 y6 y7 y8 y9 y10 y11 y12 y13 y14 y15 y16, LeO (laws_FnExactSettleRow.j0 k y0 y1 y2 y3 y4 y5 y6 y7 y8 y9 y10 y11 y12 y13 y14 y15 y16) (laws_FnExactSettleRow.j0 (k + 1) y0 y1 y2 y3 y4 y5 y6 y7 y8 y9 y10 y11 y12 y13 y14 y15 y16)) ∧ (∀ y0 y1 y2 y3 y4 y5 y6 y7 y8 y9 y10 y11, LeO (laws_FnExactSettleRow.j1 k y0 y1 y2 y3 y4 y5 y6 y7 y8 y9 y10 y11) (laws_FnExactSettleRow.j1 (k + 1) y0 y1 y2 y3 y4 y5 y6 y7 y8 y9 y10 y11)) ∧ (∀ y0 y1 y2 y3 y4, LeO (laws_FnExactSettleRow.j2 k y0 y1 y2 y3 y4) (laws_FnExactSettleRow.j2 (k + 1) y0 y1 y2 y3 y4))
  | 0 => ⟨fun _ _ _ _ _ _ _ _ _ _ _ _ _ _ _ _ _ r h => by simp [laws_FnExactSettleRow.j0] at h, fun _ _ _ _ _ _ _ _ _ _ _ _ r h => by simp [laws_FnExactSettleRow.j1] at h, fun _ _ _ _ _ r h => by simp [laws_FnExactSettleRow.j2] at h⟩
  | k + 1 => by
    obtain ⟨ih0, ih1, ih2⟩ := laws_FnExactSettleRow.mono_l k
    refine ⟨?_, ?_, ?_⟩
    · intro y0 y1 y2 y3 y4 y5 y6 y7 y8 y9 y10 y11 y12 y13 y14 y15 y16
      unfold laws_FnExactSettleRow.j0
      repeat' first
      | (with_reducible exact ih0 _ _ _ _ _ _ _ _ _ _ _ _ _ _ _ _ _)
      | (with_reducible exact ih1 _ _ _ _ _ _ _ _ _ _ _ _)
      | (with_reducible exact ih2 _ _ _ _ _)
      | (with_reducible exact impl_SettleRow.mono _ _ _ _)
      | (with_reducible exact laws_eqRow.mono _ _ _ _ _ _ _)
      | (with_reducible exact laws_heldRow.mono _ _ _ _ _)
      | (with_reducible exact laws_markRow.mono _ _ _ _ _)
      | (with_reducible exact laws_toRow.mono _ _ _ _)
      | (with_reducible exact spec_SettleRow.mono _ _ _ _)
      | (with_reducible exact LeO.refl _)
      | (with_reducible exact LeO.none _)
      | (with_reducible refine LeO.ite ?_ ?_)
      | (with_reducible refine LeO.bind ?_ (fun _ => ?_))
      | exact ih0 _ _ _ _ _ _ _ _ _ _ _ _ _ _ _ _ _
      | exact ih1 _ _ _ _ _ _ _ _ _ _ _ _
      | exact ih2 _ _ _ _ _
      | exact impl_SettleRow.mono _ _ _ _
      | exact laws_eqRow.mono _ _ _ _ _ _ _
      | exact laws_heldRow.mono _ _ _ _ _
      | exact laws_markRow.mono _ _ _ _ _
      | exact laws_toRow.mono _ _ _ _
      | exact spec_SettleRow.mono _ _ _ _
      | exact LeO.none _
      | refine LeO.ite ?_ ?_
      | refine LeO.bind ?_ (fun _ => ?_)
    · intro y0 y1 y2 y3 y4 y5 y6 y7 y8 y9 y10 y11
      unfold laws_FnExactSettleRow.j1
      repeat' first
      | (with_reducible exact ih0 _ _ _ _ _ _ _ _ _ _ _ _ _ _ _ _ _)
      | (with_reducible exact ih1 _ _ _ _ _ _ _ _ _ _ _ _)
      | (with_reducible exact ih2 _ _ _ _ _)
      | (with_reducible exact impl_SettleRow.mono _ _ _ _)
      | (with_reducible exact laws_eqRow.mono _ _ _ _ _ _ _)
      | (with_reducible exact laws_heldRow.mono _ _ _ _ _)
      | (with_reducible exact laws_markRow.mono _ _ _ _ _)
      | (with_reducible exact laws_toRow.mono _ _ _ _)
      | (with_reducible exact spec_SettleRow.mono _ _ _ _)
      | (with_reducible exact LeO.refl _)
      | (with_reducible exact LeO.none _)
      | (with_reducible refine LeO.ite ?_ ?_)
      | (with_reducible refine LeO.bind ?_ (fun _ => ?_))
      | exact ih0 _ _ _ _ _ _ _ _ _ _ _ _ _ _ _ _ _
      | exact ih1 _ _ _ _ _ _ _ _ _ _ _ _
      | exact ih2 _ _ _ _ _
      | exact impl_SettleRow.mono _ _ _ _
      | exact laws_eqRow.mono _ _ _ _ _ _ _
      | exact laws_heldRow.mono _ _ _ _ _
      | exact laws_markRow.mono _ _ _ _ _
      | exact laws_toRow.mono _ _ _ _
      | exact spec_SettleRow.mono _ _ _ _
      | exact LeO.none _
      | refine LeO.ite ?_ ?_
      | refine LeO.bind ?_ (fun _ => ?_)
    · intro y0 y1 y2 y3 y4
      unfold laws_FnExactSettleRow.j2
      repeat' first
      | (with_reducible exact ih0 _ _ _ _ _ _ _ _ _ _ _ _ _ _ _ _ _)
      | (with_reducible exact ih1 _ _ _ _ _ _ _ _ _ _ _ _)
      | (with_reducible exact ih2 _ _ _ _ _)
      | (with_reducible exact impl_SettleRow.mono _ _ _ _)
      | (with_reducible exact laws_eqRow.mono _ _ _ _ _ _ _)
      | (with_reducible exact laws_heldRow.mono _ _ _ _ _)
      | (with_reducible exact laws_markRow.mono _ _ _ _ _)
      | (with_reducible exact laws_toRow.mono _ _ _ _)
      | (with_reducible exact spec_SettleRow.mono _ _ _ _)
      | (with_reducible exact LeO.refl _)
      | (with_reducible exact LeO.none _)
      | (with_reducible refine LeO.ite ?_ ?_)
      | (with_reducible refine LeO.bind ?_ (fun _ => ?_))
      | exact ih0 _ _ _ _ _ _ _ _ _ _ _ _ _ _ _ _ _
      | exact ih1 _ _ _ _ _ _ _ _ _ _ _ _
      | exact ih2 _ _ _ _ _
      | exact impl_SettleRow.mono _ _ _ _
      | exact laws_eqRow.mono _ _ _ _ _ _ _
      | exact laws_heldRow.mono _ _ _ _ _
      | exact laws_markRow.mono _ _ _ _ _
      | exact laws_toRow.mono _ _ _ _
      | exact spec_SettleRow.mono _ _ _ _
      | exact LeO.none _
      | refine LeO.ite ?_ ?_
      | refine LeO.bind ?_ (fun _ => ?_)
theorem laws_FnExactSettleRow.mono : ∀ a0 a1 a2 k, LeO (laws_FnExactSettleRow.f k a0 a1 a2) (laws_FnExactSettleRow.f (k + 1) a0 a1 a2) := by
  intro a0 a1 a2 k
  obtain ⟨ih0, ih1, ih2⟩ := laws_FnExactSettleRow.mono_l k
  unfold laws_FnExactSettleRow.f
  repeat' first
      | (with_reducible exact ih0 _ _ _ _ _ _ _ _ _ _ _ _ _ _ _ _ _)
      | (with_reducible exact ih1 _ _ _ _ _ _ _ _ _ _ _ _)
      | (with_reducible exact ih2 _ _ _ _ _)
      | (with_reducible exact impl_SettleRow.mono _ _ _ _)
      | (with_reducible exact laws_eqRow.mono _ _ _ _ _ _ _)
      | (with_reducible exact laws_heldRow.mono _ _ _ _ _)
      | (with_reducible exact laws_markRow.mono _ _ _ _ _)
      | (with_reducible exact laws_toRow.mono _ _ _ _)
      | (with_reducible exact spec_SettleRow.mono _ _ _ _)
      | (with_reducible exact LeO.refl _)
      | (with_reducible exact LeO.none _)
      | (with_reducible refine LeO.ite ?_ ?_)
      | (with_reducible refine LeO.bind ?_ (fun _ => ?_))
      | exact ih0 _ _ _ _ _ _ _ _ _ _ _ _ _ _ _ _ _
      | exact ih1 _ _ _ _ _ _ _ _ _ _ _ _
      | exact ih2 _ _ _ _ _
      | exact impl_SettleRow.mono _ _ _ _
      | exact laws_eqRow.mono _ _ _ _ _ _ _
      | exact laws_heldRow.mono _ _ _ _ _
      | exact laws_markRow.mono _ _ _ _ _
      | exact laws_toRow.mono _ _ _ _
      | exact spec_SettleRow.mono _ _ _ _
      | exact LeO.none _
      | refine LeO.ite ?_ ?_
      | refine LeO.bind ?_ (fun _ => ?_)
set_option maxHeartbeats 8000000 in
set_option maxRecDepth 100000 in
theorem laws_FnExactSettleRow.calls (k : Nat) (a0_0 : Int) (a0_1 : Bool) (A0_2 : Option Addr) (c0_2 : Nat) (l0_2 : List Int) (r : Bool) (w : World) (hr0_2 : Kd.C (Kd.int .i64) w A0_2 l0_2.length l0_2) (hc0_2 : l0_2.length ≤ c0_2) (hT : XTab w) (h : laws_FnExactSettleRow.f k a0_0 a0_1 l0_2 = some r) :
    Calls Tryd.prog 3 #[.agg #[.int .i64 a0_0, .bool a0_1, .slice A0_2 l0_2.length c0_2]] w fun e w' => e = .returned (.bool r) ∧ Below w.heap.size w w' := by
  have hu24 := Tryd.underlying24
  have hu26 := Tryd.underlying26
  have HR0_2 := Aside0.mk hr0_2
  have HC0_2 := Aside0.mk hc0_2
  clear hr0_2 hc0_2
  have HB := Aside0.mk (Below.refl w.heap.size w)
  have HT := Aside0.mk hT
  clear hT
  have H : ((laws_szRow.f a0_0 a0_1 l0_2 1048576).bind fun t363 => (if t363 < 0 then (some true) else ((laws_toRow.f k a0_0 a0_1 l0_2).bind fun bt364 => ((spec_SettleRow.f k bt364.1 bt364.2.1 bt364.2.2).bind fun bt369 => ((laws_toRow.f k a0_0 a0_1 l0_2).bind fun bt377 => ((impl_SettleRow.f k bt377.1 bt377.2.1 bt377.2.2).bind fun bt383 => ((laws_eqRow.f k bt383.1 bt383.2.1 bt383.2.2.1 bt369.1 bt369.2.1 bt369.2.2.1).bind fun t391 => (if t391 = true then (if bt383.2.2.2.1 = bt369.2.2.2.1 then (laws_FnExactSettleRow.j0 k bt369.2.2.2.1 bt369.2.2.2.2 bt383.2.2.2.1 bt383.2.2.2.2 (bt383.2.2.2.2 != bt369.2.2.2.2) a0_0 a0_1 l0_2 bt369.1 bt369.2.1 bt369.2.2.1 bt377.1 bt377.2.1 bt377.2.2 bt383.1 bt383.2.1 bt383.2.2.1) else (laws_FnExactSettleRow.j0 k bt369.2.2.2.1 bt369.2.2.2.2 bt383.2.2.2.1 bt383.2.2.2.2 true a0_0 a0_1 l0_2 bt369.1 bt369.2.1 bt369.2.2.1 bt377.1 bt377.2.1 bt377.2.2 bt383.1 bt383.2.1 bt383.2.2.1)) else (laws_FnExactSettleRow.j0 k bt369.2.2.2.1 bt369.2.2.2.2 bt383.2.2.2.1 bt383.2.2.2.2 true a0_0 a0_1 l0_2 bt369.1 bt369.2.1 bt369.2.2.1 bt377.1 bt377.2.1 bt377.2.2 bt383.1 bt383.2.1 bt383.2.2.1))))))))) = some r := h
  clear h
  replace H := Option.bind_eq_some_iff.mp H
  obtain ⟨t363, A20, H⟩ := H
  replace H : (if t363 < 0 then (some true) else ((laws_toRow.f k a0_0 a0_1 l0_2).bind fun bt364 => ((spec_SettleRow.f k bt364.1 bt364.2.1 bt364.2.2).bind fun bt369 => ((laws_toRow.f k a0_0 a0_1 l0_2).bind fun bt377 => ((impl_SettleRow.f k bt377.1 bt377.2.1 bt377.2.2).bind fun bt383 => ((laws_eqRow.f k bt383.1 bt383.2.1 bt383.2.2.1 bt369.1 bt369.2.1 bt369.2.2.1).bind fun t391 => (if t391 = true then (if bt383.2.2.2.1 = bt369.2.2.2.1 then (laws_FnExactSettleRow.j0 k bt369.2.2.2.1 bt369.2.2.2.2 bt383.2.2.2.1 bt383.2.2.2.2 (bt383.2.2.2.2 != bt369.2.2.2.2) a0_0 a0_1 l0_2 bt369.1 bt369.2.1 bt369.2.2.1 bt377.1 bt377.2.1 bt377.2.2 bt383.1 bt383.2.1 bt383.2.2.1) else (laws_FnExactSettleRow.j0 k bt369.2.2.2.1 bt369.2.2.2.2 bt383.2.2.2.1 bt383.2.2.2.2 true a0_0 a0_1 l0_2 bt369.1 bt369.2.1 bt369.2.2.1 bt377.1 bt377.2.1 bt377.2.2 bt383.1 bt383.2.1 bt383.2.2.1)) else (laws_FnExactSettleRow.j0 k bt369.2.2.2.1 bt369.2.2.2.2 bt383.2.2.2.1 bt383.2.2.2.2 true a0_0 a0_1 l0_2 bt369.1 bt369.2.1 bt369.2.2.1 bt377.1 bt377.2.1 bt377.2.2 bt383.1 bt383.2.1 bt383.2.2.1)))))))) = some r := H
  have A2 := Aside0.mk A20
  clear A20
  by_cases c3 : t363 < 0
  · rw [if_pos c3] at H
    have c3b0 : decide (t363 < 0) = true := decide_eq_true c3
    clear c3
    obtain rfl := Option.some.inj H
    go_enter Tryd.func3, Tryd.ntmps3
    go_wp2_with (first | ((with_reducible refine gate_dst (N := 1) rfl ?_); refine box_event ?hg (N := 1) ?hd (cs := #[.int .i64 a0_0, .bool a0_1, .slice A0_2 l0_2.length c0_2]) (t := 24) ?hr ?_; (case hd => rfl); (case hg => rfl); (case hr => first | (go_simp; done) | (go_simp; rfl)); intro gb362 hg w4 hbox hb; have n0_ := Aside0.mk (below_step (by repeat (first | (with_reducible first | exact HB.out | apply below_alloc | apply pw_below_drewN | apply below_drew1) | exact HB.out)) hb); have n1_ := Aside0.mk (hbox); have n2_ := Aside0.mk ((by rw [hg]; exact (below_size (by repeat (first | (with_reducible first | exact HB.out | apply below_alloc | apply pw_below_drewN | apply below_drew1) | exact HB.out))) : w.heap.size ≤ gb362)); have n3_ := Aside0.mk ((by rw [hg]; exact (below_size (by repeat (first | (with_reducible first | exact HB.out | apply below_alloc | apply pw_below_drewN | apply below_drew1) | exact HB.out))) : w.heap.size ≤ gb362)); clear HB; have HB := n0_; have BK362 := n1_; have GW362 := n2_; have GE362 := n3_; clear n0_ n1_ n2_ n3_; clear hb hbox hg; have hcz5_0 : w4.cell? ⟨gb362, 0, none⟩ = some (.int .i64 a0_0) := (blk_cell BK362.out 0).trans rfl; have hcz5_1 : w4.cell? ⟨gb362, 1, none⟩ = some (.bool a0_1) := (blk_cell BK362.out 1).trans rfl; have hcz5_2 : w4.cell? ⟨gb362, 2, none⟩ = some (.slice A0_2 l0_2.length c0_2) := (blk_cell BK362.out 2).trans rfl; have hfz5_0 := blk_frozen BK362.out 0; have hfz5_1 := blk_frozen BK362.out 1; have hfz5_2 := blk_frozen BK362.out 2) | ((with_reducible refine gate_callee (f := 8) rfl ?_); refine goesL_ (some 19) rfl rfl Tryd.func8 (by kernel_rfl) rfl #[.agg #[.int .i64 a0_0, .bool a0_1, .slice A0_2 l0_2.length c0_2], .int .i64 1048576] rfl (by (try simp only [List.map_toArray, List.map_cons, List.map_nil]); first | done | rfl | (simp only [List.length_drop, List.length_take]; rfl)) ?_; (with_reducible refine (laws_szRow.calls a0_0 a0_1 _ _ l0_2 1048576 t363 _ ?side1 ?side2 A2.out).mono ?_); (case side1 => repeat (first | exact (Kd.C_below HR0_2.out HB.out) | (with_reducible refine Kd.C_alloc ?_ _) | (with_reducible refine Kd.C_drewN ?_ _) | (with_reducible refine Kd.C_drew ?_))); (case side2 => exact HC0_2.out); rintro e w6 ⟨rfl, hb⟩; refine ⟨_, rfl, ?_⟩; have n0_ := Aside0.mk (blk_below (g := gb362) (o := .cells #[.int .i64 a0_0, .bool a0_1, .slice A0_2 l0_2.length c0_2] 24 (0, 0)) (by (with_reducible repeat (first | refine blk_drewN ?_ _ | refine blk_drew ?_ | refine blk_alloc ?_ _)); exact BK362.out) hb); have n1_ := Aside0.mk (below_step (by repeat (first | (with_reducible first | exact HB.out | apply below_alloc | apply pw_below_drewN | apply below_drew1 | refine below_set ?_ GE362.out) | exact HB.out)) hb); clear BK362; clear HB; have BK362 := n0_; have HB := n1_; clear n0_ n1_; (try clear hb); (try clear hb2); (try clear hk); (try clear hi)))
    go_ret
    exact ⟨by first | rfl | (simp [errW_none, errW_some] <;> rfl) | (simp [*, errW_none, errW_some] <;> rfl), by repeat (first | (with_reducible first | exact HB.out | apply below_alloc | apply pw_below_drewN | apply below_drew1 | refine below_set ?_ GE362.out) | exact HB.out)⟩
  · rw [if_neg c3] at H
    have c3b0 : decide (t363 < 0) = false := decide_eq_false c3
    clear c3
    replace H := Option.bind_eq_some_iff.mp H
    obtain ⟨⟨t364, t365, t366⟩, A70, H⟩ := H
    replace H : ((spec_SettleRow.f k t364 t365 t366).bind fun bt369 => ((laws_toRow.f k a0_0 a0_1 l0_2).bind fun bt377 => ((impl_SettleRow.f k bt377.1 bt377.2.1 bt377.2.2).bind fun bt383 => ((laws_eqRow.f k bt383.1 bt383.2.1 bt383.2.2.1 bt369.1 bt369.2.1 bt369.2.2.1).bind fun t391 => (if t391 = true then (if bt383.2.2.2.1 = bt369.2.2.2.1 then (laws_FnExactSettleRow.j0 k bt369.2.2.2.1 bt369.2.2.2.2 bt383.2.2.2.1 bt383.2.2.2.2 (bt383.2.2.2.2 != bt369.2.2.2.2) a0_0 a0_1 l0_2 bt369.1 bt369.2.1 bt369.2.2.1 bt377.1 bt377.2.1 bt377.2.2 bt383.1 bt383.2.1 bt383.2.2.1) else (laws_FnExactSettleRow.j0 k bt369.2.2.2.1 bt369.2.2.2.2 bt383.2.2.2.1 bt383.2.2.2.2 true a0_0 a0_1 l0_2 bt369.1 bt369.2.1 bt369.2.2.1 bt377.1 bt377.2.1 bt377.2.2 bt383.1 bt383.2.1 bt383.2.2.1)) else (laws_FnExactSettleRow.j0 k bt369.2.2.2.1 bt369.2.2.2.2 bt383.2.2.2.1 bt383.2.2.2.2 true a0_0 a0_1 l0_2 bt369.1 bt369.2.1 bt369.2.2.1 bt377.1 bt377.2.1 bt377.2.2 bt383.1 bt383.2.1 bt383.2.2.1)))))) = some r := H
    have A7 := Aside0.mk A70
    clear A70
    replace H := Option.bind_eq_some_iff.mp H
    obtain ⟨⟨t369, t370, t371, t374, t375⟩, A80, H⟩ := H
    replace H : ((laws_toRow.f k a0_0 a0_1 l0_2).bind fun bt377 => ((impl_SettleRow.f k bt377.1 bt377.2.1 bt377.2.2).bind fun bt383 => ((laws_eqRow.f k bt383.1 bt383.2.1 bt383.2.2.1 t369 t370 t371).bind fun t391 => (if t391 = true then (if bt383.2.2.2.1 = t374 then (laws_FnExactSettleRow.j0 k t374 t375 bt383.2.2.2.1 bt383.2.2.2.2 (bt383.2.2.2.2 != t375) a0_0 a0_1 l0_2 t369 t370 t371 bt377.1 bt377.2.1 bt377.2.2 bt383.1 bt383.2.1 bt383.2.2.1) else (laws_FnExactSettleRow.j0 k t374 t375 bt383.2.2.2.1 bt383.2.2.2.2 true a0_0 a0_1 l0_2 t369 t370 t371 bt377.1 bt377.2.1 bt377.2.2 bt383.1 bt383.2.1 bt383.2.2.1)) else (laws_FnExactSettleRow.j0 k t374 t375 bt383.2.2.2.1 bt383.2.2.2.2 true a0_0 a0_1 l0_2 t369 t370 t371 bt377.1 bt377.2.1 bt377.2.2 bt383.1 bt383.2.1 bt383.2.2.1))))) = some r := H
    have A8 := Aside0.mk A80
    clear A80
    replace H := Option.bind_eq_some_iff.mp H
    obtain ⟨⟨t377, t378, t379⟩, A90, H⟩ := H
    replace H : ((impl_SettleRow.f k t377 t378 t379).bind fun bt383 => ((laws_eqRow.f k bt383.1 bt383.2.1 bt383.2.2.1 t369 t370 t371).bind fun t391 => (if t391 = true then (if bt383.2.2.2.1 = t374 then (laws_FnExactSettleRow.j0 k t374 t375 bt383.2.2.2.1 bt383.2.2.2.2 (bt383.2.2.2.2 != t375) a0_0 a0_1 l0_2 t369 t370 t371 t377 t378 t379 bt383.1 bt383.2.1 bt383.2.2.1) else (laws_FnExactSettleRow.j0 k t374 t375 bt383.2.2.2.1 bt383.2.2.2.2 true a0_0 a0_1 l0_2 t369 t370 t371 t377 t378 t379 bt383.1 bt383.2.1 bt383.2.2.1)) else (laws_FnExactSettleRow.j0 k t374 t375 bt383.2.2.2.1 bt383.2.2.2.2 true a0_0 a0_1 l0_2 t369 t370 t371 t377 t378 t379 bt383.1 bt383.2.1 bt383.2.2.1)))) = some r := H
    have A9 := Aside0.mk A90
    clear A90
    replace H := Option.bind_eq_some_iff.mp H
    obtain ⟨⟨t383, t384, t385, t388, t389⟩, A100, H⟩ := H
    replace H : ((laws_eqRow.f k t383 t384 t385 t369 t370 t371).bind fun t391 => (if t391 = true then (if t388 = t374 then (laws_FnExactSettleRow.j0 k t374 t375 t388 t389 (t389 != t375) a0_0 a0_1 l0_2 t369 t370 t371 t377 t378 t379 t383 t384 t385) else (laws_FnExactSettleRow.j0 k t374 t375 t388 t389 true a0_0 a0_1 l0_2 t369 t370 t371 t377 t378 t379 t383 t384 t385)) else (laws_FnExactSettleRow.j0 k t374 t375 t388 t389 true a0_0 a0_1 l0_2 t369 t370 t371 t377 t378 t379 t383 t384 t385))) = some r := H
    have A10 := Aside0.mk A100
    clear A100
    have HC11 := Aside0.mk H
    clear H
    go_enter Tryd.func3, Tryd.ntmps3
    go_upto_region 8 with (first | ((with_reducible refine gate_dst (N := 1) rfl ?_); refine box_event ?hg (N := 1) ?hd (cs := #[.int .i64 a0_0, .bool a0_1, .slice A0_2 l0_2.length c0_2]) (t := 24) ?hr ?_; (case hd => rfl); (case hg => rfl); (case hr => first | (go_simp; done) | (go_simp; rfl)); intro gb362 hg w12 hbox hb; have n0_ := Aside0.mk (below_step (by repeat (first | (with_reducible first | exact HB.out | apply below_alloc | apply pw_below_drewN | apply below_drew1) | exact HB.out)) hb); have n1_ := Aside0.mk (hbox); have n2_ := Aside0.mk ((by rw [hg]; exact (below_size (by repeat (first | (with_reducible first | exact HB.out | apply below_alloc | apply pw_below_drewN | apply below_drew1) | exact HB.out))) : w.heap.size ≤ gb362)); have n3_ := Aside0.mk ((by rw [hg]; exact (below_size (by repeat (first | (with_reducible first | exact HB.out | apply below_alloc | apply pw_below_drewN | apply below_drew1) | exact HB.out))) : w.heap.size ≤ gb362)); clear HB; have HB := n0_; have BK362 := n1_; have GW362 := n2_; have GE362 := n3_; clear n0_ n1_ n2_ n3_; clear hb hbox hg; have hcz13_0 : w12.cell? ⟨gb362, 0, none⟩ = some (.int .i64 a0_0) := (blk_cell BK362.out 0).trans rfl; have hcz13_1 : w12.cell? ⟨gb362, 1, none⟩ = some (.bool a0_1) := (blk_cell BK362.out 1).trans rfl; have hcz13_2 : w12.cell? ⟨gb362, 2, none⟩ = some (.slice A0_2 l0_2.length c0_2) := (blk_cell BK362.out 2).trans rfl; have hfz13_0 := blk_frozen BK362.out 0; have hfz13_1 := blk_frozen BK362.out 1; have hfz13_2 := blk_frozen BK362.out 2) | ((with_reducible refine gate_callee (f := 8) rfl ?_); refine goesL_ (some 19) rfl rfl Tryd.func8 (by kernel_rfl) rfl #[.agg #[.int .i64 a0_0, .bool a0_1, .slice A0_2 l0_2.length c0_2], .int .i64 1048576] rfl (by (try simp only [List.map_toArray, List.map_cons, List.map_nil]); first | done | rfl | (simp only [List.length_drop, List.length_take]; rfl)) ?_; (with_reducible refine (laws_szRow.calls a0_0 a0_1 _ _ l0_2 1048576 t363 _ ?side1 ?side2 A2.out).mono ?_); (case side1 => repeat (first | exact (Kd.C_below HR0_2.out HB.out) | (with_reducible refine Kd.C_alloc ?_ _) | (with_reducible refine Kd.C_drewN ?_ _) | (with_reducible refine Kd.C_drew ?_))); (case side2 => exact HC0_2.out); rintro e w14 ⟨rfl, hb⟩; refine ⟨_, rfl, ?_⟩; have n0_ := Aside0.mk (blk_below (g := gb362) (o := .cells #[.int .i64 a0_0, .bool a0_1, .slice A0_2 l0_2.length c0_2] 24 (0, 0)) (by (with_reducible repeat (first | refine blk_drewN ?_ _ | refine blk_drew ?_ | refine blk_alloc ?_ _)); exact BK362.out) hb); have n1_ := Aside0.mk (below_step (by repeat (first | (with_reducible first | exact HB.out | apply below_alloc | apply pw_below_drewN | apply below_drew1 | refine below_set ?_ GE362.out) | exact HB.out)) hb); clear BK362; clear HB; have BK362 := n0_; have HB := n1_; clear n0_ n1_; (try clear hb); (try clear hb2); (try clear hk); (try clear hi); have hcz15_0 : w14.cell? ⟨gb362, 0, none⟩ = some (.int .i64 a0_0) := (blk_cell BK362.out 0).trans rfl; have hcz15_1 : w14.cell? ⟨gb362, 1, none⟩ = some (.bool a0_1) := (blk_cell BK362.out 1).trans rfl; have hcz15_2 : w14.cell? ⟨gb362, 2, none⟩ = some (.slice A0_2 l0_2.length c0_2) := (blk_cell BK362.out 2).trans rfl; have hfz15_0 := blk_frozen BK362.out 0; have hfz15_1 := blk_frozen BK362.out 1; have hfz15_2 := blk_frozen BK362.out 2) | ((with_reducible refine gate_callee (f := 10) rfl ?_); refine goesL_ (some 24) rfl rfl Tryd.func10 (by kernel_rfl) rfl #[.agg #[.int .i64 a0_0, .bool a0_1, .slice A0_2 l0_2.length c0_2]] rfl (by (try simp only [List.map_toArray, List.map_cons, List.map_nil]); first | done | rfl | (simp only [List.length_drop, List.length_take]; rfl)) ?_; (with_reducible refine (laws_toRow.calls k a0_0 a0_1 _ _ l0_2 t364 t365 t366 _ ?side1 ?side2 A7.out).mono ?_); (case side1 => repeat (first | exact (Kd.C_below HR0_2.out HB.out) | (with_reducible refine Kd.C_alloc ?_ _) | (with_reducible refine Kd.C_drewN ?_ _) | (with_reducible refine Kd.C_drew ?_))); (case side2 => exact HC0_2.out); rintro e w16 ⟨v367, rfl, ho0, hb⟩; refine ⟨_, rfl, ?_⟩; have n0_ := Aside0.mk (Kd.R_lower ho0 (below_size (by repeat (first | (with_reducible first | exact HB.out | apply below_alloc | apply pw_below_drewN | apply below_drew1 | refine below_set ?_ GE362.out) | exact HB.out)))); have n1_ := Aside0.mk (blk_below (g := gb362) (o := .cells #[.int .i64 a0_0, .bool a0_1, .slice A0_2 l0_2.length c0_2] 24 (0, 0)) (by (with_reducible repeat (first | refine blk_drewN ?_ _ | refine blk_drew ?_ | refine blk_alloc ?_ _)); exact BK362.out) hb); have n2_ := Aside0.mk (below_step (by repeat (first | (with_reducible first | exact HB.out | apply below_alloc | apply pw_below_drewN | apply below_drew1 | refine below_set ?_ GE362.out) | exact HB.out)) hb); clear BK362; clear HB; have HO368 := n0_; have BK362 := n1_; have HB := n2_; clear n0_ n1_ n2_; (try clear hb); (try clear hb2); (try clear hk); (try clear hi); (try clear ho0); obtain ⟨Ao17, co17, eo17⟩ := Kd.R_slice HO368.out; subst eo17) | ((with_reducible refine gate_callee (f := 9) rfl ?_); refine goesL_ (some 25) rfl rfl Tryd.func9 (by kernel_rfl) rfl #[.agg #[.int .i64 t364, .bool t365, .slice Ao17 t366.length co17]] rfl (by (try simp only [List.map_toArray, List.map_cons, List.map_nil]); first | done | rfl | (simp only [List.length_drop, List.length_take]; rfl)) ?_; (with_reducible refine (spec_SettleRow.calls k t364 t365 _ _ t366 t369 t370 t371 t374 t375 _ ?side1 ?side2 A8.out).mono ?_); (case side1 => repeat (first | exact (Kd.R_reads' HO368.out).2.2 | (with_reducible refine Kd.C_alloc ?_ _) | (with_reducible refine Kd.C_drewN ?_ _) | (with_reducible refine Kd.C_drew ?_))); (case side2 => exact (Kd.R_reads' HO368.out).2.1); rintro e w18 ⟨v372, rfl, ho0, hb⟩; refine ⟨_, rfl, ?_⟩; have n0_ := Aside0.mk (Kd.R_below (by (with_reducible repeat (first | apply Kd.R_alloc | apply Kd.R_drewN | apply Kd.R_drew)); exact HO368.out) hb); have n1_ := Aside0.mk (Kd.V_lower (Kd.V_mono (ok' := fun k_ => some k_ ≠ (.slice Ao17 t366.length co17 : Value).ownBlock ∧ k_ ≠ gb362) ho0 (fun k_ hk_ => ⟨(Kd.fresh' (Kd.R_lt (by (with_reducible repeat (first | apply Kd.R_alloc | apply Kd.R_drewN | apply Kd.R_drew)); exact HO368.out)) k_ hk_), (Kd.freshB (g := gb362) (o := .cells #[.int .i64 a0_0, .bool a0_1, .slice A0_2 l0_2.length c0_2] 24 (0, 0)) (by (with_reducible repeat (first | refine blk_drewN ?_ _ | refine blk_drew ?_ | refine blk_alloc ?_ _)); exact BK362.out) k_ hk_)⟩)) (below_size (by repeat (first | (with_reducible first | exact HB.out | apply below_alloc | apply pw_below_drewN | apply below_drew1 | refine below_set ?_ GE362.out) | exact HB.out)))); have n2_ := Aside0.mk (blk_below (g := gb362) (o := .cells #[.int .i64 a0_0, .bool a0_1, .slice A0_2 l0_2.length c0_2] 24 (0, 0)) (by (with_reducible repeat (first | refine blk_drewN ?_ _ | refine blk_drew ?_ | refine blk_alloc ?_ _)); exact BK362.out) hb); have n3_ := Aside0.mk (below_step (by repeat (first | (with_reducible first | exact HB.out | apply below_alloc | apply pw_below_drewN | apply below_drew1 | refine below_set ?_ GE362.out) | exact HB.out)) hb); clear HO368; clear BK362; clear HB; have HO368 := n0_; have HO373 := n1_; have BK362 := n2_; have HB := n3_; clear n0_ n1_ n2_ n3_; (try clear hb); (try clear hb2); (try clear hk); (try clear hi); (try clear ho0)) | ((with_reducible refine gate_dst (N := 4) rfl ?_); refine box_event ?hg (N := 4) ?hd (cs := #[.int .i64 0, .bool false, .slice none 0 0]) (t := 26) ?hr ?_; (case hd => rfl); (case hg => rfl); (case hr => first | (go_simp; done) | (go_simp; rfl)); intro gb376 hg w19 hbox hb; have n0_ := Aside0.mk (Kd.R_below (by (with_reducible repeat (first | apply Kd.R_alloc | apply Kd.R_drewN | apply Kd.R_drew)); exact HO368.out) hb); have n1_ := Aside0.mk (Kd.V_below (Kd.V_elderB (by (with_reducible repeat (first | apply Kd.V_alloc | apply Kd.V_drewN | apply Kd.V_drew)); exact HO373.out) gb376 (Nat.le_of_eq hg.symm)) hb); have n2_ := Aside0.mk (blk_below (g := gb362) (o := .cells #[.int .i64 a0_0, .bool a0_1, .slice A0_2 l0_2.length c0_2] 24 (0, 0)) (by (with_reducible repeat (first | refine blk_drewN ?_ _ | refine blk_drew ?_ | refine blk_alloc ?_ _)); exact BK362.out) hb); have n3_ := Aside0.mk (below_step (by repeat (first | (with_reducible first | exact HB.out | apply below_alloc | apply pw_below_drewN | apply below_drew1 | refine below_set ?_ GE362.out) | exact HB.out)) hb); have n4_ := Aside0.mk (hbox); have n5_ := Aside0.mk ((by rw [hg]; exact (below_size (by repeat (first | (with_reducible first | exact HB.out | apply below_alloc | apply pw_below_drewN | apply below_drew1 | refine below_set ?_ GE362.out) | exact HB.out))) : w.heap.size ≤ gb376)); have n6_ := Aside0.mk ((by rw [hg]; exact (below_size (by repeat (first | (with_reducible first | exact HB.out | apply below_alloc | apply pw_below_drewN | apply below_drew1 | refine below_set ?_ GE362.out) | exact HB.out))) : w.heap.size ≤ gb376)); have n7_ := Aside0.mk ((by rw [hg]; exact Nat.ne_of_lt (blk_lt (g := gb362) (o := .cells #[.int .i64 a0_0, .bool a0_1, .slice A0_2 l0_2.length c0_2] 24 (0, 0)) (by (with_reducible repeat (first | refine blk_drewN ?_ _ | refine blk_drew ?_ | refine blk_alloc ?_ _)); exact BK362.out)) : gb362 ≠ gb376)); have n8_ := Aside0.mk ((by rw [hg]; exact Nat.ne_of_gt (blk_lt (g := gb362) (o := .cells #[.int .i64 a0_0, .bool a0_1, .slice A0_2 l0_2.length c0_2] 24 (0, 0)) (by (with_reducible repeat (first | refine blk_drewN ?_ _ | refine blk_drew ?_ | refine blk_alloc ?_ _)); exact BK362.out)) : gb376 ≠ gb362)); clear HO368; clear HO373; clear BK362; clear HB; have HO368 := n0_; have HO373 := n1_; have BK362 := n2_; have HB := n3_; have BK376 := n4_; have GW376 := n5_; have GE376 := n6_; have NB362_376 := n7_; have NB376_362 := n8_; clear n0_ n1_ n2_ n3_ n4_ n5_ n6_ n7_ n8_; clear hb hbox hg; have hnb20 := NB376_362.out; have hnc20 := NB362_376.out; have hcz21_0 : w19.cell? ⟨gb376, 0, none⟩ = some (.int .i64 0) := (blk_cell BK376.out 0).trans rfl; have hcz21_1 : w19.cell? ⟨gb376, 1, none⟩ = some (.bool false) := (blk_cell BK376.out 1).trans rfl; have hcz21_2 : w19.cell? ⟨gb376, 2, none⟩ = some (.slice none 0 0) := (blk_cell BK376.out 2).trans rfl; have hfz21_0 := blk_frozen BK376.out 0; have hfz21_1 := blk_frozen BK376.out 1; have hfz21_2 := blk_frozen BK376.out 2; obtain ⟨Ao22, co22, eo22⟩ := Kd.V_slice HO373.out; subst eo22; have hcz23_0 : w19.cell? ⟨gb362, 0, none⟩ = some (.int .i64 a0_0) := (blk_cell BK362.out 0).trans rfl; have hcz23_1 : w19.cell? ⟨gb362, 1, none⟩ = some (.bool a0_1) := (blk_cell BK362.out 1).trans rfl; have hcz23_2 : w19.cell? ⟨gb362, 2, none⟩ = some (.slice A0_2 l0_2.length c0_2) := (blk_cell BK362.out 2).trans rfl; have hfz23_0 := blk_frozen BK362.out 0; have hfz23_1 := blk_frozen BK362.out 1; have hfz23_2 := blk_frozen BK362.out 2) | ((with_reducible refine gate_callee (f := 10) rfl ?_); refine goesL_ (some 30) rfl rfl Tryd.func10 (by kernel_rfl) rfl #[.agg #[.int .i64 a0_0, .bool a0_1, .slice A0_2 l0_2.length c0_2]] rfl (by (try simp only [List.map_toArray, List.map_cons, List.map_nil]); first | done | rfl | (simp only [List.length_drop, List.length_take]; rfl)) ?_; (with_reducible refine (laws_toRow.calls k a0_0 a0_1 _ _ l0_2 t377 t378 t379 _ ?side1 ?side2 A9.out).mono ?_); (case side1 => exact Kd.C_below HR0_2.out (by repeat (first | (with_reducible first | exact HB.out | apply below_alloc | apply pw_below_drewN | apply below_drew1 | refine below_set ?_ GE362.out | refine below_set ?_ GE376.out) | exact HB.out))); (case side2 => exact HC0_2.out); rintro e w24 ⟨v380, rfl, ho0, hb⟩; refine ⟨_, rfl, ?_⟩; have n0_ := Aside0.mk (Kd.R_elder' (by (with_reducible repeat (first | apply Kd.R_alloc | apply Kd.R_drewN | apply Kd.R_drew)); exact (Kd.R_mono (Kd.R_far (p := ⟨gb376, 2, none⟩) (Kd.R_far (p := ⟨gb376, 1, none⟩) (Kd.R_far (p := ⟨gb376, 0, none⟩) (Kd.R_types HO368.out BK376.out (by decide)) (fun _ hk => hk.2) (.int .i64 t369)) (fun _ hk => hk.2) (.bool t370)) (fun _ hk => hk.2) (.slice Ao22 t371.length co22)) (fun _ h_ => h_.1))) (Kd.R_base ho0) hb); have n1_ := Aside0.mk (Kd.V_elder' (by (with_reducible repeat (first | apply Kd.V_alloc | apply Kd.V_drewN | apply Kd.V_drew)); exact (Kd.V_mono (Kd.V_far (p := ⟨gb376, 2, none⟩) (Kd.V_far (p := ⟨gb376, 1, none⟩) (Kd.V_far (p := ⟨gb376, 0, none⟩) (Kd.V_mono HO373.out (fun k_ hk => (⟨hk, hk.2⟩ : _ ∧ k_ ≠ gb376))) (fun _ hk => hk.2) (.int .i64 t369)) (fun _ hk => hk.2) (.bool t370)) (fun _ hk => hk.2) (.slice Ao22 t371.length co22)) (fun _ h_ => h_.1))) (Kd.R_base ho0) hb); have n2_ := Aside0.mk (Kd.R_lower (Kd.R_new' ho0 (Kd.R_lt (by (with_reducible repeat (first | apply Kd.R_alloc | apply Kd.R_drewN | apply Kd.R_drew)); exact (Kd.R_mono (Kd.R_far (p := ⟨gb376, 2, none⟩) (Kd.R_far (p := ⟨gb376, 1, none⟩) (Kd.R_far (p := ⟨gb376, 0, none⟩) (Kd.R_types HO368.out BK376.out (by decide)) (fun _ hk => hk.2) (.int .i64 t369)) (fun _ hk => hk.2) (.bool t370)) (fun _ hk => hk.2) (.slice Ao22 t371.length co22)) (fun _ h_ => h_.1))))) (below_size (by repeat (first | (with_reducible first | exact HB.out | apply below_alloc | apply pw_below_drewN | apply below_drew1 | refine below_set ?_ GE362.out | refine below_set ?_ GE376.out) | exact HB.out)))); have n3_ := Aside0.mk (blk_below (g := gb362) (o := .cells #[.int .i64 a0_0, .bool a0_1, .slice A0_2 l0_2.length c0_2] 24 (0, 0)) (by (with_reducible repeat (first | refine blk_drewN ?_ _ | refine blk_drew ?_ | refine blk_alloc ?_ _)); refine blk_far ?_ NB362_376.out _; (with_reducible repeat (first | refine blk_drewN ?_ _ | refine blk_drew ?_ | refine blk_alloc ?_ _)); refine blk_far ?_ NB362_376.out _; (with_reducible repeat (first | refine blk_drewN ?_ _ | refine blk_drew ?_ | refine blk_alloc ?_ _)); refine blk_far ?_ NB362_376.out _; (with_reducible repeat (first | refine blk_drewN ?_ _ | refine blk_drew ?_ | refine blk_alloc ?_ _)); exact BK362.out) hb); have n4_ := Aside0.mk (blk_below (g := gb376) (o := .cells #[.int .i64 t369, .bool t370, .slice Ao22 t371.length co22] 26 (0, 0)) (by (with_reducible repeat (first | refine blk_drewN ?_ _ | refine blk_drew ?_ | refine blk_alloc ?_ _)); refine blk_put (cs := #[.int .i64 t369, .bool t370, .slice none 0 0]) ?_ 2 _ rfl; (with_reducible repeat (first | refine blk_drewN ?_ _ | refine blk_drew ?_ | refine blk_alloc ?_ _)); refine blk_put (cs := #[.int .i64 t369, .bool false, .slice none 0 0]) ?_ 1 _ rfl; (with_reducible repeat (first | refine blk_drewN ?_ _ | refine blk_drew ?_ | refine blk_alloc ?_ _)); refine blk_put (cs := #[.int .i64 0, .bool false, .slice none 0 0]) ?_ 0 _ rfl; (with_reducible repeat (first | refine blk_drewN ?_ _ | refine blk_drew ?_ | refine blk_alloc ?_ _)); exact BK376.out) hb); have n5_ := Aside0.mk (below_step (by repeat (first | (with_reducible first | exact HB.out | apply below_alloc | apply pw_below_drewN | apply below_drew1 | refine below_set ?_ GE362.out | refine below_set ?_ GE376.out) | exact HB.out)) hb); clear HO368; clear HO373; clear BK362; clear BK376; clear HB; have HO368 := n0_; have HO373 := n1_; have HO381 := n2_; have BK362 := n3_; have BK376 := n4_; have HB := n5_; clear n0_ n1_ n2_ n3_ n4_ n5_; (try clear hb); (try clear hb2); (try clear hk); (try clear hi); (try clear ho0)) | ((with_reducible refine gate_dst (N := 7) rfl ?_); refine box_event ?hg (N := 7) ?hd (cs := #[.int .i64 0, .bool false, .slice none 0 0]) (t := 26) ?hr ?_; (case hd => rfl); (case hg => rfl); (case hr => first | (go_simp; done) | (go_simp; rfl)); intro gb382 hg w25 hbox hb; have n0_ := Aside0.mk (Kd.R_below (by (with_reducible repeat (first | apply Kd.R_alloc | apply Kd.R_drewN | apply Kd.R_drew)); exact HO368.out) hb); have n1_ := Aside0.mk (Kd.V_below (Kd.V_elderB (by (with_reducible repeat (first | apply Kd.V_alloc | apply Kd.V_drewN | apply Kd.V_drew)); exact HO373.out) gb382 (Nat.le_of_eq hg.symm)) hb); have n2_ := Aside0.mk (Kd.R_below (by (with_reducible repeat (first | apply Kd.R_alloc | apply Kd.R_drewN | apply Kd.R_drew)); exact HO381.out) hb); have n3_ := Aside0.mk (blk_below (g := gb362) (o := .cells #[.int .i64 a0_0, .bool a0_1, .slice A0_2 l0_2.length c0_2] 24 (0, 0)) (by (with_reducible repeat (first | refine blk_drewN ?_ _ | refine blk_drew ?_ | refine blk_alloc ?_ _)); exact BK362.out) hb); have n4_ := Aside0.mk (blk_below (g := gb376) (o := .cells #[.int .i64 t369, .bool t370, .slice Ao22 t371.length co22] 26 (0, 0)) (by (with_reducible repeat (first | refine blk_drewN ?_ _ | refine blk_drew ?_ | refine blk_alloc ?_ _)); exact BK376.out) hb); have n5_ := Aside0.mk (below_step (by repeat (first | (with_reducible first | exact HB.out | apply below_alloc | apply pw_below_drewN | apply below_drew1 | refine below_set ?_ GE362.out | refine below_set ?_ GE376.out) | exact HB.out)) hb); have n6_ := Aside0.mk (hbox); have n7_ := Aside0.mk ((by rw [hg]; exact (below_size (by repeat (first | (with_reducible first | exact HB.out | apply below_alloc | apply pw_below_drewN | apply below_drew1 | refine below_set ?_ GE362.out | refine below_set ?_ GE376.out) | exact HB.out))) : w.heap.size ≤ gb382)); have n8_ := Aside0.mk ((by rw [hg]; exact (below_size (by repeat (first | (with_reducible first | exact HB.out | apply below_alloc | apply pw_below_drewN | apply below_drew1 | refine below_set ?_ GE362.out | refine below_set ?_ GE376.out) | exact HB.out))) : w.heap.size ≤ gb382)); have n9_ := Aside0.mk ((by rw [hg]; exact Nat.ne_of_lt (blk_lt (g := gb362) (o := .cells #[.int .i64 a0_0, .bool a0_1, .slice A0_2 l0_2.length c0_2] 24 (0, 0)) (by (with_reducible repeat (first | refine blk_drewN ?_ _ | refine blk_drew ?_ | refine blk_alloc ?_ _)); exact BK362.out)) : gb362 ≠ gb382)); have n10_ := Aside0.mk ((by rw [hg]; exact Nat.ne_of_gt (blk_lt (g := gb362) (o := .cells #[.int .i64 a0_0, .bool a0_1, .slice A0_2 l0_2.length c0_2] 24 (0, 0)) (by (with_reducible repeat (first | refine blk_drewN ?_ _ | refine blk_drew ?_ | refine blk_alloc ?_ _)); exact BK362.out)) : gb382 ≠ gb362)); have n11_ := Aside0.mk ((by rw [hg]; exact Nat.ne_of_lt (blk_lt (g := gb376) (o := .cells #[.int .i64 t369, .bool t370, .slice Ao22 t371.length co22] 26 (0, 0)) (by (with_reducible repeat (first | refine blk_drewN ?_ _ | refine blk_drew ?_ | refine blk_alloc ?_ _)); exact BK376.out)) : gb376 ≠ gb382)); have n12_ := Aside0.mk ((by rw [hg]; exact Nat.ne_of_gt (blk_lt (g := gb376) (o := .cells #[.int .i64 t369, .bool t370, .slice Ao22 t371.length co22] 26 (0, 0)) (by (with_reducible repeat (first | refine blk_drewN ?_ _ | refine blk_drew ?_ | refine blk_alloc ?_ _)); exact BK376.out)) : gb382 ≠ gb376)); clear HO368; clear HO373; clear HO381; clear BK362; clear BK376; clear HB; have HO368 := n0_; have HO373 := n1_; have HO381 := n2_; have BK362 := n3_; have BK376 := n4_; have HB := n5_; have BK382 := n6_; have GW382 := n7_; have GE382 := n8_; have NB362_382 := n9_; have NB382_362 := n10_; have NB376_382 := n11_; have NB382_376 := n12_; clear n0_ n1_ n2_ n3_ n4_ n5_ n6_ n7_ n8_ n9_ n10_ n11_ n12_; clear hb hbox hg; have hnb26 := NB382_362.out; have hnc26 := NB362_382.out; have hnb27 := NB382_376.out; have hnc27 := NB376_382.out; have hcz28_0 : w25.cell? ⟨gb382, 0, none⟩ = some (.int .i64 0) := (blk_cell BK382.out 0).trans rfl; have hcz28_1 : w25.cell? ⟨gb382, 1, none⟩ = some (.bool false) := (blk_cell BK382.out 1).trans rfl; have hcz28_2 : w25.cell? ⟨gb382, 2, none⟩ = some (.slice none 0 0) := (blk_cell BK382.out 2).trans rfl; have hfz28_0 := blk_frozen BK382.out 0; have hfz28_1 := blk_frozen BK382.out 1; have hfz28_2 := blk_frozen BK382.out 2; obtain ⟨Ao29, co29, eo29⟩ := Kd.R_slice HO381.out; subst eo29) | ((with_reducible refine gate_callee (f := 11) rfl ?_); refine goesL_ (some 33) rfl rfl Tryd.func11 (by kernel_rfl) rfl #[.agg #[.int .i64 t377, .bool t378, .slice Ao29 t379.length co29]] rfl (by (try simp only [List.map_toArray, List.map_cons, List.map_nil]); first | done | rfl | (simp only [List.length_drop, List.length_take]; rfl)) ?_; (with_reducible refine (impl_SettleRow.calls k t377 t378 _ _ t379 t383 t384 t385 t388 t389 _ ?side1 ?side2 ?side3 A10.out).mono ?_); (case side1 => refine (Kd.R_reads' (e := 3) (base := w.heap.size) (ok := fun k_ => (True ∧ some k_ ≠ (.slice Ao17 t366.length co17 : Value).ownBlock)) (n := t379.length) (c := co29) ?_).2.2; exact (by (with_reducible repeat (first | apply Kd.R_alloc | apply Kd.R_drewN | apply Kd.R_drew)); exact (Kd.R_mono (Kd.R_far (p := ⟨gb382, 2, none⟩) (Kd.R_far (p := ⟨gb382, 1, none⟩) (Kd.R_far (p := ⟨gb382, 0, none⟩) (Kd.R_types HO381.out BK382.out (by decide)) (fun _ hk => hk.2) (.int .i64 t377)) (fun _ hk => hk.2) (.bool t378)) (fun _ hk => hk.2) (.slice Ao29 t379.length co29)) (fun _ h_ => h_.1)))); (case side2 => exact (Kd.R_reads' HO381.out).2.1); (case side3 => first | exact HT.out | exact XTab.below HT.out (by repeat (first | (with_reducible first | exact HB.out | apply below_alloc | apply pw_below_drewN | apply below_drew1 | refine below_set ?_ GE362.out | refine below_set ?_ GE376.out | refine below_set ?_ GE382.out) | exact HB.out)) | (repeat (first | exact HT.out | apply XTab.drewN | apply XTab.drew | apply XTab.alloc))); rintro e w30 ⟨v386, rfl, ho0, hb⟩; refine ⟨_, rfl, ?_⟩; have n0_ := Aside0.mk (Kd.R_elder' (by (with_reducible repeat (first | apply Kd.R_alloc | apply Kd.R_drewN | apply Kd.R_drew)); exact (Kd.R_mono (Kd.R_far (p := ⟨gb382, 2, none⟩) (Kd.R_far (p := ⟨gb382, 1, none⟩) (Kd.R_far (p := ⟨gb382, 0, none⟩) (Kd.R_types HO368.out BK382.out (by decide)) (fun _ hk => hk.2) (.int .i64 t377)) (fun _ hk => hk.2) (.bool t378)) (fun _ hk => hk.2) (.slice Ao29 t379.length co29)) (fun _ h_ => h_.1))) (Kd.R_base ho0) hb); have n1_ := Aside0.mk (Kd.V_elder' (by (with_reducible repeat (first | apply Kd.V_alloc | apply Kd.V_drewN | apply Kd.V_drew)); exact (Kd.V_mono (Kd.V_far (p := ⟨gb382, 2, none⟩) (Kd.V_far (p := ⟨gb382, 1, none⟩) (Kd.V_far (p := ⟨gb382, 0, none⟩) (Kd.V_mono HO373.out (fun k_ hk => (⟨hk, hk.2⟩ : _ ∧ k_ ≠ gb382))) (fun _ hk => hk.2) (.int .i64 t377)) (fun _ hk => hk.2) (.bool t378)) (fun _ hk => hk.2) (.slice Ao29 t379.length co29)) (fun _ h_ => h_.1))) (Kd.R_base ho0) hb); have n2_ := Aside0.mk (Kd.R_elder' (by (with_reducible repeat (first | apply Kd.R_alloc | apply Kd.R_drewN | apply Kd.R_drew)); exact (Kd.R_mono (Kd.R_far (p := ⟨gb382, 2, none⟩) (Kd.R_far (p := ⟨gb382, 1, none⟩) (Kd.R_far (p := ⟨gb382, 0, none⟩) (Kd.R_types HO381.out BK382.out (by decide)) (fun _ hk => hk.2) (.int .i64 t377)) (fun _ hk => hk.2) (.bool t378)) (fun _ hk => hk.2) (.slice Ao29 t379.length co29)) (fun _ h_ => h_.1))) (Kd.R_base ho0) hb); have n3_ := Aside0.mk (Kd.R_lower (Kd.R_new' (Kd.R_new' ho0 (Kd.R_lt (by (with_reducible repeat (first | apply Kd.R_alloc | apply Kd.R_drewN | apply Kd.R_drew)); exact (Kd.R_mono (Kd.R_far (p := ⟨gb382, 2, none⟩) (Kd.R_far (p := ⟨gb382, 1, none⟩) (Kd.R_far (p := ⟨gb382, 0, none⟩) (Kd.R_types HO368.out BK382.out (by decide)) (fun _ hk => hk.2) (.int .i64 t377)) (fun _ hk => hk.2) (.bool t378)) (fun _ hk => hk.2) (.slice Ao29 t379.length co29)) (fun _ h_ => h_.1))))) (Kd.R_lt (by (with_reducible repeat (first | apply Kd.R_alloc | apply Kd.R_drewN | apply Kd.R_drew)); exact (Kd.R_mono (Kd.R_far (p := ⟨gb382, 2, none⟩) (Kd.R_far (p := ⟨gb382, 1, none⟩) (Kd.R_far (p := ⟨gb382, 0, none⟩) (Kd.R_types HO381.out BK382.out (by decide)) (fun _ hk => hk.2) (.int .i64 t377)) (fun _ hk => hk.2) (.bool t378)) (fun _ hk => hk.2) (.slice Ao29 t379.length co29)) (fun _ h_ => h_.1))))) (below_size (by repeat (first | (with_reducible first | exact HB.out | apply below_alloc | apply pw_below_drewN | apply below_drew1 | refine below_set ?_ GE362.out | refine below_set ?_ GE376.out | refine below_set ?_ GE382.out) | exact HB.out)))); have n4_ := Aside0.mk (blk_below (g := gb362) (o := .cells #[.int .i64 a0_0, .bool a0_1, .slice A0_2 l0_2.length c0_2] 24 (0, 0)) (by (with_reducible repeat (first | refine blk_drewN ?_ _ | refine blk_drew ?_ | refine blk_alloc ?_ _)); refine blk_far ?_ NB362_382.out _; (with_reducible repeat (first | refine blk_drewN ?_ _ | refine blk_drew ?_ | refine blk_alloc ?_ _)); refine blk_far ?_ NB362_382.out _; (with_reducible repeat (first | refine blk_drewN ?_ _ | refine blk_drew ?_ | refine blk_alloc ?_ _)); refine blk_far ?_ NB362_382.out _; (with_reducible repeat (first | refine blk_drewN ?_ _ | refine blk_drew ?_ | refine blk_alloc ?_ _)); exact BK362.out) hb); have n5_ := Aside0.mk (blk_below (g := gb376) (o := .cells #[.int .i64 t369, .bool t370, .slice Ao22 t371.length co22] 26 (0, 0)) (by (with_reducible repeat (first | refine blk_drewN ?_ _ | refine blk_drew ?_ | refine blk_alloc ?_ _)); refine blk_far ?_ NB376_382.out _; (with_reducible repeat (first | refine blk_drewN ?_ _ | refine blk_drew ?_ | refine blk_alloc ?_ _)); refine blk_far ?_ NB376_382.out _; (with_reducible repeat (first | refine blk_drewN ?_ _ | refine blk_drew ?_ | refine blk_alloc ?_ _)); refine blk_far ?_ NB376_382.out _; (with_reducible repeat (first | refine blk_drewN ?_ _ | refine blk_drew ?_ | refine blk_alloc ?_ _)); exact BK376.out) hb); have n6_ := Aside0.mk (blk_below (g := gb382) (o := .cells #[.int .i64 t377, .bool t378, .slice Ao29 t379.length co29] 26 (0, 0)) (by (with_reducible repeat (first | refine blk_drewN ?_ _ | refine blk_drew ?_ | refine blk_alloc ?_ _)); refine blk_put (cs := #[.int .i64 t377, .bool t378, .slice none 0 0]) ?_ 2 _ rfl; (with_reducible repeat (first | refine blk_drewN ?_ _ | refine blk_drew ?_ | refine blk_alloc ?_ _)); refine blk_put (cs := #[.int .i64 t377, .bool false, .slice none 0 0]) ?_ 1 _ rfl; (with_reducible repeat (first | refine blk_drewN ?_ _ | refine blk_drew ?_ | refine blk_alloc ?_ _)); refine blk_put (cs := #[.int .i64 0, .bool false, .slice none 0 0]) ?_ 0 _ rfl; (with_reducible repeat (first | refine blk_drewN ?_ _ | refine blk_drew ?_ | refine blk_alloc ?_ _)); exact BK382.out) hb); have n7_ := Aside0.mk (below_step (by repeat (first | (with_reducible first | exact HB.out | apply below_alloc | apply pw_below_drewN | apply below_drew1 | refine below_set ?_ GE362.out | refine below_set ?_ GE376.out | refine below_set ?_ GE382.out) | exact HB.out)) hb); clear HO368; clear HO373; clear HO381; clear BK362; clear BK376; clear BK382; clear HB; have HO368 := n0_; have HO373 := n1_; have HO381 := n2_; have HO387 := n3_; have BK362 := n4_; have BK376 := n5_; have BK382 := n6_; have HB := n7_; clear n0_ n1_ n2_ n3_ n4_ n5_ n6_ n7_; (try clear hb); (try clear hb2); (try clear hk); (try clear hi); (try clear ho0)) | ((with_reducible refine gate_dst (N := 8) rfl ?_); refine box_event ?hg (N := 8) ?hd (cs := #[.int .i64 0, .bool false, .slice none 0 0]) (t := 26) ?hr ?_; (case hd => rfl); (case hg => rfl); (case hr => first | (go_simp; done) | (go_simp; rfl)); intro gb390 hg w31 hbox hb; have n0_ := Aside0.mk (Kd.R_below (by (with_reducible repeat (first | apply Kd.R_alloc | apply Kd.R_drewN | apply Kd.R_drew)); exact HO368.out) hb); have n1_ := Aside0.mk (Kd.V_below (Kd.V_elderB (by (with_reducible repeat (first | apply Kd.V_alloc | apply Kd.V_drewN | apply Kd.V_drew)); exact HO373.out) gb390 (Nat.le_of_eq hg.symm)) hb); have n2_ := Aside0.mk (Kd.R_below (by (with_reducible repeat (first | apply Kd.R_alloc | apply Kd.R_drewN | apply Kd.R_drew)); exact HO381.out) hb); have n3_ := Aside0.mk (Kd.R_below (by (with_reducible repeat (first | apply Kd.R_alloc | apply Kd.R_drewN | apply Kd.R_drew)); exact HO387.out) hb); have n4_ := Aside0.mk (blk_below (g := gb362) (o := .cells #[.int .i64 a0_0, .bool a0_1, .slice A0_2 l0_2.length c0_2] 24 (0, 0)) (by (with_reducible repeat (first | refine blk_drewN ?_ _ | refine blk_drew ?_ | refine blk_alloc ?_ _)); exact BK362.out) hb); have n5_ := Aside0.mk (blk_below (g := gb376) (o := .cells #[.int .i64 t369, .bool t370, .slice Ao22 t371.length co22] 26 (0, 0)) (by (with_reducible repeat (first | refine blk_drewN ?_ _ | refine blk_drew ?_ | refine blk_alloc ?_ _)); exact BK376.out) hb); have n6_ := Aside0.mk (blk_below (g := gb382) (o := .cells #[.int .i64 t377, .bool t378, .slice Ao29 t379.length co29] 26 (0, 0)) (by (with_reducible repeat (first | refine blk_drewN ?_ _ | refine blk_drew ?_ | refine blk_alloc ?_ _)); exact BK382.out) hb); have n7_ := Aside0.mk (below_step (by repeat (first | (with_reducible first | exact HB.out | apply below_alloc | apply pw_below_drewN | apply below_drew1 | refine below_set ?_ GE362.out | refine below_set ?_ GE376.out | refine below_set ?_ GE382.out) | exact HB.out)) hb); have n8_ := Aside0.mk (hbox); have n9_ := Aside0.mk ((by rw [hg]; exact (below_size (by repeat (first | (with_reducible first | exact HB.out | apply below_alloc | apply pw_below_drewN | apply below_drew1 | refine below_set ?_ GE362.out | refine below_set ?_ GE376.out | refine below_set ?_ GE382.out) | exact HB.out))) : w.heap.size ≤ gb390)); have n10_ := Aside0.mk ((by rw [hg]; exact (below_size (by repeat (first | (with_reducible first | exact HB.out | apply below_alloc | apply pw_below_drewN | apply below_drew1 | refine below_set ?_ GE362.out | refine below_set ?_ GE376.out | refine below_set ?_ GE382.out) | exact HB.out))) : w.heap.size ≤ gb390)); have n11_ := Aside0.mk ((by rw [hg]; exact Nat.ne_of_lt (blk_lt (g := gb362) (o := .cells #[.int .i64 a0_0, .bool a0_1, .slice A0_2 l0_2.length c0_2] 24 (0, 0)) (by (with_reducible repeat (first | refine blk_drewN ?_ _ | refine blk_drew ?_ | refine blk_alloc ?_ _)); exact BK362.out)) : gb362 ≠ gb390)); have n12_ := Aside0.mk ((by rw [hg]; exact Nat.ne_of_gt (blk_lt (g := gb362) (o := .cells #[.int .i64 a0_0, .bool a0_1, .slice A0_2 l0_2.length c0_2] 24 (0, 0)) (by (with_reducible repeat (first | refine blk_drewN ?_ _ | refine blk_drew ?_ | refine blk_alloc ?_ _)); exact BK362.out)) : gb390 ≠ gb362)); have n13_ := Aside0.mk ((by rw [hg]; exact Nat.ne_of_lt (blk_lt (g := gb376) (o := .cells #[.int .i64 t369, .bool t370, .slice Ao22 t371.length co22] 26 (0, 0)) (by (with_reducible repeat (first | refine blk_drewN ?_ _ | refine blk_drew ?_ | refine blk_alloc ?_ _)); exact BK376.out)) : gb376 ≠ gb390)); have n14_ := Aside0.mk ((by rw [hg]; exact Nat.ne_of_gt (blk_lt (g := gb376) (o := .cells #[.int .i64 t369, .bool t370, .slice Ao22 t371.length co22] 26 (0, 0)) (by (with_reducible repeat (first | refine blk_drewN ?_ _ | refine blk_drew ?_ | refine blk_alloc ?_ _)); exact BK376.out)) : gb390 ≠ gb376)); have n15_ := Aside0.mk ((by rw [hg]; exact Nat.ne_of_lt (blk_lt (g := gb382) (o := .cells #[.int .i64 t377, .bool t378, .slice Ao29 t379.length co29] 26 (0, 0)) (by (with_reducible repeat (first | refine blk_drewN ?_ _ | refine blk_drew ?_ | refine blk_alloc ?_ _)); exact BK382.out)) : gb382 ≠ gb390)); have n16_ := Aside0.mk ((by rw [hg]; exact Nat.ne_of_gt (blk_lt (g := gb382) (o := .cells #[.int .i64 t377, .bool t378, .slice Ao29 t379.length co29] 26 (0, 0)) (by (with_reducible repeat (first | refine blk_drewN ?_ _ | refine blk_drew ?_ | refine blk_alloc ?_ _)); exact BK382.out)) : gb390 ≠ gb382)); clear HO368; clear HO373; clear HO381; clear HO387; clear BK362; clear BK376; clear BK382; clear HB; have HO368 := n0_; have HO373 := n1_; have HO381 := n2_; have HO387 := n3_; have BK362 := n4_; have BK376 := n5_; have BK382 := n6_; have HB := n7_; have BK390 := n8_; have GW390 := n9_; have GE390 := n10_; have NB362_390 := n11_; have NB390_362 := n12_; have NB376_390 := n13_; have NB390_376 := n14_; have NB382_390 := n15_; have NB390_382 := n16_; clear n0_ n1_ n2_ n3_ n4_ n5_ n6_ n7_ n8_ n9_ n10_ n11_ n12_ n13_ n14_ n15_ n16_; clear hb hbox hg; have hnb32 := NB390_362.out; have hnc32 := NB362_390.out; have hnb33 := NB390_376.out; have hnc33 := NB376_390.out; have hnb34 := NB390_382.out; have hnc34 := NB382_390.out; have hcz35_0 : w31.cell? ⟨gb390, 0, none⟩ = some (.int .i64 0) := (blk_cell BK390.out 0).trans rfl; have hcz35_1 : w31.cell? ⟨gb390, 1, none⟩ = some (.bool false) := (blk_cell BK390.out 1).trans rfl; have hcz35_2 : w31.cell? ⟨gb390, 2, none⟩ = some (.slice none 0 0) := (blk_cell BK390.out 2).trans rfl; have hfz35_0 := blk_frozen BK390.out 0; have hfz35_1 := blk_frozen BK390.out 1; have hfz35_2 := blk_frozen BK390.out 2; obtain ⟨Ao36, co36, eo36⟩ := Kd.R_slice HO387.out; subst eo36))
    (try simp only [Act.put, List.setIfInBounds_toArray, List.set_cons_zero, List.set_cons_succ])
    go_cut [50] (fun v50 wc => ∃ (kq : Nat) (x50_10 : Bool), v50 = .bool x50_10 ∧ Aside0 (laws_FnExactSettleRow.j0 kq t374 t375 t388 t389 x50_10 a0_0 a0_1 l0_2 t369 t370 t371 t377 t378 t379 t383 t384 t385 = some r) ∧ Aside0 (kq ≤ k) ∧ Aside0 (Kd.V (Kd.int .i64) 3 wc w.heap.size (fun k_ => some k_ ≠ ((.slice Ao29 t379.length co29) : Value).ownBlock ∧ some k_ ≠ ((.slice Ao36 t385.length co36) : Value).ownBlock ∧ k_ ≠ gb362 ∧ k_ ≠ gb376 ∧ k_ ≠ gb382 ∧ k_ ≠ gb390) (.slice Ao22 t371.length co22) t371) ∧ Aside0 (Kd.R (Kd.int .i64) 3 wc w.heap.size (fun k_ => some k_ ≠ ((.slice Ao36 t385.length co36) : Value).ownBlock) (.slice Ao29 t379.length co29) t379) ∧ Aside0 (Kd.R (Kd.int .i64) 3 wc w.heap.size (fun k_ => some k_ ≠ ((.slice Ao29 t379.length co29) : Value).ownBlock) (.slice Ao36 t385.length co36) t385) ∧ Aside0 (wc.heap[gb362]? = some (.cells #[.int .i64 a0_0, .bool a0_1, (.slice A0_2 l0_2.length c0_2)] 24 (0, 0))) ∧ Aside0 (wc.heap[gb376]? = some (.cells #[.int .i64 t369, .bool t370, (.slice Ao22 t371.length co22)] 26 (0, 0))) ∧ Aside0 (wc.heap[gb382]? = some (.cells #[.int .i64 t377, .bool t378, (.slice Ao29 t379.length co29)] 26 (0, 0))) ∧ Aside0 (wc.heap[gb390]? = some (.cells #[.int .i64 t383, .bool t384, (.slice Ao36 t385.length co36)] 26 (0, 0))) ∧ Aside0 (Below w.heap.size w wc))
    case first =>
      have H := HC11.out
      clear HC11
      replace H := Option.bind_eq_some_iff.mp H
      obtain ⟨t391, A370, H⟩ := H
      replace H : (if t391 = true then (if t388 = t374 then (laws_FnExactSettleRow.j0 k t374 t375 t388 t389 (t389 != t375) a0_0 a0_1 l0_2 t369 t370 t371 t377 t378 t379 t383 t384 t385) else (laws_FnExactSettleRow.j0 k t374 t375 t388 t389 true a0_0 a0_1 l0_2 t369 t370 t371 t377 t378 t379 t383 t384 t385)) else (laws_FnExactSettleRow.j0 k t374 t375 t388 t389 true a0_0 a0_1 l0_2 t369 t370 t371 t377 t378 t379 t383 t384 t385)) = some r := H
      have A37 := Aside0.mk A370
      clear A370
      by_cases c38 : t391 = true
      · subst c38
        have H1 : (if t388 = t374 then (laws_FnExactSettleRow.j0 k t374 t375 t388 t389 (t389 != t375) a0_0 a0_1 l0_2 t369 t370 t371 t377 t378 t379 t383 t384 t385) else (laws_FnExactSettleRow.j0 k t374 t375 t388 t389 true a0_0 a0_1 l0_2 t369 t370 t371 t377 t378 t379 t383 t384 t385)) = some r := by rw [if_pos rfl] at H; exact H
        clear H
        have H := H1
        clear H1
        by_cases c39 : t388 = t374
        · rw [if_pos c39] at H
          have c39b0 : (t388 == t374) = true := beq_iff_eq.mpr c39
          have c39b1 : (t388 != t374) = false := bne_eq_false_iff_eq.mpr c39
          clear c39
          (first | rw [c39b0] | (simp only [i64_w, i32_w]; rw [c39b0]) | skip)
          have H' := Aside0.mk H
          clear H
          have hnb40 := NB390_362.out
          have hnc40 := NB362_390.out
          have hnb41 := NB390_376.out
          have hnc41 := NB376_390.out
          have hnb42 := NB390_382.out
          have hnc42 := NB382_390.out
          have hcz43_0 : w31.cell? ⟨gb390, 0, none⟩ = some (.int .i64 0) := (blk_cell BK390.out 0).trans rfl
          have hcz43_1 : w31.cell? ⟨gb390, 1, none⟩ = some (.bool false) := (blk_cell BK390.out 1).trans rfl
          have hcz43_2 : w31.cell? ⟨gb390, 2, none⟩ = some (.slice none 0 0) := (blk_cell BK390.out 2).trans rfl
          have hfz43_0 := blk_frozen BK390.out 0
          have hfz43_1 := blk_frozen BK390.out 1
          have hfz43_2 := blk_frozen BK390.out 2
          have hnb44 := NB376_362.out
          have hnc44 := NB362_376.out
          have hnb45 := NB376_382.out
          have hnc45 := NB382_376.out
          have hcz46_0 : w31.cell? ⟨gb376, 0, none⟩ = some (.int .i64 t369) := (blk_cell BK376.out 0).trans rfl
          have hcz46_1 : w31.cell? ⟨gb376, 1, none⟩ = some (.bool t370) := (blk_cell BK376.out 1).trans rfl
          have hcz46_2 : w31.cell? ⟨gb376, 2, none⟩ = some (.slice Ao22 t371.length co22) := (blk_cell BK376.out 2).trans rfl
          have hfz46_0 := blk_frozen BK376.out 0
          have hfz46_1 := blk_frozen BK376.out 1
          have hfz46_2 := blk_frozen BK376.out 2
          go_wp2_with (first | ((with_reducible refine gate_callee (f := 12) rfl ?_); refine goesL_ (some 39) rfl rfl Tryd.func12 (by kernel_rfl) rfl #[.agg #[.int .i64 t383, .bool t384, .slice Ao36 t385.length co36], .agg #[.int .i64 t369, .bool t370, .slice Ao22 t371.length co22]] rfl (by (try simp only [List.map_toArray, List.map_cons, List.map_nil]); first | done | rfl | (simp only [List.length_drop, List.length_take]; rfl)) ?_; (with_reducible refine (laws_eqRow.calls k t383 t384 _ _ t385 t369 t370 _ _ t371 true _ ?side1 ?side2 ?side3 ?side4 A37.out).mono ?_); (case side1 => refine (Kd.R_reads' (e := 3) (base := w.heap.size) (ok := fun k_ => ((True ∧ some k_ ≠ (.slice Ao17 t366.length co17 : Value).ownBlock) ∧ some k_ ≠ (.slice Ao29 t379.length co29 : Value).ownBlock)) (n := t385.length) (c := co36) ?_).2.2; exact (by (with_reducible repeat (first | apply Kd.R_alloc | apply Kd.R_drewN | apply Kd.R_drew)); exact (Kd.R_mono (Kd.R_far (p := ⟨gb390, 2, none⟩) (Kd.R_far (p := ⟨gb390, 1, none⟩) (Kd.R_far (p := ⟨gb390, 0, none⟩) (Kd.R_types HO387.out BK390.out (by decide)) (fun _ hk => hk.2) (.int .i64 t383)) (fun _ hk => hk.2) (.bool t384)) (fun _ hk => hk.2) (.slice Ao36 t385.length co36)) (fun _ h_ => h_.1)))); (case side2 => exact (Kd.R_reads' HO387.out).2.1); (case side3 => refine (Kd.V_reads' (e := 3) (base := w.heap.size) (ok := fun k_ => ((((((some k_ ≠ (.slice Ao17 t366.length co17 : Value).ownBlock ∧ k_ ≠ gb362) ∧ k_ ≠ gb376) ∧ some k_ ≠ (.slice Ao29 t379.length co29 : Value).ownBlock) ∧ k_ ≠ gb382) ∧ some k_ ≠ (.slice Ao36 t385.length co36 : Value).ownBlock) ∧ k_ ≠ gb390)) (n := t371.length) (c := co22) ?_).2.2; exact (by (with_reducible repeat (first | apply Kd.V_alloc | apply Kd.V_drewN | apply Kd.V_drew)); exact (Kd.V_mono (Kd.V_far (p := ⟨gb390, 2, none⟩) (Kd.V_far (p := ⟨gb390, 1, none⟩) (Kd.V_far (p := ⟨gb390, 0, none⟩) (Kd.V_mono HO373.out (fun k_ hk => (⟨hk, hk.2⟩ : _ ∧ k_ ≠ gb390))) (fun _ hk => hk.2) (.int .i64 t383)) (fun _ hk => hk.2) (.bool t384)) (fun _ hk => hk.2) (.slice Ao36 t385.length co36)) (fun _ h_ => h_.1)))); (case side4 => exact (Kd.V_reads' HO373.out).2.1); rintro e w47 ⟨rfl, hb⟩; refine ⟨_, rfl, ?_⟩; have n0_ := Aside0.mk (Kd.R_below (by (with_reducible repeat (first | apply Kd.R_alloc | apply Kd.R_drewN | apply Kd.R_drew)); exact (Kd.R_mono (Kd.R_far (p := ⟨gb390, 2, none⟩) (Kd.R_far (p := ⟨gb390, 1, none⟩) (Kd.R_far (p := ⟨gb390, 0, none⟩) (Kd.R_types HO368.out BK390.out (by decide)) (fun _ hk => hk.2) (.int .i64 t383)) (fun _ hk => hk.2) (.bool t384)) (fun _ hk => hk.2) (.slice Ao36 t385.length co36)) (fun _ h_ => h_.1))) hb); have n1_ := Aside0.mk (Kd.V_below (by (with_reducible repeat (first | apply Kd.V_alloc | apply Kd.V_drewN | apply Kd.V_drew)); exact (Kd.V_mono (Kd.V_far (p := ⟨gb390, 2, none⟩) (Kd.V_far (p := ⟨gb390, 1, none⟩) (Kd.V_far (p := ⟨gb390, 0, none⟩) (Kd.V_mono HO373.out (fun k_ hk => (⟨hk, hk.2⟩ : _ ∧ k_ ≠ gb390))) (fun _ hk => hk.2) (.int .i64 t383)) (fun _ hk => hk.2) (.bool t384)) (fun _ hk => hk.2) (.slice Ao36 t385.length co36)) (fun _ h_ => h_.1))) hb); have n2_ := Aside0.mk (Kd.R_below (by (with_reducible repeat (first | apply Kd.R_alloc | apply Kd.R_drewN | apply Kd.R_drew)); exact (Kd.R_mono (Kd.R_far (p := ⟨gb390, 2, none⟩) (Kd.R_far (p := ⟨gb390, 1, none⟩) (Kd.R_far (p := ⟨gb390, 0, none⟩) (Kd.R_types HO381.out BK390.out (by decide)) (fun _ hk => hk.2) (.int .i64 t383)) (fun _ hk => hk.2) (.bool t384)) (fun _ hk => hk.2) (.slice Ao36 t385.length co36)) (fun _ h_ => h_.1))) hb); have n3_ := Aside0.mk (Kd.R_below (by (with_reducible repeat (first | apply Kd.R_alloc | apply Kd.R_drewN | apply Kd.R_drew)); exact (Kd.R_mono (Kd.R_far (p := ⟨gb390, 2, none⟩) (Kd.R_far (p := ⟨gb390, 1, none⟩) (Kd.R_far (p := ⟨gb390, 0, none⟩) (Kd.R_types HO387.out BK390.out (by decide)) (fun _ hk => hk.2) (.int .i64 t383)) (fun _ hk => hk.2) (.bool t384)) (fun _ hk => hk.2) (.slice Ao36 t385.length co36)) (fun _ h_ => h_.1))) hb); have n4_ := Aside0.mk (blk_below (g := gb362) (o := .cells #[.int .i64 a0_0, .bool a0_1, .slice A0_2 l0_2.length c0_2] 24 (0, 0)) (by (with_reducible repeat (first | refine blk_drewN ?_ _ | refine blk_drew ?_ | refine blk_alloc ?_ _)); refine blk_far ?_ NB362_390.out _; (with_reducible repeat (first | refine blk_drewN ?_ _ | refine blk_drew ?_ | refine blk_alloc ?_ _)); refine blk_far ?_ NB362_390.out _; (with_reducible repeat (first | refine blk_drewN ?_ _ | refine blk_drew ?_ | refine blk_alloc ?_ _)); refine blk_far ?_ NB362_390.out _; (with_reducible repeat (first | refine blk_drewN ?_ _ | refine blk_drew ?_ | refine blk_alloc ?_ _)); exact BK362.out) hb); have n5_ := Aside0.mk (blk_below (g := gb376) (o := .cells #[.int .i64 t369, .bool t370, .slice Ao22 t371.length co22] 26 (0, 0)) (by (with_reducible repeat (first | refine blk_drewN ?_ _ | refine blk_drew ?_ | refine blk_alloc ?_ _)); refine blk_far ?_ NB376_390.out _; (with_reducible repeat (first | refine blk_drewN ?_ _ | refine blk_drew ?_ | refine blk_alloc ?_ _)); refine blk_far ?_ NB376_390.out _; (with_reducible repeat (first | refine blk_drewN ?_ _ | refine blk_drew ?_ | refine blk_alloc ?_ _)); refine blk_far ?_ NB376_390.out _; (with_reducible repeat (first | refine blk_drewN ?_ _ | refine blk_drew ?_ | refine blk_alloc ?_ _)); exact BK376.out) hb); have n6_ := Aside0.mk (blk_below (g := gb382) (o := .cells #[.int .i64 t377, .bool t378, .slice Ao29 t379.length co29] 26 (0, 0)) (by (with_reducible repeat (first | refine blk_drewN ?_ _ | refine blk_drew ?_ | refine blk_alloc ?_ _)); refine blk_far ?_ NB382_390.out _; (with_reducible repeat (first | refine blk_drewN ?_ _ | refine blk_drew ?_ | refine blk_alloc ?_ _)); refine blk_far ?_ NB382_390.out _; (with_reducible repeat (first | refine blk_drewN ?_ _ | refine blk_drew ?_ | refine blk_alloc ?_ _)); refine blk_far ?_ NB382_390.out _; (with_reducible repeat (first | refine blk_drewN ?_ _ | refine blk_drew ?_ | refine blk_alloc ?_ _)); exact BK382.out) hb); have n7_ := Aside0.mk (blk_below (g := gb390) (o := .cells #[.int .i64 t383, .bool t384, .slice Ao36 t385.length co36] 26 (0, 0)) (by (with_reducible repeat (first | refine blk_drewN ?_ _ | refine blk_drew ?_ | refine blk_alloc ?_ _)); refine blk_put (cs := #[.int .i64 t383, .bool t384, .slice none 0 0]) ?_ 2 _ rfl; (with_reducible repeat (first | refine blk_drewN ?_ _ | refine blk_drew ?_ | refine blk_alloc ?_ _)); refine blk_put (cs := #[.int .i64 t383, .bool false, .slice none 0 0]) ?_ 1 _ rfl; (with_reducible repeat (first | refine blk_drewN ?_ _ | refine blk_drew ?_ | refine blk_alloc ?_ _)); refine blk_put (cs := #[.int .i64 0, .bool false, .slice none 0 0]) ?_ 0 _ rfl; (with_reducible repeat (first | refine blk_drewN ?_ _ | refine blk_drew ?_ | refine blk_alloc ?_ _)); exact BK390.out) hb); have n8_ := Aside0.mk (below_step (by repeat (first | (with_reducible first | exact HB.out | apply below_alloc | apply pw_below_drewN | apply below_drew1 | refine below_set ?_ GE362.out | refine below_set ?_ GE376.out | refine below_set ?_ GE382.out | refine below_set ?_ GE390.out) | exact HB.out)) hb); clear HO368; clear HO373; clear HO381; clear HO387; clear BK362; clear BK376; clear BK382; clear BK390; clear HB; have HO368 := n0_; have HO373 := n1_; have HO381 := n2_; have HO387 := n3_; have BK362 := n4_; have BK376 := n5_; have BK382 := n6_; have BK390 := n7_; have HB := n8_; clear n0_ n1_ n2_ n3_ n4_ n5_ n6_ n7_ n8_; (try clear hb); (try clear hb2); (try clear hk); (try clear hi)))
          go_meet
          case rel => exact ⟨_, ((t389 != t375)), (by first | rfl | (simp; done) | (simp [*]; done) | (simp [wrap64]; done) | (simp [*, wrap64]; done)), H', ⟨by first | omega | exact Nat.le_refl _⟩, ⟨by (with_reducible repeat (first | apply Kd.V_alloc | apply Kd.V_drewN | apply Kd.V_drew)); exact Kd.V_mono HO373.out (fun _ hk => ⟨hk.1.1.1.2, ⟨hk.1.2, ⟨hk.1.1.1.1.1.2, ⟨hk.1.1.1.1.2, ⟨hk.1.1.2, hk.2⟩⟩⟩⟩⟩)⟩, ⟨by (with_reducible repeat (first | apply Kd.R_alloc | apply Kd.R_drewN | apply Kd.R_drew)); exact Kd.R_mono HO381.out (fun _ hk => hk.2)⟩, ⟨by (with_reducible repeat (first | apply Kd.R_alloc | apply Kd.R_drewN | apply Kd.R_drew)); exact Kd.R_mono HO387.out (fun _ hk => hk.2)⟩, ⟨by (with_reducible repeat (first | refine blk_drewN ?_ _ | refine blk_drew ?_ | refine blk_alloc ?_ _)); exact BK362.out⟩, ⟨by (with_reducible repeat (first | refine blk_drewN ?_ _ | refine blk_drew ?_ | refine blk_alloc ?_ _)); exact BK376.out⟩, ⟨by (with_reducible repeat (first | refine blk_drewN ?_ _ | refine blk_drew ?_ | refine blk_alloc ?_ _)); exact BK382.out⟩, ⟨by (with_reducible repeat (first | refine blk_drewN ?_ _ | refine blk_drew ?_ | refine blk_alloc ?_ _)); exact BK390.out⟩, ⟨by repeat (first | (with_reducible first | exact HB.out | apply below_alloc | apply pw_below_drewN | apply below_drew1 | refine below_set ?_ GE362.out | refine below_set ?_ GE376.out | refine below_set ?_ GE382.out | refine below_set ?_ GE390.out) | exact HB.out)⟩⟩
        · rw [if_neg c39] at H
          have c39b0 : (t388 == t374) = false := beq_eq_false_iff_ne.mpr c39
          have c39b1 : (t388 != t374) = true := bne_iff_ne.mpr c39
          (first | rw [c39b0] | (simp only [i64_w, i32_w]; rw [c39b0]) | skip)
          have H' := Aside0.mk H
          clear H
          have hnb48 := NB390_362.out
          have hnc48 := NB362_390.out
          have hnb49 := NB390_376.out
          have hnc49 := NB376_390.out
          have hnb50 := NB390_382.out
          have hnc50 := NB382_390.out
          have hcz51_0 : w31.cell? ⟨gb390, 0, none⟩ = some (.int .i64 0) := (blk_cell BK390.out 0).trans rfl
          have hcz51_1 : w31.cell? ⟨gb390, 1, none⟩ = some (.bool false) := (blk_cell BK390.out 1).trans rfl
          have hcz51_2 : w31.cell? ⟨gb390, 2, none⟩ = some (.slice none 0 0) := (blk_cell BK390.out 2).trans rfl
          have hfz51_0 := blk_frozen BK390.out 0
          have hfz51_1 := blk_frozen BK390.out 1
          have hfz51_2 := blk_frozen BK390.out 2
          have hnb52 := NB376_362.out
          have hnc52 := NB362_376.out
          have hnb53 := NB376_382.out
          have hnc53 := NB382_376.out
          have hcz54_0 : w31.cell? ⟨gb376, 0, none⟩ = some (.int .i64 t369) := (blk_cell BK376.out 0).trans rfl
          have hcz54_1 : w31.cell? ⟨gb376, 1, none⟩ = some (.bool t370) := (blk_cell BK376.out 1).trans rfl
          have hcz54_2 : w31.cell? ⟨gb376, 2, none⟩ = some (.slice Ao22 t371.length co22) := (blk_cell BK376.out 2).trans rfl
          have hfz54_0 := blk_frozen BK376.out 0
          have hfz54_1 := blk_frozen BK376.out 1
          have hfz54_2 := blk_frozen BK376.out 2
          go_wp2_with (first | ((with_reducible refine gate_callee (f := 12) rfl ?_); refine goesL_ (some 39) rfl rfl Tryd.func12 (by kernel_rfl) rfl #[.agg #[.int .i64 t383, .bool t384, .slice Ao36 t385.length co36], .agg #[.int .i64 t369, .bool t370, .slice Ao22 t371.length co22]] rfl (by (try simp only [List.map_toArray, List.map_cons, List.map_nil]); first | done | rfl | (simp only [List.length_drop, List.length_take]; rfl)) ?_; (with_reducible refine (laws_eqRow.calls k t383 t384 _ _ t385 t369 t370 _ _ t371 true _ ?side1 ?side2 ?side3 ?side4 A37.out).mono ?_); (case side1 => refine (Kd.R_reads' (e := 3) (base := w.heap.size) (ok := fun k_ => ((True ∧ some k_ ≠ (.slice Ao17 t366.length co17 : Value).ownBlock) ∧ some k_ ≠ (.slice Ao29 t379.length co29 : Value).ownBlock)) (n := t385.length) (c := co36) ?_).2.2; exact (by (with_reducible repeat (first | apply Kd.R_alloc | apply Kd.R_drewN | apply Kd.R_drew)); exact (Kd.R_mono (Kd.R_far (p := ⟨gb390, 2, none⟩) (Kd.R_far (p := ⟨gb390, 1, none⟩) (Kd.R_far (p := ⟨gb390, 0, none⟩) (Kd.R_types HO387.out BK390.out (by decide)) (fun _ hk => hk.2) (.int .i64 t383)) (fun _ hk => hk.2) (.bool t384)) (fun _ hk => hk.2) (.slice Ao36 t385.length co36)) (fun _ h_ => h_.1)))); (case side2 => exact (Kd.R_reads' HO387.out).2.1); (case side3 => refine (Kd.V_reads' (e := 3) (base := w.heap.size) (ok := fun k_ => ((((((some k_ ≠ (.slice Ao17 t366.length co17 : Value).ownBlock ∧ k_ ≠ gb362) ∧ k_ ≠ gb376) ∧ some k_ ≠ (.slice Ao29 t379.length co29 : Value).ownBlock) ∧ k_ ≠ gb382) ∧ some k_ ≠ (.slice Ao36 t385.length co36 : Value).ownBlock) ∧ k_ ≠ gb390)) (n := t371.length) (c := co22) ?_).2.2; exact (by (with_reducible repeat (first | apply Kd.V_alloc | apply Kd.V_drewN | apply Kd.V_drew)); exact (Kd.V_mono (Kd.V_far (p := ⟨gb390, 2, none⟩) (Kd.V_far (p := ⟨gb390, 1, none⟩) (Kd.V_far (p := ⟨gb390, 0, none⟩) (Kd.V_mono HO373.out (fun k_ hk => (⟨hk, hk.2⟩ : _ ∧ k_ ≠ gb390))) (fun _ hk => hk.2) (.int .i64 t383)) (fun _ hk => hk.2) (.bool t384)) (fun _ hk => hk.2) (.slice Ao36 t385.length co36)) (fun _ h_ => h_.1)))); (case side4 => exact (Kd.V_reads' HO373.out).2.1); rintro e w55 ⟨rfl, hb⟩; refine ⟨_, rfl, ?_⟩; have n0_ := Aside0.mk (Kd.R_below (by (with_reducible repeat (first | apply Kd.R_alloc | apply Kd.R_drewN | apply Kd.R_drew)); exact (Kd.R_mono (Kd.R_far (p := ⟨gb390, 2, none⟩) (Kd.R_far (p := ⟨gb390, 1, none⟩) (Kd.R_far (p := ⟨gb390, 0, none⟩) (Kd.R_types HO368.out BK390.out (by decide)) (fun _ hk => hk.2) (.int .i64 t383)) (fun _ hk => hk.2) (.bool t384)) (fun _ hk => hk.2) (.slice Ao36 t385.length co36)) (fun _ h_ => h_.1))) hb); have n1_ := Aside0.mk (Kd.V_below (by (with_reducible repeat (first | apply Kd.V_alloc | apply Kd.V_drewN | apply Kd.V_drew)); exact (Kd.V_mono (Kd.V_far (p := ⟨gb390, 2, none⟩) (Kd.V_far (p := ⟨gb390, 1, none⟩) (Kd.V_far (p := ⟨gb390, 0, none⟩) (Kd.V_mono HO373.out (fun k_ hk => (⟨hk, hk.2⟩ : _ ∧ k_ ≠ gb390))) (fun _ hk => hk.2) (.int .i64 t383)) (fun _ hk => hk.2) (.bool t384)) (fun _ hk => hk.2) (.slice Ao36 t385.length co36)) (fun _ h_ => h_.1))) hb); have n2_ := Aside0.mk (Kd.R_below (by (with_reducible repeat (first | apply Kd.R_alloc | apply Kd.R_drewN | apply Kd.R_drew)); exact (Kd.R_mono (Kd.R_far (p := ⟨gb390, 2, none⟩) (Kd.R_far (p := ⟨gb390, 1, none⟩) (Kd.R_far (p := ⟨gb390, 0, none⟩) (Kd.R_types HO381.out BK390.out (by decide)) (fun _ hk => hk.2) (.int .i64 t383)) (fun _ hk => hk.2) (.bool t384)) (fun _ hk => hk.2) (.slice Ao36 t385.length co36)) (fun _ h_ => h_.1))) hb); have n3_ := Aside0.mk (Kd.R_below (by (with_reducible repeat (first | apply Kd.R_alloc | apply Kd.R_drewN | apply Kd.R_drew)); exact (Kd.R_mono (Kd.R_far (p := ⟨gb390, 2, none⟩) (Kd.R_far (p := ⟨gb390, 1, none⟩) (Kd.R_far (p := ⟨gb390, 0, none⟩) (Kd.R_types HO387.out BK390.out (by decide)) (fun _ hk => hk.2) (.int .i64 t383)) (fun _ hk => hk.2) (.bool t384)) (fun _ hk => hk.2) (.slice Ao36 t385.length co36)) (fun _ h_ => h_.1))) hb); have n4_ := Aside0.mk (blk_below (g := gb362) (o := .cells #[.int .i64 a0_0, .bool a0_1, .slice A0_2 l0_2.length c0_2] 24 (0, 0)) (by (with_reducible repeat (first | refine blk_drewN ?_ _ | refine blk_drew ?_ | refine blk_alloc ?_ _)); refine blk_far ?_ NB362_390.out _; (with_reducible repeat (first | refine blk_drewN ?_ _ | refine blk_drew ?_ | refine blk_alloc ?_ _)); refine blk_far ?_ NB362_390.out _; (with_reducible repeat (first | refine blk_drewN ?_ _ | refine blk_drew ?_ | refine blk_alloc ?_ _)); refine blk_far ?_ NB362_390.out _; (with_reducible repeat (first | refine blk_drewN ?_ _ | refine blk_drew ?_ | refine blk_alloc ?_ _)); exact BK362.out) hb); have n5_ := Aside0.mk (blk_below (g := gb376) (o := .cells #[.int .i64 t369, .bool t370, .slice Ao22 t371.length co22] 26 (0, 0)) (by (with_reducible repeat (first | refine blk_drewN ?_ _ | refine blk_drew ?_ | refine blk_alloc ?_ _)); refine blk_far ?_ NB376_390.out _; (with_reducible repeat (first | refine blk_drewN ?_ _ | refine blk_drew ?_ | refine blk_alloc ?_ _)); refine blk_far ?_ NB376_390.out _; (with_reducible repeat (first | refine blk_drewN ?_ _ | refine blk_drew ?_ | refine blk_alloc ?_ _)); refine blk_far ?_ NB376_390.out _; (with_reducible repeat (first | refine blk_drewN ?_ _ | refine blk_drew ?_ | refine blk_alloc ?_ _)); exact BK376.out) hb); have n6_ := Aside0.mk (blk_below (g := gb382) (o := .cells #[.int .i64 t377, .bool t378, .slice Ao29 t379.length co29] 26 (0, 0)) (by (with_reducible repeat (first | refine blk_drewN ?_ _ | refine blk_drew ?_ | refine blk_alloc ?_ _)); refine blk_far ?_ NB382_390.out _; (with_reducible repeat (first | refine blk_drewN ?_ _ | refine blk_drew ?_ | refine blk_alloc ?_ _)); refine blk_far ?_ NB382_390.out _; (with_reducible repeat (first | refine blk_drewN ?_ _ | refine blk_drew ?_ | refine blk_alloc ?_ _)); refine blk_far ?_ NB382_390.out _; (with_reducible repeat (first | refine blk_drewN ?_ _ | refine blk_drew ?_ | refine blk_alloc ?_ _)); exact BK382.out) hb); have n7_ := Aside0.mk (blk_below (g := gb390) (o := .cells #[.int .i64 t383, .bool t384, .slice Ao36 t385.length co36] 26 (0, 0)) (by (with_reducible repeat (first | refine blk_drewN ?_ _ | refine blk_drew ?_ | refine blk_alloc ?_ _)); refine blk_put (cs := #[.int .i64 t383, .bool t384, .slice none 0 0]) ?_ 2 _ rfl; (with_reducible repeat (first | refine blk_drewN ?_ _ | refine blk_drew ?_ | refine blk_alloc ?_ _)); refine blk_put (cs := #[.int .i64 t383, .bool false, .slice none 0 0]) ?_ 1 _ rfl; (with_reducible repeat (first | refine blk_drewN ?_ _ | refine blk_drew ?_ | refine blk_alloc ?_ _)); refine blk_put (cs := #[.int .i64 0, .bool false, .slice none 0 0]) ?_ 0 _ rfl; (with_reducible repeat (first | refine blk_drewN ?_ _ | refine blk_drew ?_ | refine blk_alloc ?_ _)); exact BK390.out) hb); have n8_ := Aside0.mk (below_step (by repeat (first | (with_reducible first | exact HB.out | apply below_alloc | apply pw_below_drewN | apply below_drew1 | refine below_set ?_ GE362.out | refine below_set ?_ GE376.out | refine below_set ?_ GE382.out | refine below_set ?_ GE390.out) | exact HB.out)) hb); clear HO368; clear HO373; clear HO381; clear HO387; clear BK362; clear BK376; clear BK382; clear BK390; clear HB; have HO368 := n0_; have HO373 := n1_; have HO381 := n2_; have HO387 := n3_; have BK362 := n4_; have BK376 := n5_; have BK382 := n6_; have BK390 := n7_; have HB := n8_; clear n0_ n1_ n2_ n3_ n4_ n5_ n6_ n7_ n8_; (try clear hb); (try clear hb2); (try clear hk); (try clear hi)))
          go_meet
          case rel => exact ⟨_, (true), (by first | rfl | (simp; done) | (simp [*]; done) | (simp [wrap64]; done) | (simp [*, wrap64]; done)), H', ⟨by first | omega | exact Nat.le_refl _⟩, ⟨by (with_reducible repeat (first | apply Kd.V_alloc | apply Kd.V_drewN | apply Kd.V_drew)); exact Kd.V_mono HO373.out (fun _ hk => ⟨hk.1.1.1.2, ⟨hk.1.2, ⟨hk.1.1.1.1.1.2, ⟨hk.1.1.1.1.2, ⟨hk.1.1.2, hk.2⟩⟩⟩⟩⟩)⟩, ⟨by (with_reducible repeat (first | apply Kd.R_alloc | apply Kd.R_drewN | apply Kd.R_drew)); exact Kd.R_mono HO381.out (fun _ hk => hk.2)⟩, ⟨by (with_reducible repeat (first | apply Kd.R_alloc | apply Kd.R_drewN | apply Kd.R_drew)); exact Kd.R_mono HO387.out (fun _ hk => hk.2)⟩, ⟨by (with_reducible repeat (first | refine blk_drewN ?_ _ | refine blk_drew ?_ | refine blk_alloc ?_ _)); exact BK362.out⟩, ⟨by (with_reducible repeat (first | refine blk_drewN ?_ _ | refine blk_drew ?_ | refine blk_alloc ?_ _)); exact BK376.out⟩, ⟨by (with_reducible repeat (first | refine blk_drewN ?_ _ | refine blk_drew ?_ | refine blk_alloc ?_ _)); exact BK382.out⟩, ⟨by (with_reducible repeat (first | refine blk_drewN ?_ _ | refine blk_drew ?_ | refine blk_alloc ?_ _)); exact BK390.out⟩, ⟨by repeat (first | (with_reducible first | exact HB.out | apply below_alloc | apply pw_below_drewN | apply below_drew1 | refine below_set ?_ GE362.out | refine below_set ?_ GE376.out | refine below_set ?_ GE382.out | refine below_set ?_ GE390.out) | exact HB.out)⟩⟩
      · replace c38 := Bool.eq_false_iff.mpr c38
        subst c38
        have H1 : (laws_FnExactSettleRow.j0 k t374 t375 t388 t389 true a0_0 a0_1 l0_2 t369 t370 t371 t377 t378 t379 t383 t384 t385) = some r := by rw [if_neg (show ¬ (false = true) by decide)] at H; exact H
        clear H
        have H := H1
        clear H1
        have H' := Aside0.mk H
        clear H
        have hnb56 := NB390_362.out
        have hnc56 := NB362_390.out
        have hnb57 := NB390_376.out
        have hnc57 := NB376_390.out
        have hnb58 := NB390_382.out
        have hnc58 := NB382_390.out
        have hcz59_0 : w31.cell? ⟨gb390, 0, none⟩ = some (.int .i64 0) := (blk_cell BK390.out 0).trans rfl
        have hcz59_1 : w31.cell? ⟨gb390, 1, none⟩ = some (.bool false) := (blk_cell BK390.out 1).trans rfl
        have hcz59_2 : w31.cell? ⟨gb390, 2, none⟩ = some (.slice none 0 0) := (blk_cell BK390.out 2).trans rfl
        have hfz59_0 := blk_frozen BK390.out 0
        have hfz59_1 := blk_frozen BK390.out 1
        have hfz59_2 := blk_frozen BK390.out 2
        have hnb60 := NB376_362.out
        have hnc60 := NB362_376.out
        have hnb61 := NB376_382.out
        have hnc61 := NB382_376.out
        have hcz62_0 : w31.cell? ⟨gb376, 0, none⟩ = some (.int .i64 t369) := (blk_cell BK376.out 0).trans rfl
        have hcz62_1 : w31.cell? ⟨gb376, 1, none⟩ = some (.bool t370) := (blk_cell BK376.out 1).trans rfl
        have hcz62_2 : w31.cell? ⟨gb376, 2, none⟩ = some (.slice Ao22 t371.length co22) := (blk_cell BK376.out 2).trans rfl
        have hfz62_0 := blk_frozen BK376.out 0
        have hfz62_1 := blk_frozen BK376.out 1
        have hfz62_2 := blk_frozen BK376.out 2
        go_wp2_with (first | ((with_reducible refine gate_callee (f := 12) rfl ?_); refine goesL_ (some 39) rfl rfl Tryd.func12 (by kernel_rfl) rfl #[.agg #[.int .i64 t383, .bool t384, .slice Ao36 t385.length co36], .agg #[.int .i64 t369, .bool t370, .slice Ao22 t371.length co22]] rfl (by (try simp only [List.map_toArray, List.map_cons, List.map_nil]); first | done | rfl | (simp only [List.length_drop, List.length_take]; rfl)) ?_; (with_reducible refine (laws_eqRow.calls k t383 t384 _ _ t385 t369 t370 _ _ t371 false _ ?side1 ?side2 ?side3 ?side4 A37.out).mono ?_); (case side1 => refine (Kd.R_reads' (e := 3) (base := w.heap.size) (ok := fun k_ => ((True ∧ some k_ ≠ (.slice Ao17 t366.length co17 : Value).ownBlock) ∧ some k_ ≠ (.slice Ao29 t379.length co29 : Value).ownBlock)) (n := t385.length) (c := co36) ?_).2.2; exact (by (with_reducible repeat (first | apply Kd.R_alloc | apply Kd.R_drewN | apply Kd.R_drew)); exact (Kd.R_mono (Kd.R_far (p := ⟨gb390, 2, none⟩) (Kd.R_far (p := ⟨gb390, 1, none⟩) (Kd.R_far (p := ⟨gb390, 0, none⟩) (Kd.R_types HO387.out BK390.out (by decide)) (fun _ hk => hk.2) (.int .i64 t383)) (fun _ hk => hk.2) (.bool t384)) (fun _ hk => hk.2) (.slice Ao36 t385.length co36)) (fun _ h_ => h_.1)))); (case side2 => exact (Kd.R_reads' HO387.out).2.1); (case side3 => refine (Kd.V_reads' (e := 3) (base := w.heap.size) (ok := fun k_ => ((((((some k_ ≠ (.slice Ao17 t366.length co17 : Value).ownBlock ∧ k_ ≠ gb362) ∧ k_ ≠ gb376) ∧ some k_ ≠ (.slice Ao29 t379.length co29 : Value).ownBlock) ∧ k_ ≠ gb382) ∧ some k_ ≠ (.slice Ao36 t385.length co36 : Value).ownBlock) ∧ k_ ≠ gb390)) (n := t371.length) (c := co22) ?_).2.2; exact (by (with_reducible repeat (first | apply Kd.V_alloc | apply Kd.V_drewN | apply Kd.V_drew)); exact (Kd.V_mono (Kd.V_far (p := ⟨gb390, 2, none⟩) (Kd.V_far (p := ⟨gb390, 1, none⟩) (Kd.V_far (p := ⟨gb390, 0, none⟩) (Kd.V_mono HO373.out (fun k_ hk => (⟨hk, hk.2⟩ : _ ∧ k_ ≠ gb390))) (fun _ hk => hk.2) (.int .i64 t383)) (fun _ hk => hk.2) (.bool t384)) (fun _ hk => hk.2) (.slice Ao36 t385.length co36)) (fun _ h_ => h_.1)))); (case side4 => exact (Kd.V_reads' HO373.out).2.1); rintro e w63 ⟨rfl, hb⟩; refine ⟨_, rfl, ?_⟩; have n0_ := Aside0.mk (Kd.R_below (by (with_reducible repeat (first | apply Kd.R_alloc | apply Kd.R_drewN | apply Kd.R_drew)); exact (Kd.R_mono (Kd.R_far (p := ⟨gb390, 2, none⟩) (Kd.R_far (p := ⟨gb390, 1, none⟩) (Kd.R_far (p := ⟨gb390, 0, none⟩) (Kd.R_types HO368.out BK390.out (by decide)) (fun _ hk => hk.2) (.int .i64 t383)) (fun _ hk => hk.2) (.bool t384)) (fun _ hk => hk.2) (.slice Ao36 t385.length co36)) (fun _ h_ => h_.1))) hb); have n1_ := Aside0.mk (Kd.V_below (by (with_reducible repeat (first | apply Kd.V_alloc | apply Kd.V_drewN | apply Kd.V_drew)); exact (Kd.V_mono (Kd.V_far (p := ⟨gb390, 2, none⟩) (Kd.V_far (p := ⟨gb390, 1, none⟩) (Kd.V_far (p := ⟨gb390, 0, none⟩) (Kd.V_mono HO373.out (fun k_ hk => (⟨hk, hk.2⟩ : _ ∧ k_ ≠ gb390))) (fun _ hk => hk.2) (.int .i64 t383)) (fun _ hk => hk.2) (.bool t384)) (fun _ hk => hk.2) (.slice Ao36 t385.length co36)) (fun _ h_ => h_.1))) hb); have n2_ := Aside0.mk (Kd.R_below (by (with_reducible repeat (first | apply Kd.R_alloc | apply Kd.R_drewN | apply Kd.R_drew)); exact (Kd.R_mono (Kd.R_far (p := ⟨gb390, 2, none⟩) (Kd.R_far (p := ⟨gb390, 1, none⟩) (Kd.R_far (p := ⟨gb390, 0, none⟩) (Kd.R_types HO381.out BK390.out (by decide)) (fun _ hk => hk.2) (.int .i64 t383)) (fun _ hk => hk.2) (.bool t384)) (fun _ hk => hk.2) (.slice Ao36 t385.length co36)) (fun _ h_ => h_.1))) hb); have n3_ := Aside0.mk (Kd.R_below (by (with_reducible repeat (first | apply Kd.R_alloc | apply Kd.R_drewN | apply Kd.R_drew)); exact (Kd.R_mono (Kd.R_far (p := ⟨gb390, 2, none⟩) (Kd.R_far (p := ⟨gb390, 1, none⟩) (Kd.R_far (p := ⟨gb390, 0, none⟩) (Kd.R_types HO387.out BK390.out (by decide)) (fun _ hk => hk.2) (.int .i64 t383)) (fun _ hk => hk.2) (.bool t384)) (fun _ hk => hk.2) (.slice Ao36 t385.length co36)) (fun _ h_ => h_.1))) hb); have n4_ := Aside0.mk (blk_below (g := gb362) (o := .cells #[.int .i64 a0_0, .bool a0_1, .slice A0_2 l0_2.length c0_2] 24 (0, 0)) (by (with_reducible repeat (first | refine blk_drewN ?_ _ | refine blk_drew ?_ | refine blk_alloc ?_ _)); refine blk_far ?_ NB362_390.out _; (with_reducible repeat (first | refine blk_drewN ?_ _ | refine blk_drew ?_ | refine blk_alloc ?_ _)); refine blk_far ?_ NB362_390.out _; (with_reducible repeat (first | refine blk_drewN ?_ _ | refine blk_drew ?_ | refine blk_alloc ?_ _)); refine blk_far ?_ NB362_390.out _; (with_reducible repeat (first | refine blk_drewN ?_ _ | refine blk_drew ?_ | refine blk_alloc ?_ _)); exact BK362.out) hb); have n5_ := Aside0.mk (blk_below (g := gb376) (o := .cells #[.int .i64 t369, .bool t370, .slice Ao22 t371.length co22] 26 (0, 0)) (by (with_reducible repeat (first | refine blk_drewN ?_ _ | refine blk_drew ?_ | refine blk_alloc ?_ _)); refine blk_far ?_ NB376_390.out _; (with_reducible repeat (first | refine blk_drewN ?_ _ | refine blk_drew ?_ | refine blk_alloc ?_ _)); refine blk_far ?_ NB376_390.out _; (with_reducible repeat (first | refine blk_drewN ?_ _ | refine blk_drew ?_ | refine blk_alloc ?_ _)); refine blk_far ?_ NB376_390.out _; (with_reducible repeat (first | refine blk_drewN ?_ _ | refine blk_drew ?_ | refine blk_alloc ?_ _)); exact BK376.out) hb); have n6_ := Aside0.mk (blk_below (g := gb382) (o := .cells #[.int .i64 t377, .bool t378, .slice Ao29 t379.length co29] 26 (0, 0)) (by (with_reducible repeat (first | refine blk_drewN ?_ _ | refine blk_drew ?_ | refine blk_alloc ?_ _)); refine blk_far ?_ NB382_390.out _; (with_reducible repeat (first | refine blk_drewN ?_ _ | refine blk_drew ?_ | refine blk_alloc ?_ _)); refine blk_far ?_ NB382_390.out _; (with_reducible repeat (first | refine blk_drewN ?_ _ | refine blk_drew ?_ | refine blk_alloc ?_ _)); refine blk_far ?_ NB382_390.out _; (with_reducible repeat (first | refine blk_drewN ?_ _ | refine blk_drew ?_ | refine blk_alloc ?_ _)); exact BK382.out) hb); have n7_ := Aside0.mk (blk_below (g := gb390) (o := .cells #[.int .i64 t383, .bool t384, .slice Ao36 t385.length co36] 26 (0, 0)) (by (with_reducible repeat (first | refine blk_drewN ?_ _ | refine blk_drew ?_ | refine blk_alloc ?_ _)); refine blk_put (cs := #[.int .i64 t383, .bool t384, .slice none 0 0]) ?_ 2 _ rfl; (with_reducible repeat (first | refine blk_drewN ?_ _ | refine blk_drew ?_ | refine blk_alloc ?_ _)); refine blk_put (cs := #[.int .i64 t383, .bool false, .slice none 0 0]) ?_ 1 _ rfl; (with_reducible repeat (first | refine blk_drewN ?_ _ | refine blk_drew ?_ | refine blk_alloc ?_ _)); refine blk_put (cs := #[.int .i64 0, .bool false, .slice none 0 0]) ?_ 0 _ rfl; (with_reducible repeat (first | refine blk_drewN ?_ _ | refine blk_drew ?_ | refine blk_alloc ?_ _)); exact BK390.out) hb); have n8_ := Aside0.mk (below_step (by repeat (first | (with_reducible first | exact HB.out | apply below_alloc | apply pw_below_drewN | apply below_drew1 | refine below_set ?_ GE362.out | refine below_set ?_ GE376.out | refine below_set ?_ GE382.out | refine below_set ?_ GE390.out) | exact HB.out)) hb); clear HO368; clear HO373; clear HO381; clear HO387; clear BK362; clear BK376; clear BK382; clear BK390; clear HB; have HO368 := n0_; have HO373 := n1_; have HO381 := n2_; have HO387 := n3_; have BK362 := n4_; have BK376 := n5_; have BK382 := n6_; have BK390 := n7_; have HB := n8_; clear n0_ n1_ n2_ n3_ n4_ n5_ n6_ n7_ n8_; (try clear hb); (try clear hb2); (try clear hk); (try clear hi)))
        go_meet
        case rel => exact ⟨_, (true), (by first | rfl | (simp; done) | (simp [*]; done) | (simp [wrap64]; done) | (simp [*, wrap64]; done)), H', ⟨by first | omega | exact Nat.le_refl _⟩, ⟨by (with_reducible repeat (first | apply Kd.V_alloc | apply Kd.V_drewN | apply Kd.V_drew)); exact Kd.V_mono HO373.out (fun _ hk => ⟨hk.1.1.1.2, ⟨hk.1.2, ⟨hk.1.1.1.1.1.2, ⟨hk.1.1.1.1.2, ⟨hk.1.1.2, hk.2⟩⟩⟩⟩⟩)⟩, ⟨by (with_reducible repeat (first | apply Kd.R_alloc | apply Kd.R_drewN | apply Kd.R_drew)); exact Kd.R_mono HO381.out (fun _ hk => hk.2)⟩, ⟨by (with_reducible repeat (first | apply Kd.R_alloc | apply Kd.R_drewN | apply Kd.R_drew)); exact Kd.R_mono HO387.out (fun _ hk => hk.2)⟩, ⟨by (with_reducible repeat (first | refine blk_drewN ?_ _ | refine blk_drew ?_ | refine blk_alloc ?_ _)); exact BK362.out⟩, ⟨by (with_reducible repeat (first | refine blk_drewN ?_ _ | refine blk_drew ?_ | refine blk_alloc ?_ _)); exact BK376.out⟩, ⟨by (with_reducible repeat (first | refine blk_drewN ?_ _ | refine blk_drew ?_ | refine blk_alloc ?_ _)); exact BK382.out⟩, ⟨by (with_reducible repeat (first | refine blk_drewN ?_ _ | refine blk_drew ?_ | refine blk_alloc ?_ _)); exact BK390.out⟩, ⟨by repeat (first | (with_reducible first | exact HB.out | apply below_alloc | apply pw_below_drewN | apply below_drew1 | refine below_set ?_ GE362.out | refine below_set ?_ GE376.out | refine below_set ?_ GE382.out | refine below_set ?_ GE390.out) | exact HB.out)⟩⟩
    case rest =>
      clear HC11
      try clear c1
      try clear c2
      try clear p2
      try clear c3
      try clear c3b0
      try clear c4
      try clear c5
      try clear c6
      try clear p6
      try clear c8
      try clear c9
      try clear c10
      try clear c11
      try clear c12
      try clear c20
      try clear c26
      try clear c27
      try clear c32
      try clear c33
      try clear c34
      try clear c38
      try clear c39
      try clear c39b0
      try clear c39b1
      try clear c40
      try clear c41
      try clear c42
      try clear c44
      try clear c45
      try clear c48
      try clear c49
      try clear c50
      try clear c52
      try clear c53
      try clear c56
      try clear c57
      try clear c58
      try clear c60
      try clear c61
      try clear hcz13_0
      try clear hcz13_1
      try clear hcz13_2
      try clear hcz15_0
      try clear hcz15_1
      try clear hcz15_2
      try clear hcz21_0
      try clear hcz21_1
      try clear hcz21_2
      try clear hcz23_0
      try clear hcz23_1
      try clear hcz23_2
      try clear hcz28_0
      try clear hcz28_1
      try clear hcz28_2
      try clear hcz35_0
      try clear hcz35_1
      try clear hcz35_2
      try clear hcz43_0
      try clear hcz43_1
      try clear hcz43_2
      try clear hcz46_0
      try clear hcz46_1
      try clear hcz46_2
      try clear hcz51_0
      try clear hcz51_1
      try clear hcz51_2
      try clear hcz54_0
      try clear hcz54_1
      try clear hcz54_2
      try clear hcz59_0
      try clear hcz59_1
      try clear hcz59_2
      try clear hcz5_0
      try clear hcz5_1
      try clear hcz5_2
      try clear hcz62_0
      try clear hcz62_1
      try clear hcz62_2
      try clear hfz13_0
      try clear hfz13_1
      try clear hfz13_2
      try clear hfz15_0
      try clear hfz15_1
      try clear hfz15_2
      try clear hfz21_0
      try clear hfz21_1
      try clear hfz21_2
      try clear hfz23_0
      try clear hfz23_1
      try clear hfz23_2
      try clear hfz28_0
      try clear hfz28_1
      try clear hfz28_2
      try clear hfz35_0
      try clear hfz35_1
      try clear hfz35_2
      try clear hfz43_0
      try clear hfz43_1
      try clear hfz43_2
      try clear hfz46_0
      try clear hfz46_1
      try clear hfz46_2
      try clear hfz51_0
      try clear hfz51_1
      try clear hfz51_2
      try clear hfz54_0
      try clear hfz54_1
      try clear hfz54_2
      try clear hfz59_0
      try clear hfz59_1
      try clear hfz59_2
      try clear hfz5_0
      try clear hfz5_1
      try clear hfz5_2
      try clear hfz62_0
      try clear hfz62_1
      try clear hfz62_2
      obtain ⟨kq, x50_10, rfl, HA, HJ10, HO_377002, HO_383002, HO_391002, BK362, BK376, BK382, BK390, HB⟩ := hcut
      cases kq with
      | zero => exact absurd HA.out (by simp [laws_FnExactSettleRow.j0])
      | succ kj10 =>
        have H := HA.out
        clear HA
        simp only [laws_FnExactSettleRow.j0] at H
        by_cases c64 : x50_10 = true
        · subst c64
          have H1 : (some false) = some r := by rw [if_pos rfl] at H; exact H
          clear H
          have H := H1
          clear H1
          obtain rfl := Option.some.inj H
          go_wp2
          go_ret
          exact ⟨by first | rfl | (simp [errW_none, errW_some] <;> rfl) | (simp [*, errW_none, errW_some] <;> rfl), by repeat (first | (with_reducible first | exact HB.out | apply below_alloc | apply pw_below_drewN | apply below_drew1 | refine below_set ?_ GE362.out | refine below_set ?_ GE376.out | refine below_set ?_ GE382.out | refine below_set ?_ GE390.out) | exact HB.out)⟩
        · replace c64 := Bool.eq_false_iff.mpr c64
          subst c64
          have H1 : ((laws_toRow.f kj10 a0_0 a0_1 l0_2).bind fun bt392 => ((laws_eqRow.f kj10 t377 t378 t379 bt392.1 bt392.2.1 bt392.2.2).bind fun t397 => (if t397 = true then ((laws_markRow.f kj10 t377 t378 t379 1).bind fun bt398 => (if bt398.1 < 0 then (laws_FnExactSettleRow.j1 kj10 t374 t375 true a0_0 a0_1 l0_2 t369 t370 t371 t383 t384 t385) else ((laws_eqRow.f kj10 t383 t384 t385 t369 t370 t371).bind fun t400 => (if t400 = true then (if t388 = t374 then (laws_FnExactSettleRow.j1 kj10 t374 t375 (t389 != t375) a0_0 a0_1 l0_2 t369 t370 t371 t383 t384 t385) else (laws_FnExactSettleRow.j1 kj10 t374 t375 true a0_0 a0_1 l0_2 t369 t370 t371 t383 t384 t385)) else (laws_FnExactSettleRow.j1 kj10 t374 t375 true a0_0 a0_1 l0_2 t369 t370 t371 t383 t384 t385))))) else (some false)))) = some r := by rw [if_neg (show ¬ (false = true) by decide)] at H; exact H
          clear H
          have H := H1
          clear H1
          replace H := Option.bind_eq_some_iff.mp H
          obtain ⟨⟨t392, t393, t394⟩, A650, H⟩ := H
          replace H : ((laws_eqRow.f kj10 t377 t378 t379 t392 t393 t394).bind fun t397 => (if t397 = true then ((laws_markRow.f kj10 t377 t378 t379 1).bind fun bt398 => (if bt398.1 < 0 then (laws_FnExactSettleRow.j1 kj10 t374 t375 true a0_0 a0_1 l0_2 t369 t370 t371 t383 t384 t385) else ((laws_eqRow.f kj10 t383 t384 t385 t369 t370 t371).bind fun t400 => (if t400 = true then (if t388 = t374 then (laws_FnExactSettleRow.j1 kj10 t374 t375 (t389 != t375) a0_0 a0_1 l0_2 t369 t370 t371 t383 t384 t385) else (laws_FnExactSettleRow.j1 kj10 t374 t375 true a0_0 a0_1 l0_2 t369 t370 t371 t383 t384 t385)) else (laws_FnExactSettleRow.j1 kj10 t374 t375 true a0_0 a0_1 l0_2 t369 t370 t371 t383 t384 t385))))) else (some false))) = some r := H
          have A65 := Aside0.mk A650
          clear A650
          replace H := Option.bind_eq_some_iff.mp H
          obtain ⟨t397, A660, H⟩ := H
          replace H : (if t397 = true then ((laws_markRow.f kj10 t377 t378 t379 1).bind fun bt398 => (if bt398.1 < 0 then (laws_FnExactSettleRow.j1 kj10 t374 t375 true a0_0 a0_1 l0_2 t369 t370 t371 t383 t384 t385) else ((laws_eqRow.f kj10 t383 t384 t385 t369 t370 t371).bind fun t400 => (if t400 = true then (if t388 = t374 then (laws_FnExactSettleRow.j1 kj10 t374 t375 (t389 != t375) a0_0 a0_1 l0_2 t369 t370 t371 t383 t384 t385) else (laws_FnExactSettleRow.j1 kj10 t374 t375 true a0_0 a0_1 l0_2 t369 t370 t371 t383 t384 t385)) else (laws_FnExactSettleRow.j1 kj10 t374 t375 true a0_0 a0_1 l0_2 t369 t370 t371 t383 t384 t385))))) else (some false)) = some r := H
          have A66 := Aside0.mk A660
          clear A660
          by_cases c67 : t397 = true
          · subst c67
            have H1 : ((laws_markRow.f kj10 t377 t378 t379 1).bind fun bt398 => (if bt398.1 < 0 then (laws_FnExactSettleRow.j1 kj10 t374 t375 true a0_0 a0_1 l0_2 t369 t370 t371 t383 t384 t385) else ((laws_eqRow.f kj10 t383 t384 t385 t369 t370 t371).bind fun t400 => (if t400 = true then (if t388 = t374 then (laws_FnExactSettleRow.j1 kj10 t374 t375 (t389 != t375) a0_0 a0_1 l0_2 t369 t370 t371 t383 t384 t385) else (laws_FnExactSettleRow.j1 kj10 t374 t375 true a0_0 a0_1 l0_2 t369 t370 t371 t383 t384 t385)) else (laws_FnExactSettleRow.j1 kj10 t374 t375 true a0_0 a0_1 l0_2 t369 t370 t371 t383 t384 t385))))) = some r := by rw [if_pos rfl] at H; exact H
            clear H
            have H := H1
            clear H1
            replace H := Option.bind_eq_some_iff.mp H
            obtain ⟨⟨t398, t399⟩, A680, H⟩ := H
            replace H : (if t398 < 0 then (laws_FnExactSettleRow.j1 kj10 t374 t375 true a0_0 a0_1 l0_2 t369 t370 t371 t383 t384 t385) else ((laws_eqRow.f kj10 t383 t384 t385 t369 t370 t371).bind fun t400 => (if t400 = true then (if t388 = t374 then (laws_FnExactSettleRow.j1 kj10 t374 t375 (t389 != t375) a0_0 a0_1 l0_2 t369 t370 t371 t383 t384 t385) else (laws_FnExactSettleRow.j1 kj10 t374 t375 true a0_0 a0_1 l0_2 t369 t370 t371 t383 t384 t385)) else (laws_FnExactSettleRow.j1 kj10 t374 t375 true a0_0 a0_1 l0_2 t369 t370 t371 t383 t384 t385)))) = some r := H
            have A68 := Aside0.mk A680
            clear A680
            have HC69 := Aside0.mk H
            clear H
            try go_wp2
            have n0_ := Aside0.mk (Kd.V_drew HO_377002.out)
            have n1_ := Aside0.mk (Kd.R_drew HO_383002.out)
            have n2_ := Aside0.mk (Kd.R_drew HO_391002.out)
            have n3_ := Aside0.mk (blk_drew BK362.out)
            have n4_ := Aside0.mk (blk_drew BK376.out)
            have n5_ := Aside0.mk (blk_drew BK382.out)
            have n6_ := Aside0.mk (blk_drew BK390.out)
            have n7_ := Aside0.mk (below_drew1 HB.out)
            clear HO_377002
            clear HO_383002
            clear HO_391002
            clear BK362
            clear BK376
            clear BK382
            clear BK390
            clear HB
            have HO_377002 := n0_
            have HO_383002 := n1_
            have HO_391002 := n2_
            have BK362 := n3_
            have BK376 := n4_
            have BK382 := n5_
            have BK390 := n6_
            have HB := n7_
            clear n0_ n1_ n2_ n3_ n4_ n5_ n6_ n7_
            refine start_ (n := 5) (S := fun w' => w'.cell? ⟨gb382, 0, none⟩ = some (.int .i64 t377) ∧ w'.cell? ⟨gb382, 1, none⟩ = some (.bool t378) ∧ w'.cell? ⟨gb382, 2, none⟩ = some (.slice Ao29 t379.length co29) ∧ w'.cell? ⟨gb362, 0, none⟩ = some (.int .i64 a0_0) ∧ w'.cell? ⟨gb362, 1, none⟩ = some (.bool a0_1) ∧ w'.cell? ⟨gb362, 2, none⟩ = some (.slice A0_2 l0_2.length c0_2)) (ds := []) #[false, false, false, false, false] (by kernel_rfl) rfl rfl ⟨(blk_cell BK382.out 0).trans rfl, (blk_cell BK382.out 1).trans rfl, (blk_cell BK382.out 2).trans rfl, (blk_cell BK362.out 0).trans rfl, (blk_cell BK362.out 1).trans rfl, (blk_cell BK362.out 2).trans rfl⟩ (fun hHeld => ?_)
            generalize wc.drew = w70 at HO_377002 HO_383002 HO_391002 BK362 BK376 BK382 BK390 HB hHeld ⊢
            refine take_ (i := 0) (N := some 51) (v := ?_) (a' := ?_) #[true, false, false, false, false] rfl rfl (by kernel_rfl) (fun _ _ _ h => h) (Or.inl ⟨by rfl, ?_⟩) hHeld ?_ ?_
            rotate_left
            · rintro w' ⟨s0, s1, s2, s3, s4, s5⟩
              go_simp
              with_reducible rfl
            rotate_left
            · simp only [Act.put, List.setIfInBounds_toArray, List.set_cons_zero, List.set_cons_succ, i64_w, i32_w]
              rfl
            refine take_ (i := 1) (N := some 52) (v := ?_) (a' := ?_) #[true, true, false, false, false] rfl rfl (by kernel_rfl) (fun _ _ _ h => h) (Or.inl ⟨by rfl, ?_⟩) hHeld ?_ ?_
            rotate_left
            · rintro w' ⟨s0, s1, s2, s3, s4, s5⟩
              go_simp
              with_reducible rfl
            rotate_left
            · simp only [Act.put, List.setIfInBounds_toArray, List.set_cons_zero, List.set_cons_succ, i64_w, i32_w]
              rfl
            refine one_ (i := 2) (N := some 53) #[true, true, true, false, false] rfl rfl (by kernel_rfl) (by decide) (fun K hK => ?_)
            refine goes_ Tryd.func10 (by kernel_rfl) rfl #[.agg #[.int .i64 a0_0, .bool a0_1, .slice A0_2 l0_2.length c0_2]] (by rfl) rfl rfl (by (try simp only [List.map_toArray, List.map_cons, List.map_nil]); first | done | rfl | (simp only [List.length_drop, List.length_take]; rfl)) ?_
            with_reducible refine (laws_toRow.calls kj10 a0_0 a0_1 _ _ l0_2 t392 t393 t394 _ ?side1 ?side2 A65.out).mono ?_
            (case side1 => repeat (first | exact (Kd.C_below HR0_2.out HB.out) | (with_reducible refine Kd.C_alloc ?_ _) | (with_reducible refine Kd.C_drewN ?_ _) | (with_reducible refine Kd.C_drew ?_)))
            (case side2 => exact HC0_2.out)
            rintro e w71 ⟨v395, rfl, ho0, hb⟩
            refine ⟨_, rfl, ?_⟩
            have n0_ := Aside0.mk (Kd.V_elder' (by (with_reducible repeat (first | apply Kd.V_alloc | apply Kd.V_drewN | apply Kd.V_drew)); exact HO_377002.out) (Kd.R_base ho0) hb)
            have n1_ := Aside0.mk (Kd.R_elder' (by (with_reducible repeat (first | apply Kd.R_alloc | apply Kd.R_drewN | apply Kd.R_drew)); exact HO_383002.out) (Kd.R_base ho0) hb)
            have n2_ := Aside0.mk (Kd.R_elder' (by (with_reducible repeat (first | apply Kd.R_alloc | apply Kd.R_drewN | apply Kd.R_drew)); exact HO_391002.out) (Kd.R_base ho0) hb)
            have n3_ := Aside0.mk (Kd.R_lower (Kd.R_new' (Kd.R_new' ho0 (Kd.R_lt (by (with_reducible repeat (first | apply Kd.R_alloc | apply Kd.R_drewN | apply Kd.R_drew)); exact HO_383002.out))) (Kd.R_lt (by (with_reducible repeat (first | apply Kd.R_alloc | apply Kd.R_drewN | apply Kd.R_drew)); exact HO_391002.out))) (below_size (by repeat (first | (with_reducible first | exact HB.out | apply below_alloc | apply pw_below_drewN | apply below_drew1 | refine below_set ?_ GE362.out | refine below_set ?_ GE376.out | refine below_set ?_ GE382.out | refine below_set ?_ GE390.out) | exact HB.out))))
            have n4_ := Aside0.mk (blk_below (g := gb362) (o := .cells #[.int .i64 a0_0, .bool a0_1, .slice A0_2 l0_2.length c0_2] 24 (0, 0)) (by (with_reducible repeat (first | refine blk_drewN ?_ _ | refine blk_drew ?_ | refine blk_alloc ?_ _)); exact BK362.out) hb)
            have n5_ := Aside0.mk (blk_below (g := gb376) (o := .cells #[.int .i64 t369, .bool t370, .slice Ao22 t371.length co22] 26 (0, 0)) (by (with_reducible repeat (first | refine blk_drewN ?_ _ | refine blk_drew ?_ | refine blk_alloc ?_ _)); exact BK376.out) hb)
            have n6_ := Aside0.mk (blk_below (g := gb382) (o := .cells #[.int .i64 t377, .bool t378, .slice Ao29 t379.length co29] 26 (0, 0)) (by (with_reducible repeat (first | refine blk_drewN ?_ _ | refine blk_drew ?_ | refine blk_alloc ?_ _)); exact BK382.out) hb)
            have n7_ := Aside0.mk (blk_below (g := gb390) (o := .cells #[.int .i64 t383, .bool t384, .slice Ao36 t385.length co36] 26 (0, 0)) (by (with_reducible repeat (first | refine blk_drewN ?_ _ | refine blk_drew ?_ | refine blk_alloc ?_ _)); exact BK390.out) hb)
            have n8_ := Aside0.mk (below_step (by repeat (first | (with_reducible first | exact HB.out | apply below_alloc | apply pw_below_drewN | apply below_drew1 | refine below_set ?_ GE362.out | refine below_set ?_ GE376.out | refine below_set ?_ GE382.out | refine below_set ?_ GE390.out) | exact HB.out)) hb)
            clear HO_377002
            clear HO_383002
            clear HO_391002
            clear BK362
            clear BK376
            clear BK382
            clear BK390
            clear HB
            have HO_377002 := n0_
            have HO_383002 := n1_
            have HO_391002 := n2_
            have HO396 := n3_
            have BK362 := n4_
            have BK376 := n5_
            have BK382 := n6_
            have BK390 := n7_
            have HB := n8_
            clear n0_ n1_ n2_ n3_ n4_ n5_ n6_ n7_ n8_
            (try clear hb)
            (try clear hb2)
            (try clear hk)
            (try clear hi)
            (try clear ho0)
            obtain ⟨Ao72, co72, eo72⟩ := Kd.R_slice HO396.out
            (first | subst eo72 | (injection eo72 with f1_ f2_ f3_; have f4_ := f1_.symm; have f5_ := f3_.symm; clear f1_ f2_ f3_; subst f4_; subst f5_))
            refine hK.out _ _ ⟨(blk_cell BK382.out 0).trans rfl, (blk_cell BK382.out 1).trans rfl, (blk_cell BK382.out 2).trans rfl, (blk_cell BK362.out 0).trans rfl, (blk_cell BK362.out 1).trans rfl, (blk_cell BK362.out 2).trans rfl⟩ (fun hHeld => ?_)
            clear hK K
            refine norm_ (a' := ?_) ?_ ?_
            rotate_left
            · show Act.put _ (some 53) _ = _
              simp only [Act.put, List.setIfInBounds_toArray, List.set_cons_zero, List.set_cons_succ, i64_w, i32_w]
              rfl
            refine one_ (i := 3) (N := some 54) #[true, true, true, true, false] rfl rfl (by kernel_rfl) (by decide) (fun K hK => ?_)
            refine goes_ Tryd.func12 (by kernel_rfl) rfl #[.agg #[.int .i64 t377, .bool t378, .slice Ao29 t379.length co29], .agg #[.int .i64 t392, .bool t393, .slice Ao72 t394.length co72]] (by rfl) rfl rfl (by (try simp only [List.map_toArray, List.map_cons, List.map_nil]); first | done | rfl | (simp only [List.length_drop, List.length_take]; rfl)) ?_
            with_reducible refine (laws_eqRow.calls kj10 t377 t378 _ _ t379 t392 t393 _ _ t394 true _ ?side1 ?side2 ?side3 ?side4 A66.out).mono ?_
            (case side1 => repeat (first | exact (Kd.R_reads' HO_383002.out).2.2 | (with_reducible refine Kd.C_alloc ?_ _) | (with_reducible refine Kd.C_drewN ?_ _) | (with_reducible refine Kd.C_drew ?_)))
            (case side2 => exact (Kd.R_reads' HO_383002.out).2.1)
            (case side3 => repeat (first | exact (Kd.R_reads' HO396.out).2.2 | (with_reducible refine Kd.C_alloc ?_ _) | (with_reducible refine Kd.C_drewN ?_ _) | (with_reducible refine Kd.C_drew ?_)))
            (case side4 => exact (Kd.R_reads' HO396.out).2.1)
            rintro e w73 ⟨rfl, hb⟩
            refine ⟨_, rfl, ?_⟩
            have n0_ := Aside0.mk (Kd.V_below (by (with_reducible repeat (first | apply Kd.V_alloc | apply Kd.V_drewN | apply Kd.V_drew)); exact HO_377002.out) hb)
            have n1_ := Aside0.mk (Kd.R_below (by (with_reducible repeat (first | apply Kd.R_alloc | apply Kd.R_drewN | apply Kd.R_drew)); exact HO_383002.out) hb)
            have n2_ := Aside0.mk (Kd.R_below (by (with_reducible repeat (first | apply Kd.R_alloc | apply Kd.R_drewN | apply Kd.R_drew)); exact HO_391002.out) hb)
            have n3_ := Aside0.mk (Kd.R_below (by (with_reducible repeat (first | apply Kd.R_alloc | apply Kd.R_drewN | apply Kd.R_drew)); exact HO396.out) hb)
            have n4_ := Aside0.mk (blk_below (g := gb362) (o := .cells #[.int .i64 a0_0, .bool a0_1, .slice A0_2 l0_2.length c0_2] 24 (0, 0)) (by (with_reducible repeat (first | refine blk_drewN ?_ _ | refine blk_drew ?_ | refine blk_alloc ?_ _)); exact BK362.out) hb)
            have n5_ := Aside0.mk (blk_below (g := gb376) (o := .cells #[.int .i64 t369, .bool t370, .slice Ao22 t371.length co22] 26 (0, 0)) (by (with_reducible repeat (first | refine blk_drewN ?_ _ | refine blk_drew ?_ | refine blk_alloc ?_ _)); exact BK376.out) hb)
            have n6_ := Aside0.mk (blk_below (g := gb382) (o := .cells #[.int .i64 t377, .bool t378, .slice Ao29 t379.length co29] 26 (0, 0)) (by (with_reducible repeat (first | refine blk_drewN ?_ _ | refine blk_drew ?_ | refine blk_alloc ?_ _)); exact BK382.out) hb)
            have n7_ := Aside0.mk (blk_below (g := gb390) (o := .cells #[.int .i64 t383, .bool t384, .slice Ao36 t385.length co36] 26 (0, 0)) (by (with_reducible repeat (first | refine blk_drewN ?_ _ | refine blk_drew ?_ | refine blk_alloc ?_ _)); exact BK390.out) hb)
            have n8_ := Aside0.mk (below_step (by repeat (first | (with_reducible first | exact HB.out | apply below_alloc | apply pw_below_drewN | apply below_drew1 | refine below_set ?_ GE362.out | refine below_set ?_ GE376.out | refine below_set ?_ GE382.out | refine below_set ?_ GE390.out) | exact HB.out)) hb)
            clear HO_377002
            clear HO_383002
            clear HO_391002
            clear HO396
            clear BK362
            clear BK376
            clear BK382
            clear BK390
            clear HB
            have HO_377002 := n0_
            have HO_383002 := n1_
            have HO_391002 := n2_
            have HO396 := n3_
            have BK362 := n4_
            have BK376 := n5_
            have BK382 := n6_
            have BK390 := n7_
            have HB := n8_
            clear n0_ n1_ n2_ n3_ n4_ n5_ n6_ n7_ n8_
            (try clear hb)
            (try clear hb2)
            (try clear hk)
            (try clear hi)
            refine hK.out _ _ ⟨(blk_cell BK382.out 0).trans rfl, (blk_cell BK382.out 1).trans rfl, (blk_cell BK382.out 2).trans rfl, (blk_cell BK362.out 0).trans rfl, (blk_cell BK362.out 1).trans rfl, (blk_cell BK362.out 2).trans rfl⟩ (fun hHeld => ?_)
            clear hK K
            refine norm_ (a' := ?_) ?_ ?_
            rotate_left
            · show Act.put _ (some 54) _ = _
              simp only [Act.put, List.setIfInBounds_toArray, List.set_cons_zero, List.set_cons_succ, i64_w, i32_w]
              rfl
            refine pure_ (i := 4) (N := some 55) (v := ?_) (a' := ?_) #[true, true, true, true, true] rfl rfl (by kernel_rfl) (fun _ _ _ h => h) (Or.inl ⟨by rfl, ?_⟩) ?_ ?_
            rotate_left
            · intro w'
              go_simp
              with_reducible rfl
            rotate_left
            · simp only [Act.put, List.setIfInBounds_toArray, List.set_cons_zero, List.set_cons_succ, i64_w, i32_w]
              rfl
            refine done_ (by kernel_rfl) ?_
            have hnb74 := NB382_362.out
            have hnc74 := NB362_382.out
            have hnb75 := NB382_376.out
            have hnc75 := NB376_382.out
            have hnb76 := NB382_390.out
            have hnc76 := NB390_382.out
            have hcz77_0 : w73.cell? ⟨gb382, 0, none⟩ = some (.int .i64 t377) := (blk_cell BK382.out 0).trans rfl
            have hcz77_1 : w73.cell? ⟨gb382, 1, none⟩ = some (.bool t378) := (blk_cell BK382.out 1).trans rfl
            have hcz77_2 : w73.cell? ⟨gb382, 2, none⟩ = some (.slice Ao29 t379.length co29) := (blk_cell BK382.out 2).trans rfl
            have hfz77_0 := blk_frozen BK382.out 0
            have hfz77_1 := blk_frozen BK382.out 1
            have hfz77_2 := blk_frozen BK382.out 2
            go_upto_region 14 with (first | ((with_reducible refine gate_callee (f := 13) rfl ?_); refine goesL_ (some 58) rfl rfl Tryd.func13 (by kernel_rfl) rfl #[.agg #[.int .i64 t377, .bool t378, .slice Ao29 t379.length co29], .int .i64 1] rfl (by (try simp only [List.map_toArray, List.map_cons, List.map_nil]); first | done | rfl | (simp only [List.length_drop, List.length_take]; rfl)) ?_; (with_reducible refine (laws_markRow.calls kj10 t377 t378 (fun k_ => some k_ = (.slice Ao29 t379.length co29 : Value).ownBlock) (.slice Ao29 t379.length co29) t379 1 t398 t399 w _ ?side1 ?side2 A68.out).mono ?_); (case side1 => repeat (first | (with_reducible first | exact HB.out | apply below_alloc | apply pw_below_drewN | apply below_drew1 | refine below_set ?_ GE362.out | refine below_set ?_ GE376.out | refine below_set ?_ GE382.out | refine below_set ?_ GE390.out) | exact HB.out)); (case side2 => exact Kd.R_tight rfl HO_383002.out); rintro e w78 ⟨rfl, hy0, hb, hkp⟩; refine ⟨_, rfl, ?_⟩; have n0_ := Aside0.mk (Kd.V_mono (ok' := fun k_ => some k_ ≠ (.slice Ao29 t379.length co29 : Value).ownBlock ∧ some k_ ≠ (.slice Ao36 t385.length co36 : Value).ownBlock ∧ some k_ ≠ (.slice Ao72 t394.length co72 : Value).ownBlock ∧ k_ ≠ gb362 ∧ k_ ≠ gb376 ∧ k_ ≠ gb382 ∧ k_ ≠ gb390) (Kd.V_keptB (HO_377002.out) hkp (fun k_ hk_ hs_ => (hk_.1.1) hs_)) (fun k_ hk_ => ⟨hk_.1.1.1, hk_.1.1.2.1, hk_.1.2, hk_.1.1.2.2.1, hk_.1.1.2.2.2.1, hk_.1.1.2.2.2.2.1, hk_.1.1.2.2.2.2.2⟩)); have n1_ := Aside0.mk (Kd.R_reok rfl hy0 (fun k_ e_ => HO_383002.out.1 k_ e_)); have n2_ := Aside0.mk (Kd.R_mono (ok' := fun k_ => some k_ ≠ (.slice Ao29 t379.length co29 : Value).ownBlock ∧ some k_ ≠ (.slice Ao72 t394.length co72 : Value).ownBlock) (Kd.R_keptB (HO_391002.out) hkp (fun k_ hk_ hs_ => (hk_.1) hs_)) (fun k_ hk_ => ⟨hk_.1.1, hk_.1.2⟩)); have n3_ := Aside0.mk (blk_kept (by (with_reducible repeat (first | refine blk_drewN ?_ _ | refine blk_drew ?_ | refine blk_alloc ?_ _)); exact BK362.out) hkp (fun hs_ => (fun e_ => (Kd.R_ne HO_383002.out BK362.out (by decide)) e_) hs_)); have n4_ := Aside0.mk (blk_kept (by (with_reducible repeat (first | refine blk_drewN ?_ _ | refine blk_drew ?_ | refine blk_alloc ?_ _)); exact BK376.out) hkp (fun hs_ => (fun e_ => (Kd.R_ne HO_383002.out BK376.out (by decide)) e_) hs_)); have n5_ := Aside0.mk (blk_kept (by (with_reducible repeat (first | refine blk_drewN ?_ _ | refine blk_drew ?_ | refine blk_alloc ?_ _)); exact BK382.out) hkp (fun hs_ => (fun e_ => (Kd.R_ne HO_383002.out BK382.out (by decide)) e_) hs_)); have n6_ := Aside0.mk (blk_kept (by (with_reducible repeat (first | refine blk_drewN ?_ _ | refine blk_drew ?_ | refine blk_alloc ?_ _)); exact BK390.out) hkp (fun hs_ => (fun e_ => (Kd.R_ne HO_383002.out BK390.out (by decide)) e_) hs_)); have n7_ := Aside0.mk (Kd.R_mono (ok' := fun k_ => some k_ ≠ (.slice Ao29 t379.length co29 : Value).ownBlock ∧ some k_ ≠ (.slice Ao36 t385.length co36 : Value).ownBlock) (Kd.R_keptB (HO396.out) hkp (fun k_ hk_ hs_ => (hk_.1.2) hs_)) (fun k_ hk_ => ⟨hk_.1.1.2, hk_.1.2⟩)); have n8_ := Aside0.mk (hb); clear HO_377002; clear HO_383002; clear HO_391002; clear BK362; clear BK376; clear BK382; clear BK390; clear HO396; clear HB; have HO_377002 := n0_; have HO_383002 := n1_; have HO_391002 := n2_; have BK362 := n3_; have BK376 := n4_; have BK382 := n5_; have BK390 := n6_; have HO396 := n7_; have HB := n8_; clear n0_ n1_ n2_ n3_ n4_ n5_ n6_ n7_ n8_; (try clear hb); (try clear hkp); (try clear hy0)))
            (try simp only [Act.put, List.setIfInBounds_toArray, List.set_cons_zero, List.set_cons_succ])
            go_cut [76] (fun v76 wc => ∃ (kq : Nat) (x76_68 : Bool), v76 = .bool x76_68 ∧ Aside0 (laws_FnExactSettleRow.j1 kq t374 t375 x76_68 a0_0 a0_1 l0_2 t369 t370 t371 t383 t384 t385 = some r) ∧ Aside0 (kq ≤ kj10) ∧ Aside0 (Kd.V (Kd.int .i64) 3 wc w.heap.size (fun k_ => some k_ ≠ ((.slice Ao29 t379.length co29) : Value).ownBlock ∧ some k_ ≠ ((.slice Ao36 t385.length co36) : Value).ownBlock ∧ k_ ≠ gb362 ∧ k_ ≠ gb376 ∧ k_ ≠ gb382 ∧ k_ ≠ gb390) (.slice Ao22 t371.length co22) t371) ∧ Aside0 (Kd.R (Kd.int .i64) 3 wc w.heap.size (fun k_ => some k_ ≠ ((.slice Ao36 t385.length co36) : Value).ownBlock) (.slice Ao29 t379.length co29) t399) ∧ Aside0 (Kd.R (Kd.int .i64) 3 wc w.heap.size (fun k_ => some k_ ≠ ((.slice Ao29 t379.length co29) : Value).ownBlock) (.slice Ao36 t385.length co36) t385) ∧ Aside0 (wc.heap[gb362]? = some (.cells #[.int .i64 a0_0, .bool a0_1, (.slice A0_2 l0_2.length c0_2)] 24 (0, 0))) ∧ Aside0 (wc.heap[gb376]? = some (.cells #[.int .i64 t369, .bool t370, (.slice Ao22 t371.length co22)] 26 (0, 0))) ∧ Aside0 (wc.heap[gb382]? = some (.cells #[.int .i64 t377, .bool t378, (.slice Ao29 t379.length co29)] 26 (0, 0))) ∧ Aside0 (wc.heap[gb390]? = some (.cells #[.int .i64 t383, .bool t384, (.slice Ao36 t385.length co36)] 26 (0, 0))) ∧ Aside0 (Below w.heap.size w wc))
            case first =>
              have H := HC69.out
              clear HC69
              by_cases c79 : t398 < 0
              · rw [if_pos c79] at H
                have c79b0 : decide (t398 < 0) = true := decide_eq_true c79
                clear c79
                (first | rw [c79b0] | (simp only [i64_w, i32_w]; rw [c79b0]) | skip)
                have H' := Aside0.mk H
                clear H
                go_wp2
                go_meet
                case rel => exact ⟨_, (true), (by first | rfl | (simp; done) | (simp [*]; done) | (simp [wrap64]; done) | (simp [*, wrap64]; done)), H', ⟨by have := HJ10.out; first | omega | exact Nat.le_refl _⟩, ⟨by (with_reducible repeat (first | apply Kd.V_alloc | apply Kd.V_drewN | apply Kd.V_drew)); exact Kd.V_mono HO_377002.out (fun _ hk => ⟨hk.1, ⟨hk.2.1, ⟨hk.2.2.2.1, ⟨hk.2.2.2.2.1, ⟨hk.2.2.2.2.2.1, hk.2.2.2.2.2.2⟩⟩⟩⟩⟩)⟩, ⟨by (with_reducible repeat (first | apply Kd.R_alloc | apply Kd.R_drewN | apply Kd.R_drew)); exact Kd.R_mono HO_383002.out (fun _ hk => hk.1)⟩, ⟨by (with_reducible repeat (first | apply Kd.R_alloc | apply Kd.R_drewN | apply Kd.R_drew)); exact Kd.R_mono HO_391002.out (fun _ hk => hk.1)⟩, ⟨by (with_reducible repeat (first | refine blk_drewN ?_ _ | refine blk_drew ?_ | refine blk_alloc ?_ _)); exact BK362.out⟩, ⟨by (with_reducible repeat (first | refine blk_drewN ?_ _ | refine blk_drew ?_ | refine blk_alloc ?_ _)); exact BK376.out⟩, ⟨by (with_reducible repeat (first | refine blk_drewN ?_ _ | refine blk_drew ?_ | refine blk_alloc ?_ _)); exact BK382.out⟩, ⟨by (with_reducible repeat (first | refine blk_drewN ?_ _ | refine blk_drew ?_ | refine blk_alloc ?_ _)); exact BK390.out⟩, ⟨by repeat (first | (with_reducible first | exact HB.out | apply below_alloc | apply pw_below_drewN | apply below_drew1 | refine below_set ?_ GE362.out | refine below_set ?_ GE376.out | refine below_set ?_ GE382.out | refine below_set ?_ GE390.out) | exact HB.out)⟩⟩
              · rw [if_neg c79] at H
                have c79b0 : decide (t398 < 0) = false := decide_eq_false c79
                clear c79
                (first | rw [c79b0] | (simp only [i64_w, i32_w]; rw [c79b0]) | skip)
                replace H := Option.bind_eq_some_iff.mp H
                obtain ⟨t400, A800, H⟩ := H
                replace H : (if t400 = true then (if t388 = t374 then (laws_FnExactSettleRow.j1 kj10 t374 t375 (t389 != t375) a0_0 a0_1 l0_2 t369 t370 t371 t383 t384 t385) else (laws_FnExactSettleRow.j1 kj10 t374 t375 true a0_0 a0_1 l0_2 t369 t370 t371 t383 t384 t385)) else (laws_FnExactSettleRow.j1 kj10 t374 t375 true a0_0 a0_1 l0_2 t369 t370 t371 t383 t384 t385)) = some r := H
                have A80 := Aside0.mk A800
                clear A800
                by_cases c81 : t400 = true
                · subst c81
                  have H1 : (if t388 = t374 then (laws_FnExactSettleRow.j1 kj10 t374 t375 (t389 != t375) a0_0 a0_1 l0_2 t369 t370 t371 t383 t384 t385) else (laws_FnExactSettleRow.j1 kj10 t374 t375 true a0_0 a0_1 l0_2 t369 t370 t371 t383 t384 t385)) = some r := by rw [if_pos rfl] at H; exact H
                  clear H
                  have H := H1
                  clear H1
                  by_cases c82 : t388 = t374
                  · rw [if_pos c82] at H
                    have c82b0 : (t388 == t374) = true := beq_iff_eq.mpr c82
                    have c82b1 : (t388 != t374) = false := bne_eq_false_iff_eq.mpr c82
                    clear c82
                    have H' := Aside0.mk H
                    clear H
                    have hnb83 := NB390_362.out
                    have hnc83 := NB362_390.out
                    have hnb84 := NB390_376.out
                    have hnc84 := NB376_390.out
                    have hnb85 := NB390_382.out
                    have hnc85 := NB382_390.out
                    have hcz86_0 : w78.cell? ⟨gb390, 0, none⟩ = some (.int .i64 t383) := (blk_cell BK390.out 0).trans rfl
                    have hcz86_1 : w78.cell? ⟨gb390, 1, none⟩ = some (.bool t384) := (blk_cell BK390.out 1).trans rfl
                    have hcz86_2 : w78.cell? ⟨gb390, 2, none⟩ = some (.slice Ao36 t385.length co36) := (blk_cell BK390.out 2).trans rfl
                    have hfz86_0 := blk_frozen BK390.out 0
                    have hfz86_1 := blk_frozen BK390.out 1
                    have hfz86_2 := blk_frozen BK390.out 2
                    have hnb87 := NB376_362.out
                    have hnc87 := NB362_376.out
                    have hnb88 := NB376_382.out
                    have hnc88 := NB382_376.out
                    have hcz89_0 : w78.cell? ⟨gb376, 0, none⟩ = some (.int .i64 t369) := (blk_cell BK376.out 0).trans rfl
                    have hcz89_1 : w78.cell? ⟨gb376, 1, none⟩ = some (.bool t370) := (blk_cell BK376.out 1).trans rfl
                    have hcz89_2 : w78.cell? ⟨gb376, 2, none⟩ = some (.slice Ao22 t371.length co22) := (blk_cell BK376.out 2).trans rfl
                    have hfz89_0 := blk_frozen BK376.out 0
                    have hfz89_1 := blk_frozen BK376.out 1
                    have hfz89_2 := blk_frozen BK376.out 2
                    go_wp2_with (first | (go_at_call 12; (with_reducible refine (laws_eqRow.calls kj10 t383 t384 _ _ t385 t369 t370 _ _ t371 true _ ?side1 ?side2 ?side3 ?side4 A80.out).mono ?_); (case side1 => repeat (first | exact (Kd.R_reads' HO_391002.out).2.2 | (with_reducible refine Kd.C_alloc ?_ _) | (with_reducible refine Kd.C_drewN ?_ _) | (with_reducible refine Kd.C_drew ?_))); (case side2 => exact (Kd.R_reads' HO_391002.out).2.1); (case side3 => repeat (first | exact (Kd.V_reads' HO_377002.out).2.2 | (with_reducible refine Kd.C_alloc ?_ _) | (with_reducible refine Kd.C_drewN ?_ _) | (with_reducible refine Kd.C_drew ?_))); (case side4 => exact (Kd.V_reads' HO_377002.out).2.1); rintro e w90 ⟨rfl, hb⟩; have n0_ := Aside0.mk (Kd.V_below (by (with_reducible repeat (first | apply Kd.V_alloc | apply Kd.V_drewN | apply Kd.V_drew)); exact HO_377002.out) hb); have n1_ := Aside0.mk (Kd.R_below (by (with_reducible repeat (first | apply Kd.R_alloc | apply Kd.R_drewN | apply Kd.R_drew)); exact HO_383002.out) hb); have n2_ := Aside0.mk (Kd.R_below (by (with_reducible repeat (first | apply Kd.R_alloc | apply Kd.R_drewN | apply Kd.R_drew)); exact HO_391002.out) hb); have n3_ := Aside0.mk (Kd.R_below (by (with_reducible repeat (first | apply Kd.R_alloc | apply Kd.R_drewN | apply Kd.R_drew)); exact HO396.out) hb); have n4_ := Aside0.mk (blk_below (g := gb362) (o := .cells #[.int .i64 a0_0, .bool a0_1, .slice A0_2 l0_2.length c0_2] 24 (0, 0)) (by (with_reducible repeat (first | refine blk_drewN ?_ _ | refine blk_drew ?_ | refine blk_alloc ?_ _)); exact BK362.out) hb); have n5_ := Aside0.mk (blk_below (g := gb376) (o := .cells #[.int .i64 t369, .bool t370, .slice Ao22 t371.length co22] 26 (0, 0)) (by (with_reducible repeat (first | refine blk_drewN ?_ _ | refine blk_drew ?_ | refine blk_alloc ?_ _)); exact BK376.out) hb); have n6_ := Aside0.mk (blk_below (g := gb382) (o := .cells #[.int .i64 t377, .bool t378, .slice Ao29 t379.length co29] 26 (0, 0)) (by (with_reducible repeat (first | refine blk_drewN ?_ _ | refine blk_drew ?_ | refine blk_alloc ?_ _)); exact BK382.out) hb); have n7_ := Aside0.mk (blk_below (g := gb390) (o := .cells #[.int .i64 t383, .bool t384, .slice Ao36 t385.length co36] 26 (0, 0)) (by (with_reducible repeat (first | refine blk_drewN ?_ _ | refine blk_drew ?_ | refine blk_alloc ?_ _)); exact BK390.out) hb); have n8_ := Aside0.mk (below_step (by repeat (first | (with_reducible first | exact HB.out | apply below_alloc | apply pw_below_drewN | apply below_drew1 | refine below_set ?_ GE362.out | refine below_set ?_ GE376.out | refine below_set ?_ GE382.out | refine below_set ?_ GE390.out) | exact HB.out)) hb); clear HO_377002; clear HO_383002; clear HO_391002; clear HO396; clear BK362; clear BK376; clear BK382; clear BK390; clear HB; have HO_377002 := n0_; have HO_383002 := n1_; have HO_391002 := n2_; have HO396 := n3_; have BK362 := n4_; have BK376 := n5_; have BK382 := n6_; have BK390 := n7_; have HB := n8_; clear n0_ n1_ n2_ n3_ n4_ n5_ n6_ n7_ n8_; (try clear hb); (try clear hb2); (try clear hk); (try clear hi)))
                    go_meet
                    case rel => exact ⟨_, ((t389 != t375)), (by first | rfl | (simp; done) | (simp [*]; done) | (simp [wrap64]; done) | (simp [*, wrap64]; done)), H', ⟨by have := HJ10.out; first | omega | exact Nat.le_refl _⟩, ⟨by (with_reducible repeat (first | apply Kd.V_alloc | apply Kd.V_drewN | apply Kd.V_drew)); exact Kd.V_mono HO_377002.out (fun _ hk => ⟨hk.1, ⟨hk.2.1, ⟨hk.2.2.2.1, ⟨hk.2.2.2.2.1, ⟨hk.2.2.2.2.2.1, hk.2.2.2.2.2.2⟩⟩⟩⟩⟩)⟩, ⟨by (with_reducible repeat (first | apply Kd.R_alloc | apply Kd.R_drewN | apply Kd.R_drew)); exact Kd.R_mono HO_383002.out (fun _ hk => hk.1)⟩, ⟨by (with_reducible repeat (first | apply Kd.R_alloc | apply Kd.R_drewN | apply Kd.R_drew)); exact Kd.R_mono HO_391002.out (fun _ hk => hk.1)⟩, ⟨by (with_reducible repeat (first | refine blk_drewN ?_ _ | refine blk_drew ?_ | refine blk_alloc ?_ _)); exact BK362.out⟩, ⟨by (with_reducible repeat (first | refine blk_drewN ?_ _ | refine blk_drew ?_ | refine blk_alloc ?_ _)); exact BK376.out⟩, ⟨by (with_reducible repeat (first | refine blk_drewN ?_ _ | refine blk_drew ?_ | refine blk_alloc ?_ _)); exact BK382.out⟩, ⟨by (with_reducible repeat (first | refine blk_drewN ?_ _ | refine blk_drew ?_ | refine blk_alloc ?_ _)); exact BK390.out⟩, ⟨by repeat (first | (with_reducible first | exact HB.out | apply below_alloc | apply pw_below_drewN | apply below_drew1 | refine below_set ?_ GE362.out | refine below_set ?_ GE376.out | refine below_set ?_ GE382.out | refine below_set ?_ GE390.out) | exact HB.out)⟩⟩
                  · rw [if_neg c82] at H
                    have c82b0 : (t388 == t374) = false := beq_eq_false_iff_ne.mpr c82
                    have c82b1 : (t388 != t374) = true := bne_iff_ne.mpr c82
                    have H' := Aside0.mk H
                    clear H
                    have hnb91 := NB390_362.out
                    have hnc91 := NB362_390.out
                    have hnb92 := NB390_376.out
                    have hnc92 := NB376_390.out
                    have hnb93 := NB390_382.out
                    have hnc93 := NB382_390.out
                    have hcz94_0 : w78.cell? ⟨gb390, 0, none⟩ = some (.int .i64 t383) := (blk_cell BK390.out 0).trans rfl
                    have hcz94_1 : w78.cell? ⟨gb390, 1, none⟩ = some (.bool t384) := (blk_cell BK390.out 1).trans rfl
                    have hcz94_2 : w78.cell? ⟨gb390, 2, none⟩ = some (.slice Ao36 t385.length co36) := (blk_cell BK390.out 2).trans rfl
                    have hfz94_0 := blk_frozen BK390.out 0
                    have hfz94_1 := blk_frozen BK390.out 1
                    have hfz94_2 := blk_frozen BK390.out 2
                    have hnb95 := NB376_362.out
                    have hnc95 := NB362_376.out
                    have hnb96 := NB376_382.out
                    have hnc96 := NB382_376.out
                    have hcz97_0 : w78.cell? ⟨gb376, 0, none⟩ = some (.int .i64 t369) := (blk_cell BK376.out 0).trans rfl
                    have hcz97_1 : w78.cell? ⟨gb376, 1, none⟩ = some (.bool t370) := (blk_cell BK376.out 1).trans rfl
                    have hcz97_2 : w78.cell? ⟨gb376, 2, none⟩ = some (.slice Ao22 t371.length co22) := (blk_cell BK376.out 2).trans rfl
                    have hfz97_0 := blk_frozen BK376.out 0
                    have hfz97_1 := blk_frozen BK376.out 1
                    have hfz97_2 := blk_frozen BK376.out 2
                    go_wp2_with (first | (go_at_call 12; (with_reducible refine (laws_eqRow.calls kj10 t383 t384 _ _ t385 t369 t370 _ _ t371 true _ ?side1 ?side2 ?side3 ?side4 A80.out).mono ?_); (case side1 => repeat (first | exact (Kd.R_reads' HO_391002.out).2.2 | (with_reducible refine Kd.C_alloc ?_ _) | (with_reducible refine Kd.C_drewN ?_ _) | (with_reducible refine Kd.C_drew ?_))); (case side2 => exact (Kd.R_reads' HO_391002.out).2.1); (case side3 => repeat (first | exact (Kd.V_reads' HO_377002.out).2.2 | (with_reducible refine Kd.C_alloc ?_ _) | (with_reducible refine Kd.C_drewN ?_ _) | (with_reducible refine Kd.C_drew ?_))); (case side4 => exact (Kd.V_reads' HO_377002.out).2.1); rintro e w98 ⟨rfl, hb⟩; have n0_ := Aside0.mk (Kd.V_below (by (with_reducible repeat (first | apply Kd.V_alloc | apply Kd.V_drewN | apply Kd.V_drew)); exact HO_377002.out) hb); have n1_ := Aside0.mk (Kd.R_below (by (with_reducible repeat (first | apply Kd.R_alloc | apply Kd.R_drewN | apply Kd.R_drew)); exact HO_383002.out) hb); have n2_ := Aside0.mk (Kd.R_below (by (with_reducible repeat (first | apply Kd.R_alloc | apply Kd.R_drewN | apply Kd.R_drew)); exact HO_391002.out) hb); have n3_ := Aside0.mk (Kd.R_below (by (with_reducible repeat (first | apply Kd.R_alloc | apply Kd.R_drewN | apply Kd.R_drew)); exact HO396.out) hb); have n4_ := Aside0.mk (blk_below (g := gb362) (o := .cells #[.int .i64 a0_0, .bool a0_1, .slice A0_2 l0_2.length c0_2] 24 (0, 0)) (by (with_reducible repeat (first | refine blk_drewN ?_ _ | refine blk_drew ?_ | refine blk_alloc ?_ _)); exact BK362.out) hb); have n5_ := Aside0.mk (blk_below (g := gb376) (o := .cells #[.int .i64 t369, .bool t370, .slice Ao22 t371.length co22] 26 (0, 0)) (by (with_reducible repeat (first | refine blk_drewN ?_ _ | refine blk_drew ?_ | refine blk_alloc ?_ _)); exact BK376.out) hb); have n6_ := Aside0.mk (blk_below (g := gb382) (o := .cells #[.int .i64 t377, .bool t378, .slice Ao29 t379.length co29] 26 (0, 0)) (by (with_reducible repeat (first | refine blk_drewN ?_ _ | refine blk_drew ?_ | refine blk_alloc ?_ _)); exact BK382.out) hb); have n7_ := Aside0.mk (blk_below (g := gb390) (o := .cells #[.int .i64 t383, .bool t384, .slice Ao36 t385.length co36] 26 (0, 0)) (by (with_reducible repeat (first | refine blk_drewN ?_ _ | refine blk_drew ?_ | refine blk_alloc ?_ _)); exact BK390.out) hb); have n8_ := Aside0.mk (below_step (by repeat (first | (with_reducible first | exact HB.out | apply below_alloc | apply pw_below_drewN | apply below_drew1 | refine below_set ?_ GE362.out | refine below_set ?_ GE376.out | refine below_set ?_ GE382.out | refine below_set ?_ GE390.out) | exact HB.out)) hb); clear HO_377002; clear HO_383002; clear HO_391002; clear HO396; clear BK362; clear BK376; clear BK382; clear BK390; clear HB; have HO_377002 := n0_; have HO_383002 := n1_; have HO_391002 := n2_; have HO396 := n3_; have BK362 := n4_; have BK376 := n5_; have BK382 := n6_; have BK390 := n7_; have HB := n8_; clear n0_ n1_ n2_ n3_ n4_ n5_ n6_ n7_ n8_; (try clear hb); (try clear hb2); (try clear hk); (try clear hi)))
                    go_meet
                    case rel => exact ⟨_, (true), (by first | rfl | (simp; done) | (simp [*]; done) | (simp [wrap64]; done) | (simp [*, wrap64]; done)), H', ⟨by have := HJ10.out; first | omega | exact Nat.le_refl _⟩, ⟨by (with_reducible repeat (first | apply Kd.V_alloc | apply Kd.V_drewN | apply Kd.V_drew)); exact Kd.V_mono HO_377002.out (fun _ hk => ⟨hk.1, ⟨hk.2.1, ⟨hk.2.2.2.1, ⟨hk.2.2.2.2.1, ⟨hk.2.2.2.2.2.1, hk.2.2.2.2.2.2⟩⟩⟩⟩⟩)⟩, ⟨by (with_reducible repeat (first | apply Kd.R_alloc | apply Kd.R_drewN | apply Kd.R_drew)); exact Kd.R_mono HO_383002.out (fun _ hk => hk.1)⟩, ⟨by (with_reducible repeat (first | apply Kd.R_alloc | apply Kd.R_drewN | apply Kd.R_drew)); exact Kd.R_mono HO_391002.out (fun _ hk => hk.1)⟩, ⟨by (with_reducible repeat (first | refine blk_drewN ?_ _ | refine blk_drew ?_ | refine blk_alloc ?_ _)); exact BK362.out⟩, ⟨by (with_reducible repeat (first | refine blk_drewN ?_ _ | refine blk_drew ?_ | refine blk_alloc ?_ _)); exact BK376.out⟩, ⟨by (with_reducible repeat (first | refine blk_drewN ?_ _ | refine blk_drew ?_ | refine blk_alloc ?_ _)); exact BK382.out⟩, ⟨by (with_reducible repeat (first | refine blk_drewN ?_ _ | refine blk_drew ?_ | refine blk_alloc ?_ _)); exact BK390.out⟩, ⟨by repeat (first | (with_reducible first | exact HB.out | apply below_alloc | apply pw_below_drewN | apply below_drew1 | refine below_set ?_ GE362.out | refine below_set ?_ GE376.out | refine below_set ?_ GE382.out | refine below_set ?_ GE390.out) | exact HB.out)⟩⟩
                · replace c81 := Bool.eq_false_iff.mpr c81
                  subst c81
                  have H1 : (laws_FnExactSettleRow.j1 kj10 t374 t375 true a0_0 a0_1 l0_2 t369 t370 t371 t383 t384 t385) = some r := by rw [if_neg (show ¬ (false = true) by decide)] at H; exact H
                  clear H
                  have H := H1
                  clear H1
                  have H' := Aside0.mk H
                  clear H
                  have hnb99 := NB390_362.out
                  have hnc99 := NB362_390.out
                  have hnb100 := NB390_376.out
                  have hnc100 := NB376_390.out
                  have hnb101 := NB390_382.out
                  have hnc101 := NB382_390.out
                  have hcz102_0 : w78.cell? ⟨gb390, 0, none⟩ = some (.int .i64 t383) := (blk_cell BK390.out 0).trans rfl
                  have hcz102_1 : w78.cell? ⟨gb390, 1, none⟩ = some (.bool t384) := (blk_cell BK390.out 1).trans rfl
                  have hcz102_2 : w78.cell? ⟨gb390, 2, none⟩ = some (.slice Ao36 t385.length co36) := (blk_cell BK390.out 2).trans rfl
                  have hfz102_0 := blk_frozen BK390.out 0
                  have hfz102_1 := blk_frozen BK390.out 1
                  have hfz102_2 := blk_frozen BK390.out 2
                  have hnb103 := NB376_362.out
                  have hnc103 := NB362_376.out
                  have hnb104 := NB376_382.out
                  have hnc104 := NB382_376.out
                  have hcz105_0 : w78.cell? ⟨gb376, 0, none⟩ = some (.int .i64 t369) := (blk_cell BK376.out 0).trans rfl
                  have hcz105_1 : w78.cell? ⟨gb376, 1, none⟩ = some (.bool t370) := (blk_cell BK376.out 1).trans rfl
                  have hcz105_2 : w78.cell? ⟨gb376, 2, none⟩ = some (.slice Ao22 t371.length co22) := (blk_cell BK376.out 2).trans rfl
                  have hfz105_0 := blk_frozen BK376.out 0
                  have hfz105_1 := blk_frozen BK376.out 1
                  have hfz105_2 := blk_frozen BK376.out 2
                  go_wp2_with (first | (go_at_call 12; (with_reducible refine (laws_eqRow.calls kj10 t383 t384 _ _ t385 t369 t370 _ _ t371 false _ ?side1 ?side2 ?side3 ?side4 A80.out).mono ?_); (case side1 => repeat (first | exact (Kd.R_reads' HO_391002.out).2.2 | (with_reducible refine Kd.C_alloc ?_ _) | (with_reducible refine Kd.C_drewN ?_ _) | (with_reducible refine Kd.C_drew ?_))); (case side2 => exact (Kd.R_reads' HO_391002.out).2.1); (case side3 => repeat (first | exact (Kd.V_reads' HO_377002.out).2.2 | (with_reducible refine Kd.C_alloc ?_ _) | (with_reducible refine Kd.C_drewN ?_ _) | (with_reducible refine Kd.C_drew ?_))); (case side4 => exact (Kd.V_reads' HO_377002.out).2.1); rintro e w106 ⟨rfl, hb⟩; have n0_ := Aside0.mk (Kd.V_below (by (with_reducible repeat (first | apply Kd.V_alloc | apply Kd.V_drewN | apply Kd.V_drew)); exact HO_377002.out) hb); have n1_ := Aside0.mk (Kd.R_below (by (with_reducible repeat (first | apply Kd.R_alloc | apply Kd.R_drewN | apply Kd.R_drew)); exact HO_383002.out) hb); have n2_ := Aside0.mk (Kd.R_below (by (with_reducible repeat (first | apply Kd.R_alloc | apply Kd.R_drewN | apply Kd.R_drew)); exact HO_391002.out) hb); have n3_ := Aside0.mk (Kd.R_below (by (with_reducible repeat (first | apply Kd.R_alloc | apply Kd.R_drewN | apply Kd.R_drew)); exact HO396.out) hb); have n4_ := Aside0.mk (blk_below (g := gb362) (o := .cells #[.int .i64 a0_0, .bool a0_1, .slice A0_2 l0_2.length c0_2] 24 (0, 0)) (by (with_reducible repeat (first | refine blk_drewN ?_ _ | refine blk_drew ?_ | refine blk_alloc ?_ _)); exact BK362.out) hb); have n5_ := Aside0.mk (blk_below (g := gb376) (o := .cells #[.int .i64 t369, .bool t370, .slice Ao22 t371.length co22] 26 (0, 0)) (by (with_reducible repeat (first | refine blk_drewN ?_ _ | refine blk_drew ?_ | refine blk_alloc ?_ _)); exact BK376.out) hb); have n6_ := Aside0.mk (blk_below (g := gb382) (o := .cells #[.int .i64 t377, .bool t378, .slice Ao29 t379.length co29] 26 (0, 0)) (by (with_reducible repeat (first | refine blk_drewN ?_ _ | refine blk_drew ?_ | refine blk_alloc ?_ _)); exact BK382.out) hb); have n7_ := Aside0.mk (blk_below (g := gb390) (o := .cells #[.int .i64 t383, .bool t384, .slice Ao36 t385.length co36] 26 (0, 0)) (by (with_reducible repeat (first | refine blk_drewN ?_ _ | refine blk_drew ?_ | refine blk_alloc ?_ _)); exact BK390.out) hb); have n8_ := Aside0.mk (below_step (by repeat (first | (with_reducible first | exact HB.out | apply below_alloc | apply pw_below_drewN | apply below_drew1 | refine below_set ?_ GE362.out | refine below_set ?_ GE376.out | refine below_set ?_ GE382.out | refine below_set ?_ GE390.out) | exact HB.out)) hb); clear HO_377002; clear HO_383002; clear HO_391002; clear HO396; clear BK362; clear BK376; clear BK382; clear BK390; clear HB; have HO_377002 := n0_; have HO_383002 := n1_; have HO_391002 := n2_; have HO396 := n3_; have BK362 := n4_; have BK376 := n5_; have BK382 := n6_; have BK390 := n7_; have HB := n8_; clear n0_ n1_ n2_ n3_ n4_ n5_ n6_ n7_ n8_; (try clear hb); (try clear hb2); (try clear hk); (try clear hi)))
                  go_meet
                  case rel => exact ⟨_, (true), (by first | rfl | (simp; done) | (simp [*]; done) | (simp [wrap64]; done) | (simp [*, wrap64]; done)), H', ⟨by have := HJ10.out; first | omega | exact Nat.le_refl _⟩, ⟨by (with_reducible repeat (first | apply Kd.V_alloc | apply Kd.V_drewN | apply Kd.V_drew)); exact Kd.V_mono HO_377002.out (fun _ hk => ⟨hk.1, ⟨hk.2.1, ⟨hk.2.2.2.1, ⟨hk.2.2.2.2.1, ⟨hk.2.2.2.2.2.1, hk.2.2.2.2.2.2⟩⟩⟩⟩⟩)⟩, ⟨by (with_reducible repeat (first | apply Kd.R_alloc | apply Kd.R_drewN | apply Kd.R_drew)); exact Kd.R_mono HO_383002.out (fun _ hk => hk.1)⟩, ⟨by (with_reducible repeat (first | apply Kd.R_alloc | apply Kd.R_drewN | apply Kd.R_drew)); exact Kd.R_mono HO_391002.out (fun _ hk => hk.1)⟩, ⟨by (with_reducible repeat (first | refine blk_drewN ?_ _ | refine blk_drew ?_ | refine blk_alloc ?_ _)); exact BK362.out⟩, ⟨by (with_reducible repeat (first | refine blk_drewN ?_ _ | refine blk_drew ?_ | refine blk_alloc ?_ _)); exact BK376.out⟩, ⟨by (with_reducible repeat (first | refine blk_drewN ?_ _ | refine blk_drew ?_ | refine blk_alloc ?_ _)); exact BK382.out⟩, ⟨by (with_reducible repeat (first | refine blk_drewN ?_ _ | refine blk_drew ?_ | refine blk_alloc ?_ _)); exact BK390.out⟩, ⟨by repeat (first | (with_reducible first | exact HB.out | apply below_alloc | apply pw_below_drewN | apply below_drew1 | refine below_set ?_ GE362.out | refine below_set ?_ GE376.out | refine below_set ?_ GE382.out | refine below_set ?_ GE390.out) | exact HB.out)⟩⟩
            case rest =>
              clear HC69
              try clear c1
              try clear c2
              try clear p2
              try clear c3
              try clear c3b0
              try clear c4
              try clear c5
              try clear c6
              try clear p6
              try clear c7
              try clear c8
              try clear c9
              try clear c10
              try clear c11
              try clear c12
              try clear c13
              try clear c20
              try clear c26
              try clear c27
              try clear c32
              try clear c33
              try clear c34
              try clear c38
              try clear c39
              try clear c39b0
              try clear c39b1
              try clear c40
              try clear c41
              try clear c42
              try clear c44
              try clear c45
              try clear c48
              try clear c49
              try clear c50
              try clear c52
              try clear c53
              try clear c56
              try clear c57
              try clear c58
              try clear c60
              try clear c61
              try clear c64
              try clear p64
              try clear c67
              try clear c74
              try clear c75
              try clear c76
              try clear c79
              try clear c79b0
              try clear c81
              try clear c82
              try clear c82b0
              try clear c82b1
              try clear c83
              try clear c84
              try clear c85
              try clear c87
              try clear c88
              try clear c91
              try clear c92
              try clear c93
              try clear c95
              try clear c96
              try clear c99
              try clear c100
              try clear c101
              try clear c103
              try clear c104
              try clear hcz102_0
              try clear hcz102_1
              try clear hcz102_2
              try clear hcz105_0
              try clear hcz105_1
              try clear hcz105_2
              try clear hcz13_0
              try clear hcz13_1
              try clear hcz13_2
              try clear hcz15_0
              try clear hcz15_1
              try clear hcz15_2
              try clear hcz21_0
              try clear hcz21_1
              try clear hcz21_2
              try clear hcz23_0
              try clear hcz23_1
              try clear hcz23_2
              try clear hcz28_0
              try clear hcz28_1
              try clear hcz28_2
              try clear hcz35_0
              try clear hcz35_1
              try clear hcz35_2
              try clear hcz43_0
              try clear hcz43_1
              try clear hcz43_2
              try clear hcz46_0
              try clear hcz46_1
              try clear hcz46_2
              try clear hcz51_0
              try clear hcz51_1
              try clear hcz51_2
              try clear hcz54_0
              try clear hcz54_1
              try clear hcz54_2
              try clear hcz59_0
              try clear hcz59_1
              try clear hcz59_2
              try clear hcz5_0
              try clear hcz5_1
              try clear hcz5_2
              try clear hcz62_0
              try clear hcz62_1
              try clear hcz62_2
              try clear hcz77_0
              try clear hcz77_1
              try clear hcz77_2
              try clear hcz86_0
              try clear hcz86_1
              try clear hcz86_2
              try clear hcz89_0
              try clear hcz89_1
              try clear hcz89_2
              try clear hcz94_0
              try clear hcz94_1
              try clear hcz94_2
              try clear hcz97_0
              try clear hcz97_1
              try clear hcz97_2
              try clear hfz102_0
              try clear hfz102_1
              try clear hfz102_2
              try clear hfz105_0
              try clear hfz105_1
              try clear hfz105_2
              try clear hfz13_0
              try clear hfz13_1
              try clear hfz13_2
              try clear hfz15_0
              try clear hfz15_1
              try clear hfz15_2
              try clear hfz21_0
              try clear hfz21_1
              try clear hfz21_2
              try clear hfz23_0
              try clear hfz23_1
              try clear hfz23_2
              try clear hfz28_0
              try clear hfz28_1
              try clear hfz28_2
              try clear hfz35_0
              try clear hfz35_1
              try clear hfz35_2
              try clear hfz43_0
              try clear hfz43_1
              try clear hfz43_2
              try clear hfz46_0
              try clear hfz46_1
              try clear hfz46_2
              try clear hfz51_0
              try clear hfz51_1
              try clear hfz51_2
              try clear hfz54_0
              try clear hfz54_1
              try clear hfz54_2
              try clear hfz59_0
              try clear hfz59_1
              try clear hfz59_2
              try clear hfz5_0
              try clear hfz5_1
              try clear hfz5_2
              try clear hfz62_0
              try clear hfz62_1
              try clear hfz62_2
              try clear hfz77_0
              try clear hfz77_1
              try clear hfz77_2
              try clear hfz86_0
              try clear hfz86_1
              try clear hfz86_2
              try clear hfz89_0
              try clear hfz89_1
              try clear hfz89_2
              try clear hfz94_0
              try clear hfz94_1
              try clear hfz94_2
              try clear hfz97_0
              try clear hfz97_1
              try clear hfz97_2
              try clear p2
              try clear p6
              obtain ⟨kq, x76_68, rfl, HA, HJ68, HO_377002, HO_383002, HO_391002, BK362, BK376, BK382, BK390, HB⟩ := hcut
              have hl383002_68 := (Kd.R_reads' HO_383002.out).1
              rw [hl383002_68] at HO_383002
              (try simp only [hl383002_68])
              (try simp only [hl383002_68] at BK362)
              (try simp only [hl383002_68] at BK376)
              (try simp only [hl383002_68] at BK382)
              (try simp only [hl383002_68] at BK390)
              (try simp only [hl383002_68] at HO_377002)
              (try simp only [hl383002_68] at HO_391002)
              cases kq with
              | zero => exact absurd HA.out (by simp [laws_FnExactSettleRow.j1])
              | succ kj68 =>
                have H := HA.out
                clear HA
                simp only [laws_FnExactSettleRow.j1] at H
                by_cases c107 : x76_68 = true
                · subst c107
                  have H1 : (some false) = some r := by rw [if_pos rfl] at H; exact H
                  clear H
                  have H := H1
                  clear H1
                  obtain rfl := Option.some.inj H
                  go_wp2
                  go_ret
                  exact ⟨by first | rfl | (simp [errW_none, errW_some] <;> rfl) | (simp [*, errW_none, errW_some] <;> rfl), by repeat (first | (with_reducible first | exact HB.out | apply below_alloc | apply pw_below_drewN | apply below_drew1 | refine below_set ?_ GE362.out | refine below_set ?_ GE376.out | refine below_set ?_ GE382.out | refine below_set ?_ GE390.out) | exact HB.out)⟩
                · replace c107 := Bool.eq_false_iff.mpr c107
                  subst c107
                  have H1 : ((laws_markRow.f kj68 t383 t384 t385 1).bind fun bt401 => ((laws_heldRow.f kj68 t383 t384 bt401.2 1).bind fun t403 => (if t403 < 0 then (some false) else (if t403 = bt401.1 then ((laws_toRow.f kj68 a0_0 a0_1 l0_2).bind fun bt404 => ((impl_SettleRow.f kj68 bt404.1 bt404.2.1 bt404.2.2).bind fun bt409 => ((laws_eqRow.f kj68 bt409.1 bt409.2.1 bt409.2.2.1 t369 t370 t371).bind fun t417 => (if t417 = true then (if bt409.2.2.2.1 = t374 then (laws_FnExactSettleRow.j2 kj68 bt401.1 (bt409.2.2.2.2 != t375) t383 t384 bt401.2) else (laws_FnExactSettleRow.j2 kj68 bt401.1 true t383 t384 bt401.2)) else (laws_FnExactSettleRow.j2 kj68 bt401.1 true t383 t384 bt401.2))))) else (some false))))) = some r := by rw [if_neg (show ¬ (false = true) by decide)] at H; exact H
                  clear H
                  have H := H1
                  clear H1
                  replace H := Option.bind_eq_some_iff.mp H
                  obtain ⟨⟨t401, t402⟩, A1080, H⟩ := H
                  replace H : ((laws_heldRow.f kj68 t383 t384 t402 1).bind fun t403 => (if t403 < 0 then (some false) else (if t403 = t401 then ((laws_toRow.f kj68 a0_0 a0_1 l0_2).bind fun bt404 => ((impl_SettleRow.f kj68 bt404.1 bt404.2.1 bt404.2.2).bind fun bt409 => ((laws_eqRow.f kj68 bt409.1 bt409.2.1 bt409.2.2.1 t369 t370 t371).bind fun t417 => (if t417 = true then (if bt409.2.2.2.1 = t374 then (laws_FnExactSettleRow.j2 kj68 t401 (bt409.2.2.2.2 != t375) t383 t384 t402) else (laws_FnExactSettleRow.j2 kj68 t401 true t383 t384 t402)) else (laws_FnExactSettleRow.j2 kj68 t401 true t383 t384 t402))))) else (some false)))) = some r := H
                  have A108 := Aside0.mk A1080
                  clear A1080
                  replace H := Option.bind_eq_some_iff.mp H
                  obtain ⟨t403, A1090, H⟩ := H
                  replace H : (if t403 < 0 then (some false) else (if t403 = t401 then ((laws_toRow.f kj68 a0_0 a0_1 l0_2).bind fun bt404 => ((impl_SettleRow.f kj68 bt404.1 bt404.2.1 bt404.2.2).bind fun bt409 => ((laws_eqRow.f kj68 bt409.1 bt409.2.1 bt409.2.2.1 t369 t370 t371).bind fun t417 => (if t417 = true then (if bt409.2.2.2.1 = t374 then (laws_FnExactSettleRow.j2 kj68 t401 (bt409.2.2.2.2 != t375) t383 t384 t402) else (laws_FnExactSettleRow.j2 kj68 t401 true t383 t384 t402)) else (laws_FnExactSettleRow.j2 kj68 t401 true t383 t384 t402))))) else (some false))) = some r := H
                  have A109 := Aside0.mk A1090
                  clear A1090
                  by_cases c110 : t403 < 0
                  · rw [if_pos c110] at H
                    have c110b0 : decide (t403 < 0) = true := decide_eq_true c110
                    clear c110
                    obtain rfl := Option.some.inj H
                    have hnb111 := NB390_362.out
                    have hnc111 := NB362_390.out
                    have hnb112 := NB390_376.out
                    have hnc112 := NB376_390.out
                    have hnb113 := NB390_382.out
                    have hnc113 := NB382_390.out
                    have hcz114_0 : wc.cell? ⟨gb390, 0, none⟩ = some (.int .i64 t383) := (blk_cell BK390.out 0).trans rfl
                    have hcz114_1 : wc.cell? ⟨gb390, 1, none⟩ = some (.bool t384) := (blk_cell BK390.out 1).trans rfl
                    have hcz114_2 : wc.cell? ⟨gb390, 2, none⟩ = some (.slice Ao36 t385.length co36) := (blk_cell BK390.out 2).trans rfl
                    have hfz114_0 := blk_frozen BK390.out 0
                    have hfz114_1 := blk_frozen BK390.out 1
                    have hfz114_2 := blk_frozen BK390.out 2
                    go_wp2_with (first | ((with_reducible refine gate_callee (f := 13) rfl ?_); refine goesL_ (some 79) rfl rfl Tryd.func13 (by kernel_rfl) rfl #[.agg #[.int .i64 t383, .bool t384, .slice Ao36 t385.length co36], .int .i64 1] rfl (by (try simp only [List.map_toArray, List.map_cons, List.map_nil]); first | done | rfl | (simp only [List.length_drop, List.length_take]; rfl)) ?_; (with_reducible refine (laws_markRow.calls kj68 t383 t384 (fun k_ => some k_ = (.slice Ao36 t385.length co36 : Value).ownBlock) (.slice Ao36 t385.length co36) t385 1 t401 t402 w _ ?side1 ?side2 A108.out).mono ?_); (case side1 => repeat (first | (with_reducible first | exact HB.out | apply below_alloc | apply pw_below_drewN | apply below_drew1 | refine below_set ?_ GE362.out | refine below_set ?_ GE376.out | refine below_set ?_ GE382.out | refine below_set ?_ GE390.out) | exact HB.out)); (case side2 => exact Kd.R_tight rfl HO_391002.out); rintro e w115 ⟨rfl, hy0, hb, hkp⟩; refine ⟨_, rfl, ?_⟩; have n0_ := Aside0.mk (Kd.V_mono (ok' := fun k_ => some k_ ≠ (.slice Ao29 t399.length co29 : Value).ownBlock ∧ some k_ ≠ (.slice Ao36 t385.length co36 : Value).ownBlock ∧ k_ ≠ gb362 ∧ k_ ≠ gb376 ∧ k_ ≠ gb382 ∧ k_ ≠ gb390) (Kd.V_keptB (HO_377002.out) hkp (fun k_ hk_ hs_ => (hk_.2.1) hs_)) (fun k_ hk_ => ⟨hk_.1.1, hk_.1.2.1, hk_.1.2.2.1, hk_.1.2.2.2.1, hk_.1.2.2.2.2.1, hk_.1.2.2.2.2.2⟩)); have n1_ := Aside0.mk (Kd.R_mono (ok' := fun k_ => some k_ ≠ (.slice Ao36 t385.length co36 : Value).ownBlock) (Kd.R_keptB (HO_383002.out) hkp (fun k_ hk_ hs_ => (hk_) hs_)) (fun k_ hk_ => hk_.1)); have n2_ := Aside0.mk (Kd.R_reok rfl hy0 (fun k_ e_ => HO_391002.out.1 k_ e_)); have n3_ := Aside0.mk (blk_kept (by (with_reducible repeat (first | refine blk_drewN ?_ _ | refine blk_drew ?_ | refine blk_alloc ?_ _)); exact BK362.out) hkp (fun hs_ => (fun e_ => (Kd.R_ne HO_391002.out BK362.out (by decide)) e_) hs_)); have n4_ := Aside0.mk (blk_kept (by (with_reducible repeat (first | refine blk_drewN ?_ _ | refine blk_drew ?_ | refine blk_alloc ?_ _)); exact BK376.out) hkp (fun hs_ => (fun e_ => (Kd.R_ne HO_391002.out BK376.out (by decide)) e_) hs_)); have n5_ := Aside0.mk (blk_kept (by (with_reducible repeat (first | refine blk_drewN ?_ _ | refine blk_drew ?_ | refine blk_alloc ?_ _)); exact BK382.out) hkp (fun hs_ => (fun e_ => (Kd.R_ne HO_391002.out BK382.out (by decide)) e_) hs_)); have n6_ := Aside0.mk (blk_kept (by (with_reducible repeat (first | refine blk_drewN ?_ _ | refine blk_drew ?_ | refine blk_alloc ?_ _)); exact BK390.out) hkp (fun hs_ => (fun e_ => (Kd.R_ne HO_391002.out BK390.out (by decide)) e_) hs_)); have n7_ := Aside0.mk (hb); clear HO_377002; clear HO_383002; clear HO_391002; clear BK362; clear BK376; clear BK382; clear BK390; clear HB; have HO_377002 := n0_; have HO_383002 := n1_; have HO_391002 := n2_; have BK362 := n3_; have BK376 := n4_; have BK382 := n5_; have BK390 := n6_; have HB := n7_; clear n0_ n1_ n2_ n3_ n4_ n5_ n6_ n7_; (try clear hb); (try clear hkp); (try clear hy0); have hcz116_0 : w115.cell? ⟨gb390, 0, none⟩ = some (.int .i64 t383) := (blk_cell BK390.out 0).trans rfl; have hcz116_1 : w115.cell? ⟨gb390, 1, none⟩ = some (.bool t384) := (blk_cell BK390.out 1).trans rfl; have hcz116_2 : w115.cell? ⟨gb390, 2, none⟩ = some (.slice Ao36 t385.length co36) := (blk_cell BK390.out 2).trans rfl; have hfz116_0 := blk_frozen BK390.out 0; have hfz116_1 := blk_frozen BK390.out 1; have hfz116_2 := blk_frozen BK390.out 2) | ((with_reducible refine gate_callee (f := 14) rfl ?_); refine goesL_ (some 82) rfl rfl Tryd.func14 (by kernel_rfl) rfl #[.agg #[.int .i64 t383, .bool t384, .slice Ao36 t402.length co36], .int .i64 1] rfl (by (try simp only [List.map_toArray, List.map_cons, List.map_nil]); first | done | (rw [show t402.length = t385.length from (Kd.R_reads' HO_391002.out).1.symm] <;> rfl) | rfl | (simp only [List.length_drop, List.length_take]; rfl)) ?_; (with_reducible refine (laws_heldRow.calls kj68 t383 t384 _ _ t402 1 t403 _ ?side1 ?side2 A109.out).mono ?_); (case side1 => repeat (first | exact (Kd.R_reads' HO_391002.out).2.2 | (with_reducible refine Kd.C_alloc ?_ _) | (with_reducible refine Kd.C_drewN ?_ _) | (with_reducible refine Kd.C_drew ?_))); (case side2 => rw [show t402.length = t385.length from (Kd.R_reads' HO_391002.out).1.symm]; exact (Kd.R_reads' HO_391002.out).2.1); rintro e w117 ⟨rfl, hb⟩; refine ⟨_, rfl, ?_⟩; have n0_ := Aside0.mk (Kd.V_below (by (with_reducible repeat (first | apply Kd.V_alloc | apply Kd.V_drewN | apply Kd.V_drew)); exact HO_377002.out) hb); have n1_ := Aside0.mk (Kd.R_below (by (with_reducible repeat (first | apply Kd.R_alloc | apply Kd.R_drewN | apply Kd.R_drew)); exact HO_383002.out) hb); have n2_ := Aside0.mk (Kd.R_below (by (with_reducible repeat (first | apply Kd.R_alloc | apply Kd.R_drewN | apply Kd.R_drew)); exact HO_391002.out) hb); have n3_ := Aside0.mk (blk_below (g := gb362) (o := .cells #[.int .i64 a0_0, .bool a0_1, .slice A0_2 l0_2.length c0_2] 24 (0, 0)) (by (with_reducible repeat (first | refine blk_drewN ?_ _ | refine blk_drew ?_ | refine blk_alloc ?_ _)); exact BK362.out) hb); have n4_ := Aside0.mk (blk_below (g := gb376) (o := .cells #[.int .i64 t369, .bool t370, .slice Ao22 t371.length co22] 26 (0, 0)) (by (with_reducible repeat (first | refine blk_drewN ?_ _ | refine blk_drew ?_ | refine blk_alloc ?_ _)); exact BK376.out) hb); have n5_ := Aside0.mk (blk_below (g := gb382) (o := .cells #[.int .i64 t377, .bool t378, .slice Ao29 t399.length co29] 26 (0, 0)) (by (with_reducible repeat (first | refine blk_drewN ?_ _ | refine blk_drew ?_ | refine blk_alloc ?_ _)); exact BK382.out) hb); have n6_ := Aside0.mk (blk_below (g := gb390) (o := .cells #[.int .i64 t383, .bool t384, .slice Ao36 t385.length co36] 26 (0, 0)) (by (with_reducible repeat (first | refine blk_drewN ?_ _ | refine blk_drew ?_ | refine blk_alloc ?_ _)); exact BK390.out) hb); have n7_ := Aside0.mk (below_step (by repeat (first | (with_reducible first | exact HB.out | apply below_alloc | apply pw_below_drewN | apply below_drew1 | refine below_set ?_ GE362.out | refine below_set ?_ GE376.out | refine below_set ?_ GE382.out | refine below_set ?_ GE390.out) | exact HB.out)) hb); clear HO_377002; clear HO_383002; clear HO_391002; clear BK362; clear BK376; clear BK382; clear BK390; clear HB; have HO_377002 := n0_; have HO_383002 := n1_; have HO_391002 := n2_; have BK362 := n3_; have BK376 := n4_; have BK382 := n5_; have BK390 := n6_; have HB := n7_; clear n0_ n1_ n2_ n3_ n4_ n5_ n6_ n7_; (try clear hb); (try clear hb2); (try clear hk); (try clear hi)))
                    go_ret
                    exact ⟨by first | rfl | (simp [errW_none, errW_some] <;> rfl) | (simp [*, errW_none, errW_some] <;> rfl), by repeat (first | (with_reducible first | exact HB.out | apply below_alloc | apply pw_below_drewN | apply below_drew1 | refine below_set ?_ GE362.out | refine below_set ?_ GE376.out | refine below_set ?_ GE382.out | refine below_set ?_ GE390.out) | exact HB.out)⟩
                  · rw [if_neg c110] at H
                    have c110b0 : decide (t403 < 0) = false := decide_eq_false c110
                    clear c110
                    by_cases c118 : t403 = t401
                    · rw [if_pos c118] at H
                      have c118b0 : (t403 == t401) = true := beq_iff_eq.mpr c118
                      have c118b1 : (t403 != t401) = false := bne_eq_false_iff_eq.mpr c118
                      clear c118
                      replace H := Option.bind_eq_some_iff.mp H
                      obtain ⟨⟨t404, t405, t406⟩, A1190, H⟩ := H
                      replace H : ((impl_SettleRow.f kj68 t404 t405 t406).bind fun bt409 => ((laws_eqRow.f kj68 bt409.1 bt409.2.1 bt409.2.2.1 t369 t370 t371).bind fun t417 => (if t417 = true then (if bt409.2.2.2.1 = t374 then (laws_FnExactSettleRow.j2 kj68 t401 (bt409.2.2.2.2 != t375) t383 t384 t402) else (laws_FnExactSettleRow.j2 kj68 t401 true t383 t384 t402)) else (laws_FnExactSettleRow.j2 kj68 t401 true t383 t384 t402)))) = some r := H
                      have A119 := Aside0.mk A1190
                      clear A1190
                      replace H := Option.bind_eq_some_iff.mp H
                      obtain ⟨⟨t409, t410, t411, t414, t415⟩, A1200, H⟩ := H
                      replace H : ((laws_eqRow.f kj68 t409 t410 t411 t369 t370 t371).bind fun t417 => (if t417 = true then (if t414 = t374 then (laws_FnExactSettleRow.j2 kj68 t401 (t415 != t375) t383 t384 t402) else (laws_FnExactSettleRow.j2 kj68 t401 true t383 t384 t402)) else (laws_FnExactSettleRow.j2 kj68 t401 true t383 t384 t402))) = some r := H
                      have A120 := Aside0.mk A1200
                      clear A1200
                      have HC121 := Aside0.mk H
                      clear H
                      have hnb122 := NB390_362.out
                      have hnc122 := NB362_390.out
                      have hnb123 := NB390_376.out
                      have hnc123 := NB376_390.out
                      have hnb124 := NB390_382.out
                      have hnc124 := NB382_390.out
                      have hcz125_0 : wc.cell? ⟨gb390, 0, none⟩ = some (.int .i64 t383) := (blk_cell BK390.out 0).trans rfl
                      have hcz125_1 : wc.cell? ⟨gb390, 1, none⟩ = some (.bool t384) := (blk_cell BK390.out 1).trans rfl
                      have hcz125_2 : wc.cell? ⟨gb390, 2, none⟩ = some (.slice Ao36 t385.length co36) := (blk_cell BK390.out 2).trans rfl
                      have hfz125_0 := blk_frozen BK390.out 0
                      have hfz125_1 := blk_frozen BK390.out 1
                      have hfz125_2 := blk_frozen BK390.out 2
                      go_upto_region 25 with (first | ((with_reducible refine gate_callee (f := 13) rfl ?_); refine goesL_ (some 79) rfl rfl Tryd.func13 (by kernel_rfl) rfl #[.agg #[.int .i64 t383, .bool t384, .slice Ao36 t385.length co36], .int .i64 1] rfl (by (try simp only [List.map_toArray, List.map_cons, List.map_nil]); first | done | rfl | (simp only [List.length_drop, List.length_take]; rfl)) ?_; (with_reducible refine (laws_markRow.calls kj68 t383 t384 (fun k_ => some k_ = (.slice Ao36 t385.length co36 : Value).ownBlock) (.slice Ao36 t385.length co36) t385 1 t401 t402 w _ ?side1 ?side2 A108.out).mono ?_); (case side1 => repeat (first | (with_reducible first | exact HB.out | apply below_alloc | apply pw_below_drewN | apply below_drew1 | refine below_set ?_ GE362.out | refine below_set ?_ GE376.out | refine below_set ?_ GE382.out | refine below_set ?_ GE390.out) | exact HB.out)); (case side2 => exact Kd.R_tight rfl HO_391002.out); rintro e w126 ⟨rfl, hy0, hb, hkp⟩; refine ⟨_, rfl, ?_⟩; have n0_ := Aside0.mk (Kd.V_mono (ok' := fun k_ => some k_ ≠ (.slice Ao29 t399.length co29 : Value).ownBlock ∧ some k_ ≠ (.slice Ao36 t385.length co36 : Value).ownBlock ∧ k_ ≠ gb362 ∧ k_ ≠ gb376 ∧ k_ ≠ gb382 ∧ k_ ≠ gb390) (Kd.V_keptB (HO_377002.out) hkp (fun k_ hk_ hs_ => (hk_.2.1) hs_)) (fun k_ hk_ => ⟨hk_.1.1, hk_.1.2.1, hk_.1.2.2.1, hk_.1.2.2.2.1, hk_.1.2.2.2.2.1, hk_.1.2.2.2.2.2⟩)); have n1_ := Aside0.mk (Kd.R_mono (ok' := fun k_ => some k_ ≠ (.slice Ao36 t385.length co36 : Value).ownBlock) (Kd.R_keptB (HO_383002.out) hkp (fun k_ hk_ hs_ => (hk_) hs_)) (fun k_ hk_ => hk_.1)); have n2_ := Aside0.mk (Kd.R_reok rfl hy0 (fun k_ e_ => HO_391002.out.1 k_ e_)); have n3_ := Aside0.mk (blk_kept (by (with_reducible repeat (first | refine blk_drewN ?_ _ | refine blk_drew ?_ | refine blk_alloc ?_ _)); exact BK362.out) hkp (fun hs_ => (fun e_ => (Kd.R_ne HO_391002.out BK362.out (by decide)) e_) hs_)); have n4_ := Aside0.mk (blk_kept (by (with_reducible repeat (first | refine blk_drewN ?_ _ | refine blk_drew ?_ | refine blk_alloc ?_ _)); exact BK376.out) hkp (fun hs_ => (fun e_ => (Kd.R_ne HO_391002.out BK376.out (by decide)) e_) hs_)); have n5_ := Aside0.mk (blk_kept (by (with_reducible repeat (first | refine blk_drewN ?_ _ | refine blk_drew ?_ | refine blk_alloc ?_ _)); exact BK382.out) hkp (fun hs_ => (fun e_ => (Kd.R_ne HO_391002.out BK382.out (by decide)) e_) hs_)); have n6_ := Aside0.mk (blk_kept (by (with_reducible repeat (first | refine blk_drewN ?_ _ | refine blk_drew ?_ | refine blk_alloc ?_ _)); exact BK390.out) hkp (fun hs_ => (fun e_ => (Kd.R_ne HO_391002.out BK390.out (by decide)) e_) hs_)); have n7_ := Aside0.mk (hb); clear HO_377002; clear HO_383002; clear HO_391002; clear BK362; clear BK376; clear BK382; clear BK390; clear HB; have HO_377002 := n0_; have HO_383002 := n1_; have HO_391002 := n2_; have BK362 := n3_; have BK376 := n4_; have BK382 := n5_; have BK390 := n6_; have HB := n7_; clear n0_ n1_ n2_ n3_ n4_ n5_ n6_ n7_; (try clear hb); (try clear hkp); (try clear hy0); have hcz127_0 : w126.cell? ⟨gb390, 0, none⟩ = some (.int .i64 t383) := (blk_cell BK390.out 0).trans rfl; have hcz127_1 : w126.cell? ⟨gb390, 1, none⟩ = some (.bool t384) := (blk_cell BK390.out 1).trans rfl; have hcz127_2 : w126.cell? ⟨gb390, 2, none⟩ = some (.slice Ao36 t385.length co36) := (blk_cell BK390.out 2).trans rfl; have hfz127_0 := blk_frozen BK390.out 0; have hfz127_1 := blk_frozen BK390.out 1; have hfz127_2 := blk_frozen BK390.out 2) | ((with_reducible refine gate_callee (f := 14) rfl ?_); refine goesL_ (some 82) rfl rfl Tryd.func14 (by kernel_rfl) rfl #[.agg #[.int .i64 t383, .bool t384, .slice Ao36 t402.length co36], .int .i64 1] rfl (by (try simp only [List.map_toArray, List.map_cons, List.map_nil]); first | done | (rw [show t402.length = t385.length from (Kd.R_reads' HO_391002.out).1.symm] <;> rfl) | rfl | (simp only [List.length_drop, List.length_take]; rfl)) ?_; (with_reducible refine (laws_heldRow.calls kj68 t383 t384 _ _ t402 1 t403 _ ?side1 ?side2 A109.out).mono ?_); (case side1 => repeat (first | exact (Kd.R_reads' HO_391002.out).2.2 | (with_reducible refine Kd.C_alloc ?_ _) | (with_reducible refine Kd.C_drewN ?_ _) | (with_reducible refine Kd.C_drew ?_))); (case side2 => rw [show t402.length = t385.length from (Kd.R_reads' HO_391002.out).1.symm]; exact (Kd.R_reads' HO_391002.out).2.1); rintro e w128 ⟨rfl, hb⟩; refine ⟨_, rfl, ?_⟩; have n0_ := Aside0.mk (Kd.V_below (by (with_reducible repeat (first | apply Kd.V_alloc | apply Kd.V_drewN | apply Kd.V_drew)); exact HO_377002.out) hb); have n1_ := Aside0.mk (Kd.R_below (by (with_reducible repeat (first | apply Kd.R_alloc | apply Kd.R_drewN | apply Kd.R_drew)); exact HO_383002.out) hb); have n2_ := Aside0.mk (Kd.R_below (by (with_reducible repeat (first | apply Kd.R_alloc | apply Kd.R_drewN | apply Kd.R_drew)); exact HO_391002.out) hb); have n3_ := Aside0.mk (blk_below (g := gb362) (o := .cells #[.int .i64 a0_0, .bool a0_1, .slice A0_2 l0_2.length c0_2] 24 (0, 0)) (by (with_reducible repeat (first | refine blk_drewN ?_ _ | refine blk_drew ?_ | refine blk_alloc ?_ _)); exact BK362.out) hb); have n4_ := Aside0.mk (blk_below (g := gb376) (o := .cells #[.int .i64 t369, .bool t370, .slice Ao22 t371.length co22] 26 (0, 0)) (by (with_reducible repeat (first | refine blk_drewN ?_ _ | refine blk_drew ?_ | refine blk_alloc ?_ _)); exact BK376.out) hb); have n5_ := Aside0.mk (blk_below (g := gb382) (o := .cells #[.int .i64 t377, .bool t378, .slice Ao29 t399.length co29] 26 (0, 0)) (by (with_reducible repeat (first | refine blk_drewN ?_ _ | refine blk_drew ?_ | refine blk_alloc ?_ _)); exact BK382.out) hb); have n6_ := Aside0.mk (blk_below (g := gb390) (o := .cells #[.int .i64 t383, .bool t384, .slice Ao36 t385.length co36] 26 (0, 0)) (by (with_reducible repeat (first | refine blk_drewN ?_ _ | refine blk_drew ?_ | refine blk_alloc ?_ _)); exact BK390.out) hb); have n7_ := Aside0.mk (below_step (by repeat (first | (with_reducible first | exact HB.out | apply below_alloc | apply pw_below_drewN | apply below_drew1 | refine below_set ?_ GE362.out | refine below_set ?_ GE376.out | refine below_set ?_ GE382.out | refine below_set ?_ GE390.out) | exact HB.out)) hb); clear HO_377002; clear HO_383002; clear HO_391002; clear BK362; clear BK376; clear BK382; clear BK390; clear HB; have HO_377002 := n0_; have HO_383002 := n1_; have HO_391002 := n2_; have BK362 := n3_; have BK376 := n4_; have BK382 := n5_; have BK390 := n6_; have HB := n7_; clear n0_ n1_ n2_ n3_ n4_ n5_ n6_ n7_; (try clear hb); (try clear hb2); (try clear hk); (try clear hi); have hnb129 := NB362_376.out; have hnc129 := NB376_362.out; have hnb130 := NB362_382.out; have hnc130 := NB382_362.out; have hcz131_0 : w128.cell? ⟨gb362, 0, none⟩ = some (.int .i64 a0_0) := (blk_cell BK362.out 0).trans rfl; have hcz131_1 : w128.cell? ⟨gb362, 1, none⟩ = some (.bool a0_1) := (blk_cell BK362.out 1).trans rfl; have hcz131_2 : w128.cell? ⟨gb362, 2, none⟩ = some (.slice A0_2 l0_2.length c0_2) := (blk_cell BK362.out 2).trans rfl; have hfz131_0 := blk_frozen BK362.out 0; have hfz131_1 := blk_frozen BK362.out 1; have hfz131_2 := blk_frozen BK362.out 2) | ((with_reducible refine gate_callee (f := 10) rfl ?_); refine goesL_ (some 90) rfl rfl Tryd.func10 (by kernel_rfl) rfl #[.agg #[.int .i64 a0_0, .bool a0_1, .slice A0_2 l0_2.length c0_2]] rfl (by (try simp only [List.map_toArray, List.map_cons, List.map_nil]); first | done | rfl | (simp only [List.length_drop, List.length_take]; rfl)) ?_; (with_reducible refine (laws_toRow.calls kj68 a0_0 a0_1 _ _ l0_2 t404 t405 t406 _ ?side1 ?side2 A119.out).mono ?_); (case side1 => repeat (first | exact (Kd.C_below HR0_2.out HB.out) | (with_reducible refine Kd.C_alloc ?_ _) | (with_reducible refine Kd.C_drewN ?_ _) | (with_reducible refine Kd.C_drew ?_))); (case side2 => exact HC0_2.out); rintro e w132 ⟨v407, rfl, ho0, hb⟩; refine ⟨_, rfl, ?_⟩; have n0_ := Aside0.mk (Kd.V_elder' (by (with_reducible repeat (first | apply Kd.V_alloc | apply Kd.V_drewN | apply Kd.V_drew)); exact HO_377002.out) (Kd.R_base ho0) hb); have n1_ := Aside0.mk (Kd.R_elder' (by (with_reducible repeat (first | apply Kd.R_alloc | apply Kd.R_drewN | apply Kd.R_drew)); exact HO_383002.out) (Kd.R_base ho0) hb); have n2_ := Aside0.mk (Kd.R_elder' (by (with_reducible repeat (first | apply Kd.R_alloc | apply Kd.R_drewN | apply Kd.R_drew)); exact HO_391002.out) (Kd.R_base ho0) hb); have n3_ := Aside0.mk (Kd.R_lower (Kd.R_new' (Kd.R_new' ho0 (Kd.R_lt (by (with_reducible repeat (first | apply Kd.R_alloc | apply Kd.R_drewN | apply Kd.R_drew)); exact HO_383002.out))) (Kd.R_lt (by (with_reducible repeat (first | apply Kd.R_alloc | apply Kd.R_drewN | apply Kd.R_drew)); exact HO_391002.out))) (below_size (by repeat (first | (with_reducible first | exact HB.out | apply below_alloc | apply pw_below_drewN | apply below_drew1 | refine below_set ?_ GE362.out | refine below_set ?_ GE376.out | refine below_set ?_ GE382.out | refine below_set ?_ GE390.out) | exact HB.out)))); have n4_ := Aside0.mk (blk_below (g := gb362) (o := .cells #[.int .i64 a0_0, .bool a0_1, .slice A0_2 l0_2.length c0_2] 24 (0, 0)) (by (with_reducible repeat (first | refine blk_drewN ?_ _ | refine blk_drew ?_ | refine blk_alloc ?_ _)); exact BK362.out) hb); have n5_ := Aside0.mk (blk_below (g := gb376) (o := .cells #[.int .i64 t369, .bool t370, .slice Ao22 t371.length co22] 26 (0, 0)) (by (with_reducible repeat (first | refine blk_drewN ?_ _ | refine blk_drew ?_ | refine blk_alloc ?_ _)); exact BK376.out) hb); have n6_ := Aside0.mk (blk_below (g := gb382) (o := .cells #[.int .i64 t377, .bool t378, .slice Ao29 t399.length co29] 26 (0, 0)) (by (with_reducible repeat (first | refine blk_drewN ?_ _ | refine blk_drew ?_ | refine blk_alloc ?_ _)); exact BK382.out) hb); have n7_ := Aside0.mk (blk_below (g := gb390) (o := .cells #[.int .i64 t383, .bool t384, .slice Ao36 t385.length co36] 26 (0, 0)) (by (with_reducible repeat (first | refine blk_drewN ?_ _ | refine blk_drew ?_ | refine blk_alloc ?_ _)); exact BK390.out) hb); have n8_ := Aside0.mk (below_step (by repeat (first | (with_reducible first | exact HB.out | apply below_alloc | apply pw_below_drewN | apply below_drew1 | refine below_set ?_ GE362.out | refine below_set ?_ GE376.out | refine below_set ?_ GE382.out | refine below_set ?_ GE390.out) | exact HB.out)) hb); clear HO_377002; clear HO_383002; clear HO_391002; clear BK362; clear BK376; clear BK382; clear BK390; clear HB; have HO_377002 := n0_; have HO_383002 := n1_; have HO_391002 := n2_; have HO408 := n3_; have BK362 := n4_; have BK376 := n5_; have BK382 := n6_; have BK390 := n7_; have HB := n8_; clear n0_ n1_ n2_ n3_ n4_ n5_ n6_ n7_ n8_; (try clear hb); (try clear hb2); (try clear hk); (try clear hi); (try clear ho0); obtain ⟨Ao133, co133, eo133⟩ := Kd.R_slice HO408.out; subst eo133) | ((with_reducible refine gate_callee (f := 11) rfl ?_); refine goesL_ (some 91) rfl rfl Tryd.func11 (by kernel_rfl) rfl #[.agg #[.int .i64 t404, .bool t405, .slice Ao133 t406.length co133]] rfl (by (try simp only [List.map_toArray, List.map_cons, List.map_nil]); first | done | rfl | (simp only [List.length_drop, List.length_take]; rfl)) ?_; (with_reducible refine (impl_SettleRow.calls kj68 t404 t405 _ _ t406 t409 t410 t411 t414 t415 _ ?side1 ?side2 ?side3 A120.out).mono ?_); (case side1 => repeat (first | exact (Kd.R_reads' HO408.out).2.2 | (with_reducible refine Kd.C_alloc ?_ _) | (with_reducible refine Kd.C_drewN ?_ _) | (with_reducible refine Kd.C_drew ?_))); (case side2 => exact (Kd.R_reads' HO408.out).2.1); (case side3 => first | exact HT.out | exact XTab.below HT.out (by repeat (first | (with_reducible first | exact HB.out | apply below_alloc | apply pw_below_drewN | apply below_drew1 | refine below_set ?_ GE362.out | refine below_set ?_ GE376.out | refine below_set ?_ GE382.out | refine below_set ?_ GE390.out) | exact HB.out)) | (repeat (first | exact HT.out | apply XTab.drewN | apply XTab.drew | apply XTab.alloc))); rintro e w134 ⟨v412, rfl, ho0, hb⟩; refine ⟨_, rfl, ?_⟩; have n0_ := Aside0.mk (Kd.V_elder' (by (with_reducible repeat (first | apply Kd.V_alloc | apply Kd.V_drewN | apply Kd.V_drew)); exact HO_377002.out) (Kd.R_base ho0) hb); have n1_ := Aside0.mk (Kd.R_elder' (by (with_reducible repeat (first | apply Kd.R_alloc | apply Kd.R_drewN | apply Kd.R_drew)); exact HO_383002.out) (Kd.R_base ho0) hb); have n2_ := Aside0.mk (Kd.R_elder' (by (with_reducible repeat (first | apply Kd.R_alloc | apply Kd.R_drewN | apply Kd.R_drew)); exact HO_391002.out) (Kd.R_base ho0) hb); have n3_ := Aside0.mk (Kd.R_elder' (by (with_reducible repeat (first | apply Kd.R_alloc | apply Kd.R_drewN | apply Kd.R_drew)); exact HO408.out) (Kd.R_base ho0) hb); have n4_ := Aside0.mk (Kd.R_lower (Kd.R_new' (Kd.R_new' (Kd.R_new' ho0 (Kd.R_lt (by (with_reducible repeat (first | apply Kd.R_alloc | apply Kd.R_drewN | apply Kd.R_drew)); exact HO_383002.out))) (Kd.R_lt (by (with_reducible repeat (first | apply Kd.R_alloc | apply Kd.R_drewN | apply Kd.R_drew)); exact HO_391002.out))) (Kd.R_lt (by (with_reducible repeat (first | apply Kd.R_alloc | apply Kd.R_drewN | apply Kd.R_drew)); exact HO408.out))) (below_size (by repeat (first | (with_reducible first | exact HB.out | apply below_alloc | apply pw_below_drewN | apply below_drew1 | refine below_set ?_ GE362.out | refine below_set ?_ GE376.out | refine below_set ?_ GE382.out | refine below_set ?_ GE390.out) | exact HB.out)))); have n5_ := Aside0.mk (blk_below (g := gb362) (o := .cells #[.int .i64 a0_0, .bool a0_1, .slice A0_2 l0_2.length c0_2] 24 (0, 0)) (by (with_reducible repeat (first | refine blk_drewN ?_ _ | refine blk_drew ?_ | refine blk_alloc ?_ _)); exact BK362.out) hb); have n6_ := Aside0.mk (blk_below (g := gb376) (o := .cells #[.int .i64 t369, .bool t370, .slice Ao22 t371.length co22] 26 (0, 0)) (by (with_reducible repeat (first | refine blk_drewN ?_ _ | refine blk_drew ?_ | refine blk_alloc ?_ _)); exact BK376.out) hb); have n7_ := Aside0.mk (blk_below (g := gb382) (o := .cells #[.int .i64 t377, .bool t378, .slice Ao29 t399.length co29] 26 (0, 0)) (by (with_reducible repeat (first | refine blk_drewN ?_ _ | refine blk_drew ?_ | refine blk_alloc ?_ _)); exact BK382.out) hb); have n8_ := Aside0.mk (blk_below (g := gb390) (o := .cells #[.int .i64 t383, .bool t384, .slice Ao36 t385.length co36] 26 (0, 0)) (by (with_reducible repeat (first | refine blk_drewN ?_ _ | refine blk_drew ?_ | refine blk_alloc ?_ _)); exact BK390.out) hb); have n9_ := Aside0.mk (below_step (by repeat (first | (with_reducible first | exact HB.out | apply below_alloc | apply pw_below_drewN | apply below_drew1 | refine below_set ?_ GE362.out | refine below_set ?_ GE376.out | refine below_set ?_ GE382.out | refine below_set ?_ GE390.out) | exact HB.out)) hb); clear HO_377002; clear HO_383002; clear HO_391002; clear HO408; clear BK362; clear BK376; clear BK382; clear BK390; clear HB; have HO_377002 := n0_; have HO_383002 := n1_; have HO_391002 := n2_; have HO408 := n3_; have HO413 := n4_; have BK362 := n5_; have BK376 := n6_; have BK382 := n7_; have BK390 := n8_; have HB := n9_; clear n0_ n1_ n2_ n3_ n4_ n5_ n6_ n7_ n8_ n9_; (try clear hb); (try clear hb2); (try clear hk); (try clear hi); (try clear ho0)) | ((with_reducible refine gate_dst (N := 14) rfl ?_); refine box_event ?hg (N := 14) ?hd (cs := #[.int .i64 0, .bool false, .slice none 0 0]) (t := 26) ?hr ?_; (case hd => rfl); (case hg => rfl); (case hr => first | (go_simp; done) | (go_simp; rfl)); intro gb416 hg w135 hbox hb; have n0_ := Aside0.mk (Kd.V_below (Kd.V_elderB (by (with_reducible repeat (first | apply Kd.V_alloc | apply Kd.V_drewN | apply Kd.V_drew)); exact HO_377002.out) gb416 (Nat.le_of_eq hg.symm)) hb); have n1_ := Aside0.mk (Kd.R_below (by (with_reducible repeat (first | apply Kd.R_alloc | apply Kd.R_drewN | apply Kd.R_drew)); exact HO_383002.out) hb); have n2_ := Aside0.mk (Kd.R_below (by (with_reducible repeat (first | apply Kd.R_alloc | apply Kd.R_drewN | apply Kd.R_drew)); exact HO_391002.out) hb); have n3_ := Aside0.mk (Kd.R_below (by (with_reducible repeat (first | apply Kd.R_alloc | apply Kd.R_drewN | apply Kd.R_drew)); exact HO408.out) hb); have n4_ := Aside0.mk (Kd.R_below (by (with_reducible repeat (first | apply Kd.R_alloc | apply Kd.R_drewN | apply Kd.R_drew)); exact HO413.out) hb); have n5_ := Aside0.mk (blk_below (g := gb362) (o := .cells #[.int .i64 a0_0, .bool a0_1, .slice A0_2 l0_2.length c0_2] 24 (0, 0)) (by (with_reducible repeat (first | refine blk_drewN ?_ _ | refine blk_drew ?_ | refine blk_alloc ?_ _)); exact BK362.out) hb); have n6_ := Aside0.mk (blk_below (g := gb376) (o := .cells #[.int .i64 t369, .bool t370, .slice Ao22 t371.length co22] 26 (0, 0)) (by (with_reducible repeat (first | refine blk_drewN ?_ _ | refine blk_drew ?_ | refine blk_alloc ?_ _)); exact BK376.out) hb); have n7_ := Aside0.mk (blk_below (g := gb382) (o := .cells #[.int .i64 t377, .bool t378, .slice Ao29 t399.length co29] 26 (0, 0)) (by (with_reducible repeat (first | refine blk_drewN ?_ _ | refine blk_drew ?_ | refine blk_alloc ?_ _)); exact BK382.out) hb); have n8_ := Aside0.mk (blk_below (g := gb390) (o := .cells #[.int .i64 t383, .bool t384, .slice Ao36 t385.length co36] 26 (0, 0)) (by (with_reducible repeat (first | refine blk_drewN ?_ _ | refine blk_drew ?_ | refine blk_alloc ?_ _)); exact BK390.out) hb); have n9_ := Aside0.mk (below_step (by repeat (first | (with_reducible first | exact HB.out | apply below_alloc | apply pw_below_drewN | apply below_drew1 | refine below_set ?_ GE362.out | refine below_set ?_ GE376.out | refine below_set ?_ GE382.out | refine below_set ?_ GE390.out) | exact HB.out)) hb); have n10_ := Aside0.mk (hbox); have n11_ := Aside0.mk ((by rw [hg]; exact (below_size (by repeat (first | (with_reducible first | exact HB.out | apply below_alloc | apply pw_below_drewN | apply below_drew1 | refine below_set ?_ GE362.out | refine below_set ?_ GE376.out | refine below_set ?_ GE382.out | refine below_set ?_ GE390.out) | exact HB.out))) : w.heap.size ≤ gb416)); have n12_ := Aside0.mk ((by rw [hg]; exact (below_size (by repeat (first | (with_reducible first | exact HB.out | apply below_alloc | apply pw_below_drewN | apply below_drew1 | refine below_set ?_ GE362.out | refine below_set ?_ GE376.out | refine below_set ?_ GE382.out | refine below_set ?_ GE390.out) | exact HB.out))) : w.heap.size ≤ gb416)); have n13_ := Aside0.mk ((by rw [hg]; exact Nat.ne_of_lt (blk_lt (g := gb362) (o := .cells #[.int .i64 a0_0, .bool a0_1, .slice A0_2 l0_2.length c0_2] 24 (0, 0)) (by (with_reducible repeat (first | refine blk_drewN ?_ _ | refine blk_drew ?_ | refine blk_alloc ?_ _)); exact BK362.out)) : gb362 ≠ gb416)); have n14_ := Aside0.mk ((by rw [hg]; exact Nat.ne_of_gt (blk_lt (g := gb362) (o := .cells #[.int .i64 a0_0, .bool a0_1, .slice A0_2 l0_2.length c0_2] 24 (0, 0)) (by (with_reducible repeat (first | refine blk_drewN ?_ _ | refine blk_drew ?_ | refine blk_alloc ?_ _)); exact BK362.out)) : gb416 ≠ gb362)); have n15_ := Aside0.mk ((by rw [hg]; exact Nat.ne_of_lt (blk_lt (g := gb376) (o := .cells #[.int .i64 t369, .bool t370, .slice Ao22 t371.length co22] 26 (0, 0)) (by (with_reducible repeat (first | refine blk_drewN ?_ _ | refine blk_drew ?_ | refine blk_alloc ?_ _)); exact BK376.out)) : gb376 ≠ gb416)); have n16_ := Aside0.mk ((by rw [hg]; exact Nat.ne_of_gt (blk_lt (g := gb376) (o := .cells #[.int .i64 t369, .bool t370, .slice Ao22 t371.length co22] 26 (0, 0)) (by (with_reducible repeat (first | refine blk_drewN ?_ _ | refine blk_drew ?_ | refine blk_alloc ?_ _)); exact BK376.out)) : gb416 ≠ gb376)); have n17_ := Aside0.mk ((by rw [hg]; exact Nat.ne_of_lt (blk_lt (g := gb382) (o := .cells #[.int .i64 t377, .bool t378, .slice Ao29 t399.length co29] 26 (0, 0)) (by (with_reducible repeat (first | refine blk_drewN ?_ _ | refine blk_drew ?_ | refine blk_alloc ?_ _)); exact BK382.out)) : gb382 ≠ gb416)); have n18_ := Aside0.mk ((by rw [hg]; exact Nat.ne_of_gt (blk_lt (g := gb382) (o := .cells #[.int .i64 t377, .bool t378, .slice Ao29 t399.length co29] 26 (0, 0)) (by (with_reducible repeat (first | refine blk_drewN ?_ _ | refine blk_drew ?_ | refine blk_alloc ?_ _)); exact BK382.out)) : gb416 ≠ gb382)); have n19_ := Aside0.mk ((by rw [hg]; exact Nat.ne_of_lt (blk_lt (g := gb390) (o := .cells #[.int .i64 t383, .bool t384, .slice Ao36 t385.length co36] 26 (0, 0)) (by (with_reducible repeat (first | refine blk_drewN ?_ _ | refine blk_drew ?_ | refine blk_alloc ?_ _)); exact BK390.out)) : gb390 ≠ gb416)); have n20_ := Aside0.mk ((by rw [hg]; exact Nat.ne_of_gt (blk_lt (g := gb390) (o := .cells #[.int .i64 t383, .bool t384, .slice Ao36 t385.length co36] 26 (0, 0)) (by (with_reducible repeat (first | refine blk_drewN ?_ _ | refine blk_drew ?_ | refine blk_alloc ?_ _)); exact BK390.out)) : gb416 ≠ gb390)); clear HO_377002; clear HO_383002; clear HO_391002; clear HO408; clear HO413; clear BK362; clear BK376; clear BK382; clear BK390; clear HB; have HO_377002 := n0_; have HO_383002 := n1_; have HO_391002 := n2_; have HO408 := n3_; have HO413 := n4_; have BK362 := n5_; have BK376 := n6_; have BK382 := n7_; have BK390 := n8_; have HB := n9_; have BK416 := n10_; have GW416 := n11_; have GE416 := n12_; have NB362_416 := n13_; have NB416_362 := n14_; have NB376_416 := n15_; have NB416_376 := n16_; have NB382_416 := n17_; have NB416_382 := n18_; have NB390_416 := n19_; have NB416_390 := n20_; clear n0_ n1_ n2_ n3_ n4_ n5_ n6_ n7_ n8_ n9_ n10_ n11_ n12_ n13_ n14_ n15_ n16_ n17_ n18_ n19_ n20_; clear hb hbox hg; have hnb136 := NB416_362.out; have hnc136 := NB362_416.out; have hnb137 := NB416_376.out; have hnc137 := NB376_416.out; have hnb138 := NB416_382.out; have hnc138 := NB382_416.out; have hnb139 := NB416_390.out; have hnc139 := NB390_416.out; have hcz140_0 : w135.cell? ⟨gb416, 0, none⟩ = some (.int .i64 0) := (blk_cell BK416.out 0).trans rfl; have hcz140_1 : w135.cell? ⟨gb416, 1, none⟩ = some (.bool false) := (blk_cell BK416.out 1).trans rfl; have hcz140_2 : w135.cell? ⟨gb416, 2, none⟩ = some (.slice none 0 0) := (blk_cell BK416.out 2).trans rfl; have hfz140_0 := blk_frozen BK416.out 0; have hfz140_1 := blk_frozen BK416.out 1; have hfz140_2 := blk_frozen BK416.out 2; obtain ⟨Ao141, co141, eo141⟩ := Kd.R_slice HO413.out; subst eo141))
                      (try simp only [Act.put, List.setIfInBounds_toArray, List.set_cons_zero, List.set_cons_succ])
                      go_cut [108] (fun v108 wc => ∃ (kq : Nat) (x108_120 : Bool), v108 = .bool x108_120 ∧ Aside0 (laws_FnExactSettleRow.j2 kq t401 x108_120 t383 t384 t402 = some r) ∧ Aside0 (kq ≤ kj68) ∧ Aside0 (Kd.V (Kd.int .i64) 3 wc w.heap.size (fun k_ => some k_ ≠ ((.slice Ao29 t399.length co29) : Value).ownBlock ∧ some k_ ≠ ((.slice Ao36 t385.length co36) : Value).ownBlock ∧ some k_ ≠ ((.slice Ao141 t411.length co141) : Value).ownBlock ∧ k_ ≠ gb362 ∧ k_ ≠ gb376 ∧ k_ ≠ gb382 ∧ k_ ≠ gb390 ∧ k_ ≠ gb416) (.slice Ao22 t371.length co22) t371) ∧ Aside0 (Kd.R (Kd.int .i64) 3 wc w.heap.size (fun k_ => some k_ ≠ ((.slice Ao36 t385.length co36) : Value).ownBlock ∧ some k_ ≠ ((.slice Ao141 t411.length co141) : Value).ownBlock) (.slice Ao29 t399.length co29) t399) ∧ Aside0 (Kd.R (Kd.int .i64) 3 wc w.heap.size (fun k_ => some k_ ≠ ((.slice Ao29 t399.length co29) : Value).ownBlock ∧ some k_ ≠ ((.slice Ao141 t411.length co141) : Value).ownBlock) (.slice Ao36 t385.length co36) t402) ∧ Aside0 (Kd.R (Kd.int .i64) 3 wc w.heap.size (fun k_ => some k_ ≠ ((.slice Ao29 t399.length co29) : Value).ownBlock ∧ some k_ ≠ ((.slice Ao36 t385.length co36) : Value).ownBlock) (.slice Ao141 t411.length co141) t411) ∧ Aside0 (wc.heap[gb362]? = some (.cells #[.int .i64 a0_0, .bool a0_1, (.slice A0_2 l0_2.length c0_2)] 24 (0, 0))) ∧ Aside0 (wc.heap[gb376]? = some (.cells #[.int .i64 t369, .bool t370, (.slice Ao22 t371.length co22)] 26 (0, 0))) ∧ Aside0 (wc.heap[gb382]? = some (.cells #[.int .i64 t377, .bool t378, (.slice Ao29 t399.length co29)] 26 (0, 0))) ∧ Aside0 (wc.heap[gb390]? = some (.cells #[.int .i64 t383, .bool t384, (.slice Ao36 t385.length co36)] 26 (0, 0))) ∧ Aside0 (wc.heap[gb416]? = some (.cells #[.int .i64 t409, .bool t410, (.slice Ao141 t411.length co141)] 26 (0, 0))) ∧ Aside0 (Below w.heap.size w wc))
                      case first =>
                        have H := HC121.out
                        clear HC121
                        replace H := Option.bind_eq_some_iff.mp H
                        obtain ⟨t417, A1420, H⟩ := H
                        replace H : (if t417 = true then (if t414 = t374 then (laws_FnExactSettleRow.j2 kj68 t401 (t415 != t375) t383 t384 t402) else (laws_FnExactSettleRow.j2 kj68 t401 true t383 t384 t402)) else (laws_FnExactSettleRow.j2 kj68 t401 true t383 t384 t402)) = some r := H
                        have A142 := Aside0.mk A1420
                        clear A1420
                        by_cases c143 : t417 = true
                        · subst c143
                          have H1 : (if t414 = t374 then (laws_FnExactSettleRow.j2 kj68 t401 (t415 != t375) t383 t384 t402) else (laws_FnExactSettleRow.j2 kj68 t401 true t383 t384 t402)) = some r := by rw [if_pos rfl] at H; exact H
                          clear H
                          have H := H1
                          clear H1
                          by_cases c144 : t414 = t374
                          · rw [if_pos c144] at H
                            have c144b0 : (t414 == t374) = true := beq_iff_eq.mpr c144
                            have c144b1 : (t414 != t374) = false := bne_eq_false_iff_eq.mpr c144
                            clear c144
                            (first | rw [c144b0] | (simp only [i64_w, i32_w]; rw [c144b0]) | skip)
                            have H' := Aside0.mk H
                            clear H
                            have hnb145 := NB416_362.out
                            have hnc145 := NB362_416.out
                            have hnb146 := NB416_376.out
                            have hnc146 := NB376_416.out
                            have hnb147 := NB416_382.out
                            have hnc147 := NB382_416.out
                            have hnb148 := NB416_390.out
                            have hnc148 := NB390_416.out
                            have hcz149_0 : w135.cell? ⟨gb416, 0, none⟩ = some (.int .i64 0) := (blk_cell BK416.out 0).trans rfl
                            have hcz149_1 : w135.cell? ⟨gb416, 1, none⟩ = some (.bool false) := (blk_cell BK416.out 1).trans rfl
                            have hcz149_2 : w135.cell? ⟨gb416, 2, none⟩ = some (.slice none 0 0) := (blk_cell BK416.out 2).trans rfl
                            have hfz149_0 := blk_frozen BK416.out 0
                            have hfz149_1 := blk_frozen BK416.out 1
                            have hfz149_2 := blk_frozen BK416.out 2
                            have hnb150 := NB376_362.out
                            have hnc150 := NB362_376.out
                            have hnb151 := NB376_382.out
                            have hnc151 := NB382_376.out
                            have hnb152 := NB376_390.out
                            have hnc152 := NB390_376.out
                            have hcz153_0 : w135.cell? ⟨gb376, 0, none⟩ = some (.int .i64 t369) := (blk_cell BK376.out 0).trans rfl
                            have hcz153_1 : w135.cell? ⟨gb376, 1, none⟩ = some (.bool t370) := (blk_cell BK376.out 1).trans rfl
                            have hcz153_2 : w135.cell? ⟨gb376, 2, none⟩ = some (.slice Ao22 t371.length co22) := (blk_cell BK376.out 2).trans rfl
                            have hfz153_0 := blk_frozen BK376.out 0
                            have hfz153_1 := blk_frozen BK376.out 1
                            have hfz153_2 := blk_frozen BK376.out 2
                            go_wp2_with (first | ((with_reducible refine gate_callee (f := 12) rfl ?_); refine goesL_ (some 97) rfl rfl Tryd.func12 (by kernel_rfl) rfl #[.agg #[.int .i64 t409, .bool t410, .slice Ao141 t411.length co141], .agg #[.int .i64 t369, .bool t370, .slice Ao22 t371.length co22]] rfl (by (try simp only [List.map_toArray, List.map_cons, List.map_nil]); first | done | rfl | (simp only [List.length_drop, List.length_take]; rfl)) ?_; (with_reducible refine (laws_eqRow.calls kj68 t409 t410 _ _ t411 t369 t370 _ _ t371 true _ ?side1 ?side2 ?side3 ?side4 A142.out).mono ?_); (case side1 => refine (Kd.R_reads' (e := 3) (base := w.heap.size) (ok := fun k_ => (((True ∧ some k_ ≠ (.slice Ao29 t399.length co29 : Value).ownBlock) ∧ some k_ ≠ (.slice Ao36 t385.length co36 : Value).ownBlock) ∧ some k_ ≠ (.slice Ao133 t406.length co133 : Value).ownBlock)) (n := t411.length) (c := co141) ?_).2.2; exact (by (with_reducible repeat (first | apply Kd.R_alloc | apply Kd.R_drewN | apply Kd.R_drew)); exact (Kd.R_mono (Kd.R_far (p := ⟨gb416, 2, none⟩) (Kd.R_far (p := ⟨gb416, 1, none⟩) (Kd.R_far (p := ⟨gb416, 0, none⟩) (Kd.R_types HO413.out BK416.out (by decide)) (fun _ hk => hk.2) (.int .i64 t409)) (fun _ hk => hk.2) (.bool t410)) (fun _ hk => hk.2) (.slice Ao141 t411.length co141)) (fun _ h_ => h_.1)))); (case side2 => exact (Kd.R_reads' HO413.out).2.1); (case side3 => refine (Kd.V_reads' (e := 3) (base := w.heap.size) (ok := fun k_ => ((((some k_ ≠ (.slice Ao29 t399.length co29 : Value).ownBlock ∧ (some k_ ≠ (.slice Ao36 t385.length co36 : Value).ownBlock ∧ (k_ ≠ gb362 ∧ (k_ ≠ gb376 ∧ (k_ ≠ gb382 ∧ k_ ≠ gb390))))) ∧ some k_ ≠ (.slice Ao133 t406.length co133 : Value).ownBlock) ∧ some k_ ≠ (.slice Ao141 t411.length co141 : Value).ownBlock) ∧ k_ ≠ gb416)) (n := t371.length) (c := co22) ?_).2.2; exact (by (with_reducible repeat (first | apply Kd.V_alloc | apply Kd.V_drewN | apply Kd.V_drew)); exact (Kd.V_mono (Kd.V_far (p := ⟨gb416, 2, none⟩) (Kd.V_far (p := ⟨gb416, 1, none⟩) (Kd.V_far (p := ⟨gb416, 0, none⟩) (Kd.V_mono HO_377002.out (fun k_ hk => (⟨hk, hk.2⟩ : _ ∧ k_ ≠ gb416))) (fun _ hk => hk.2) (.int .i64 t409)) (fun _ hk => hk.2) (.bool t410)) (fun _ hk => hk.2) (.slice Ao141 t411.length co141)) (fun _ h_ => h_.1)))); (case side4 => exact (Kd.V_reads' HO_377002.out).2.1); rintro e w154 ⟨rfl, hb⟩; refine ⟨_, rfl, ?_⟩; have n0_ := Aside0.mk (Kd.V_below (by (with_reducible repeat (first | apply Kd.V_alloc | apply Kd.V_drewN | apply Kd.V_drew)); exact (Kd.V_mono (Kd.V_far (p := ⟨gb416, 2, none⟩) (Kd.V_far (p := ⟨gb416, 1, none⟩) (Kd.V_far (p := ⟨gb416, 0, none⟩) (Kd.V_mono HO_377002.out (fun k_ hk => (⟨hk, hk.2⟩ : _ ∧ k_ ≠ gb416))) (fun _ hk => hk.2) (.int .i64 t409)) (fun _ hk => hk.2) (.bool t410)) (fun _ hk => hk.2) (.slice Ao141 t411.length co141)) (fun _ h_ => h_.1))) hb); have n1_ := Aside0.mk (Kd.R_below (by (with_reducible repeat (first | apply Kd.R_alloc | apply Kd.R_drewN | apply Kd.R_drew)); exact (Kd.R_mono (Kd.R_far (p := ⟨gb416, 2, none⟩) (Kd.R_far (p := ⟨gb416, 1, none⟩) (Kd.R_far (p := ⟨gb416, 0, none⟩) (Kd.R_types HO_383002.out BK416.out (by decide)) (fun _ hk => hk.2) (.int .i64 t409)) (fun _ hk => hk.2) (.bool t410)) (fun _ hk => hk.2) (.slice Ao141 t411.length co141)) (fun _ h_ => h_.1))) hb); have n2_ := Aside0.mk (Kd.R_below (by (with_reducible repeat (first | apply Kd.R_alloc | apply Kd.R_drewN | apply Kd.R_drew)); exact (Kd.R_mono (Kd.R_far (p := ⟨gb416, 2, none⟩) (Kd.R_far (p := ⟨gb416, 1, none⟩) (Kd.R_far (p := ⟨gb416, 0, none⟩) (Kd.R_types HO_391002.out BK416.out (by decide)) (fun _ hk => hk.2) (.int .i64 t409)) (fun _ hk => hk.2) (.bool t410)) (fun _ hk => hk.2) (.slice Ao141 t411.length co141)) (fun _ h_ => h_.1))) hb); have n3_ := Aside0.mk (Kd.R_below (by (with_reducible repeat (first | apply Kd.R_alloc | apply Kd.R_drewN | apply Kd.R_drew)); exact (Kd.R_mono (Kd.R_far (p := ⟨gb416, 2, none⟩) (Kd.R_far (p := ⟨gb416, 1, none⟩) (Kd.R_far (p := ⟨gb416, 0, none⟩) (Kd.R_types HO408.out BK416.out (by decide)) (fun _ hk => hk.2) (.int .i64 t409)) (fun _ hk => hk.2) (.bool t410)) (fun _ hk => hk.2) (.slice Ao141 t411.length co141)) (fun _ h_ => h_.1))) hb); have n4_ := Aside0.mk (Kd.R_below (by (with_reducible repeat (first | apply Kd.R_alloc | apply Kd.R_drewN | apply Kd.R_drew)); exact (Kd.R_mono (Kd.R_far (p := ⟨gb416, 2, none⟩) (Kd.R_far (p := ⟨gb416, 1, none⟩) (Kd.R_far (p := ⟨gb416, 0, none⟩) (Kd.R_types HO413.out BK416.out (by decide)) (fun _ hk => hk.2) (.int .i64 t409)) (fun _ hk => hk.2) (.bool t410)) (fun _ hk => hk.2) (.slice Ao141 t411.length co141)) (fun _ h_ => h_.1))) hb); have n5_ := Aside0.mk (blk_below (g := gb362) (o := .cells #[.int .i64 a0_0, .bool a0_1, .slice A0_2 l0_2.length c0_2] 24 (0, 0)) (by (with_reducible repeat (first | refine blk_drewN ?_ _ | refine blk_drew ?_ | refine blk_alloc ?_ _)); refine blk_far ?_ NB362_416.out _; (with_reducible repeat (first | refine blk_drewN ?_ _ | refine blk_drew ?_ | refine blk_alloc ?_ _)); refine blk_far ?_ NB362_416.out _; (with_reducible repeat (first | refine blk_drewN ?_ _ | refine blk_drew ?_ | refine blk_alloc ?_ _)); refine blk_far ?_ NB362_416.out _; (with_reducible repeat (first | refine blk_drewN ?_ _ | refine blk_drew ?_ | refine blk_alloc ?_ _)); exact BK362.out) hb); have n6_ := Aside0.mk (blk_below (g := gb376) (o := .cells #[.int .i64 t369, .bool t370, .slice Ao22 t371.length co22] 26 (0, 0)) (by (with_reducible repeat (first | refine blk_drewN ?_ _ | refine blk_drew ?_ | refine blk_alloc ?_ _)); refine blk_far ?_ NB376_416.out _; (with_reducible repeat (first | refine blk_drewN ?_ _ | refine blk_drew ?_ | refine blk_alloc ?_ _)); refine blk_far ?_ NB376_416.out _; (with_reducible repeat (first | refine blk_drewN ?_ _ | refine blk_drew ?_ | refine blk_alloc ?_ _)); refine blk_far ?_ NB376_416.out _; (with_reducible repeat (first | refine blk_drewN ?_ _ | refine blk_drew ?_ | refine blk_alloc ?_ _)); exact BK376.out) hb); have n7_ := Aside0.mk (blk_below (g := gb382) (o := .cells #[.int .i64 t377, .bool t378, .slice Ao29 t399.length co29] 26 (0, 0)) (by (with_reducible repeat (first | refine blk_drewN ?_ _ | refine blk_drew ?_ | refine blk_alloc ?_ _)); refine blk_far ?_ NB382_416.out _; (with_reducible repeat (first | refine blk_drewN ?_ _ | refine blk_drew ?_ | refine blk_alloc ?_ _)); refine blk_far ?_ NB382_416.out _; (with_reducible repeat (first | refine blk_drewN ?_ _ | refine blk_drew ?_ | refine blk_alloc ?_ _)); refine blk_far ?_ NB382_416.out _; (with_reducible repeat (first | refine blk_drewN ?_ _ | refine blk_drew ?_ | refine blk_alloc ?_ _)); exact BK382.out) hb); have n8_ := Aside0.mk (blk_below (g := gb390) (o := .cells #[.int .i64 t383, .bool t384, .slice Ao36 t385.length co36] 26 (0, 0)) (by (with_reducible repeat (first | refine blk_drewN ?_ _ | refine blk_drew ?_ | refine blk_alloc ?_ _)); refine blk_far ?_ NB390_416.out _; (with_reducible repeat (first | refine blk_drewN ?_ _ | refine blk_drew ?_ | refine blk_alloc ?_ _)); refine blk_far ?_ NB390_416.out _; (with_reducible repeat (first | refine blk_drewN ?_ _ | refine blk_drew ?_ | refine blk_alloc ?_ _)); refine blk_far ?_ NB390_416.out _; (with_reducible repeat (first | refine blk_drewN ?_ _ | refine blk_drew ?_ | refine blk_alloc ?_ _)); exact BK390.out) hb); have n9_ := Aside0.mk (blk_below (g := gb416) (o := .cells #[.int .i64 t409, .bool t410, .slice Ao141 t411.length co141] 26 (0, 0)) (by (with_reducible repeat (first | refine blk_drewN ?_ _ | refine blk_drew ?_ | refine blk_alloc ?_ _)); refine blk_put (cs := #[.int .i64 t409, .bool t410, .slice none 0 0]) ?_ 2 _ rfl; (with_reducible repeat (first | refine blk_drewN ?_ _ | refine blk_drew ?_ | refine blk_alloc ?_ _)); refine blk_put (cs := #[.int .i64 t409, .bool false, .slice none 0 0]) ?_ 1 _ rfl; (with_reducible repeat (first | refine blk_drewN ?_ _ | refine blk_drew ?_ | refine blk_alloc ?_ _)); refine blk_put (cs := #[.int .i64 0, .bool false, .slice none 0 0]) ?_ 0 _ rfl; (with_reducible repeat (first | refine blk_drewN ?_ _ | refine blk_drew ?_ | refine blk_alloc ?_ _)); exact BK416.out) hb); have n10_ := Aside0.mk (below_step (by repeat (first | (with_reducible first | exact HB.out | apply below_alloc | apply pw_below_drewN | apply below_drew1 | refine below_set ?_ GE362.out | refine below_set ?_ GE376.out | refine below_set ?_ GE382.out | refine below_set ?_ GE390.out | refine below_set ?_ GE416.out) | exact HB.out)) hb); clear HO_377002; clear HO_383002; clear HO_391002; clear HO408; clear HO413; clear BK362; clear BK376; clear BK382; clear BK390; clear BK416; clear HB; have HO_377002 := n0_; have HO_383002 := n1_; have HO_391002 := n2_; have HO408 := n3_; have HO413 := n4_; have BK362 := n5_; have BK376 := n6_; have BK382 := n7_; have BK390 := n8_; have BK416 := n9_; have HB := n10_; clear n0_ n1_ n2_ n3_ n4_ n5_ n6_ n7_ n8_ n9_ n10_; (try clear hb); (try clear hb2); (try clear hk); (try clear hi)))
                            go_meet
                            case rel => exact ⟨_, ((t415 != t375)), (by first | rfl | (simp; done) | (simp [*]; done) | (simp [wrap64]; done) | (simp [*, wrap64]; done)), H', ⟨by have := HJ10.out; have := HJ68.out; first | omega | exact Nat.le_refl _⟩, ⟨by (try simp only [hl383002_68]); (with_reducible repeat (first | apply Kd.V_alloc | apply Kd.V_drewN | apply Kd.V_drew)); exact Kd.V_mono HO_377002.out (fun _ hk => ⟨hk.1.1.1.1, ⟨hk.1.1.1.2.1, ⟨hk.1.2, ⟨hk.1.1.1.2.2.1, ⟨hk.1.1.1.2.2.2.1, ⟨hk.1.1.1.2.2.2.2.1, ⟨hk.1.1.1.2.2.2.2.2, hk.2⟩⟩⟩⟩⟩⟩⟩)⟩, ⟨by (try simp only [hl383002_68]); (with_reducible repeat (first | apply Kd.R_alloc | apply Kd.R_drewN | apply Kd.R_drew)); exact Kd.R_mono HO_383002.out (fun _ hk => ⟨hk.1.1, hk.2⟩)⟩, ⟨by (try simp only [hl383002_68]); (with_reducible repeat (first | apply Kd.R_alloc | apply Kd.R_drewN | apply Kd.R_drew)); exact Kd.R_mono HO_391002.out (fun _ hk => ⟨hk.1.1, hk.2⟩)⟩, ⟨by (try simp only [hl383002_68]); (with_reducible repeat (first | apply Kd.R_alloc | apply Kd.R_drewN | apply Kd.R_drew)); exact Kd.R_mono HO413.out (fun _ hk => ⟨hk.1.1.2, hk.1.2⟩)⟩, ⟨by (try simp only [hl383002_68]); (with_reducible repeat (first | refine blk_drewN ?_ _ | refine blk_drew ?_ | refine blk_alloc ?_ _)); exact BK362.out⟩, ⟨by (try simp only [hl383002_68]); (with_reducible repeat (first | refine blk_drewN ?_ _ | refine blk_drew ?_ | refine blk_alloc ?_ _)); exact BK376.out⟩, ⟨by (try simp only [hl383002_68]); (with_reducible repeat (first | refine blk_drewN ?_ _ | refine blk_drew ?_ | refine blk_alloc ?_ _)); exact BK382.out⟩, ⟨by (try simp only [hl383002_68]); (with_reducible repeat (first | refine blk_drewN ?_ _ | refine blk_drew ?_ | refine blk_alloc ?_ _)); exact BK390.out⟩, ⟨by (try simp only [hl383002_68]); (with_reducible repeat (first | refine blk_drewN ?_ _ | refine blk_drew ?_ | refine blk_alloc ?_ _)); exact BK416.out⟩, ⟨by repeat (first | (with_reducible first | exact HB.out | apply below_alloc | apply pw_below_drewN | apply below_drew1 | refine below_set ?_ GE362.out | refine below_set ?_ GE376.out | refine below_set ?_ GE382.out | refine below_set ?_ GE390.out | refine below_set ?_ GE416.out) | exact HB.out)⟩⟩
                          · rw [if_neg c144] at H
                            have c144b0 : (t414 == t374) = false := beq_eq_false_iff_ne.mpr c144
                            have c144b1 : (t414 != t374) = true := bne_iff_ne.mpr c144
                            (first | rw [c144b0] | (simp only [i64_w, i32_w]; rw [c144b0]) | skip)
                            have H' := Aside0.mk H
                            clear H
                            have hnb155 := NB416_362.out
                            have hnc155 := NB362_416.out
                            have hnb156 := NB416_376.out
                            have hnc156 := NB376_416.out
                            have hnb157 := NB416_382.out
                            have hnc157 := NB382_416.out
                            have hnb158 := NB416_390.out
                            have hnc158 := NB390_416.out
                            have hcz159_0 : w135.cell? ⟨gb416, 0, none⟩ = some (.int .i64 0) := (blk_cell BK416.out 0).trans rfl
                            have hcz159_1 : w135.cell? ⟨gb416, 1, none⟩ = some (.bool false) := (blk_cell BK416.out 1).trans rfl
                            have hcz159_2 : w135.cell? ⟨gb416, 2, none⟩ = some (.slice none 0 0) := (blk_cell BK416.out 2).trans rfl
                            have hfz159_0 := blk_frozen BK416.out 0
                            have hfz159_1 := blk_frozen BK416.out 1
                            have hfz159_2 := blk_frozen BK416.out 2
                            have hnb160 := NB376_362.out
                            have hnc160 := NB362_376.out
                            have hnb161 := NB376_382.out
                            have hnc161 := NB382_376.out
                            have hnb162 := NB376_390.out
                            have hnc162 := NB390_376.out
                            have hcz163_0 : w135.cell? ⟨gb376, 0, none⟩ = some (.int .i64 t369) := (blk_cell BK376.out 0).trans rfl
                            have hcz163_1 : w135.cell? ⟨gb376, 1, none⟩ = some (.bool t370) := (blk_cell BK376.out 1).trans rfl
                            have hcz163_2 : w135.cell? ⟨gb376, 2, none⟩ = some (.slice Ao22 t371.length co22) := (blk_cell BK376.out 2).trans rfl
                            have hfz163_0 := blk_frozen BK376.out 0
                            have hfz163_1 := blk_frozen BK376.out 1
                            have hfz163_2 := blk_frozen BK376.out 2
                            go_wp2_with (first | ((with_reducible refine gate_callee (f := 12) rfl ?_); refine goesL_ (some 97) rfl rfl Tryd.func12 (by kernel_rfl) rfl #[.agg #[.int .i64 t409, .bool t410, .slice Ao141 t411.length co141], .agg #[.int .i64 t369, .bool t370, .slice Ao22 t371.length co22]] rfl (by (try simp only [List.map_toArray, List.map_cons, List.map_nil]); first | done | rfl | (simp only [List.length_drop, List.length_take]; rfl)) ?_; (with_reducible refine (laws_eqRow.calls kj68 t409 t410 _ _ t411 t369 t370 _ _ t371 true _ ?side1 ?side2 ?side3 ?side4 A142.out).mono ?_); (case side1 => refine (Kd.R_reads' (e := 3) (base := w.heap.size) (ok := fun k_ => (((True ∧ some k_ ≠ (.slice Ao29 t399.length co29 : Value).ownBlock) ∧ some k_ ≠ (.slice Ao36 t385.length co36 : Value).ownBlock) ∧ some k_ ≠ (.slice Ao133 t406.length co133 : Value).ownBlock)) (n := t411.length) (c := co141) ?_).2.2; exact (by (with_reducible repeat (first | apply Kd.R_alloc | apply Kd.R_drewN | apply Kd.R_drew)); exact (Kd.R_mono (Kd.R_far (p := ⟨gb416, 2, none⟩) (Kd.R_far (p := ⟨gb416, 1, none⟩) (Kd.R_far (p := ⟨gb416, 0, none⟩) (Kd.R_types HO413.out BK416.out (by decide)) (fun _ hk => hk.2) (.int .i64 t409)) (fun _ hk => hk.2) (.bool t410)) (fun _ hk => hk.2) (.slice Ao141 t411.length co141)) (fun _ h_ => h_.1)))); (case side2 => exact (Kd.R_reads' HO413.out).2.1); (case side3 => refine (Kd.V_reads' (e := 3) (base := w.heap.size) (ok := fun k_ => ((((some k_ ≠ (.slice Ao29 t399.length co29 : Value).ownBlock ∧ (some k_ ≠ (.slice Ao36 t385.length co36 : Value).ownBlock ∧ (k_ ≠ gb362 ∧ (k_ ≠ gb376 ∧ (k_ ≠ gb382 ∧ k_ ≠ gb390))))) ∧ some k_ ≠ (.slice Ao133 t406.length co133 : Value).ownBlock) ∧ some k_ ≠ (.slice Ao141 t411.length co141 : Value).ownBlock) ∧ k_ ≠ gb416)) (n := t371.length) (c := co22) ?_).2.2; exact (by (with_reducible repeat (first | apply Kd.V_alloc | apply Kd.V_drewN | apply Kd.V_drew)); exact (Kd.V_mono (Kd.V_far (p := ⟨gb416, 2, none⟩) (Kd.V_far (p := ⟨gb416, 1, none⟩) (Kd.V_far (p := ⟨gb416, 0, none⟩) (Kd.V_mono HO_377002.out (fun k_ hk => (⟨hk, hk.2⟩ : _ ∧ k_ ≠ gb416))) (fun _ hk => hk.2) (.int .i64 t409)) (fun _ hk => hk.2) (.bool t410)) (fun _ hk => hk.2) (.slice Ao141 t411.length co141)) (fun _ h_ => h_.1)))); (case side4 => exact (Kd.V_reads' HO_377002.out).2.1); rintro e w164 ⟨rfl, hb⟩; refine ⟨_, rfl, ?_⟩; have n0_ := Aside0.mk (Kd.V_below (by (with_reducible repeat (first | apply Kd.V_alloc | apply Kd.V_drewN | apply Kd.V_drew)); exact (Kd.V_mono (Kd.V_far (p := ⟨gb416, 2, none⟩) (Kd.V_far (p := ⟨gb416, 1, none⟩) (Kd.V_far (p := ⟨gb416, 0, none⟩) (Kd.V_mono HO_377002.out (fun k_ hk => (⟨hk, hk.2⟩ : _ ∧ k_ ≠ gb416))) (fun _ hk => hk.2) (.int .i64 t409)) (fun _ hk => hk.2) (.bool t410)) (fun _ hk => hk.2) (.slice Ao141 t411.length co141)) (fun _ h_ => h_.1))) hb); have n1_ := Aside0.mk (Kd.R_below (by (with_reducible repeat (first | apply Kd.R_alloc | apply Kd.R_drewN | apply Kd.R_drew)); exact (Kd.R_mono (Kd.R_far (p := ⟨gb416, 2, none⟩) (Kd.R_far (p := ⟨gb416, 1, none⟩) (Kd.R_far (p := ⟨gb416, 0, none⟩) (Kd.R_types HO_383002.out BK416.out (by decide)) (fun _ hk => hk.2) (.int .i64 t409)) (fun _ hk => hk.2) (.bool t410)) (fun _ hk => hk.2) (.slice Ao141 t411.length co141)) (fun _ h_ => h_.1))) hb); have n2_ := Aside0.mk (Kd.R_below (by (with_reducible repeat (first | apply Kd.R_alloc | apply Kd.R_drewN | apply Kd.R_drew)); exact (Kd.R_mono (Kd.R_far (p := ⟨gb416, 2, none⟩) (Kd.R_far (p := ⟨gb416, 1, none⟩) (Kd.R_far (p := ⟨gb416, 0, none⟩) (Kd.R_types HO_391002.out BK416.out (by decide)) (fun _ hk => hk.2) (.int .i64 t409)) (fun _ hk => hk.2) (.bool t410)) (fun _ hk => hk.2) (.slice Ao141 t411.length co141)) (fun _ h_ => h_.1))) hb); have n3_ := Aside0.mk (Kd.R_below (by (with_reducible repeat (first | apply Kd.R_alloc | apply Kd.R_drewN | apply Kd.R_drew)); exact (Kd.R_mono (Kd.R_far (p := ⟨gb416, 2, none⟩) (Kd.R_far (p := ⟨gb416, 1, none⟩) (Kd.R_far (p := ⟨gb416, 0, none⟩) (Kd.R_types HO408.out BK416.out (by decide)) (fun _ hk => hk.2) (.int .i64 t409)) (fun _ hk => hk.2) (.bool t410)) (fun _ hk => hk.2) (.slice Ao141 t411.length co141)) (fun _ h_ => h_.1))) hb); have n4_ := Aside0.mk (Kd.R_below (by (with_reducible repeat (first | apply Kd.R_alloc | apply Kd.R_drewN | apply Kd.R_drew)); exact (Kd.R_mono (Kd.R_far (p := ⟨gb416, 2, none⟩) (Kd.R_far (p := ⟨gb416, 1, none⟩) (Kd.R_far (p := ⟨gb416, 0, none⟩) (Kd.R_types HO413.out BK416.out (by decide)) (fun _ hk => hk.2) (.int .i64 t409)) (fun _ hk => hk.2) (.bool t410)) (fun _ hk => hk.2) (.slice Ao141 t411.length co141)) (fun _ h_ => h_.1))) hb); have n5_ := Aside0.mk (blk_below (g := gb362) (o := .cells #[.int .i64 a0_0, .bool a0_1, .slice A0_2 l0_2.length c0_2] 24 (0, 0)) (by (with_reducible repeat (first | refine blk_drewN ?_ _ | refine blk_drew ?_ | refine blk_alloc ?_ _)); refine blk_far ?_ NB362_416.out _; (with_reducible repeat (first | refine blk_drewN ?_ _ | refine blk_drew ?_ | refine blk_alloc ?_ _)); refine blk_far ?_ NB362_416.out _; (with_reducible repeat (first | refine blk_drewN ?_ _ | refine blk_drew ?_ | refine blk_alloc ?_ _)); refine blk_far ?_ NB362_416.out _; (with_reducible repeat (first | refine blk_drewN ?_ _ | refine blk_drew ?_ | refine blk_alloc ?_ _)); exact BK362.out) hb); have n6_ := Aside0.mk (blk_below (g := gb376) (o := .cells #[.int .i64 t369, .bool t370, .slice Ao22 t371.length co22] 26 (0, 0)) (by (with_reducible repeat (first | refine blk_drewN ?_ _ | refine blk_drew ?_ | refine blk_alloc ?_ _)); refine blk_far ?_ NB376_416.out _; (with_reducible repeat (first | refine blk_drewN ?_ _ | refine blk_drew ?_ | refine blk_alloc ?_ _)); refine blk_far ?_ NB376_416.out _; (with_reducible repeat (first | refine blk_drewN ?_ _ | refine blk_drew ?_ | refine blk_alloc ?_ _)); refine blk_far ?_ NB376_416.out _; (with_reducible repeat (first | refine blk_drewN ?_ _ | refine blk_drew ?_ | refine blk_alloc ?_ _)); exact BK376.out) hb); have n7_ := Aside0.mk (blk_below (g := gb382) (o := .cells #[.int .i64 t377, .bool t378, .slice Ao29 t399.length co29] 26 (0, 0)) (by (with_reducible repeat (first | refine blk_drewN ?_ _ | refine blk_drew ?_ | refine blk_alloc ?_ _)); refine blk_far ?_ NB382_416.out _; (with_reducible repeat (first | refine blk_drewN ?_ _ | refine blk_drew ?_ | refine blk_alloc ?_ _)); refine blk_far ?_ NB382_416.out _; (with_reducible repeat (first | refine blk_drewN ?_ _ | refine blk_drew ?_ | refine blk_alloc ?_ _)); refine blk_far ?_ NB382_416.out _; (with_reducible repeat (first | refine blk_drewN ?_ _ | refine blk_drew ?_ | refine blk_alloc ?_ _)); exact BK382.out) hb); have n8_ := Aside0.mk (blk_below (g := gb390) (o := .cells #[.int .i64 t383, .bool t384, .slice Ao36 t385.length co36] 26 (0, 0)) (by (with_reducible repeat (first | refine blk_drewN ?_ _ | refine blk_drew ?_ | refine blk_alloc ?_ _)); refine blk_far ?_ NB390_416.out _; (with_reducible repeat (first | refine blk_drewN ?_ _ | refine blk_drew ?_ | refine blk_alloc ?_ _)); refine blk_far ?_ NB390_416.out _; (with_reducible repeat (first | refine blk_drewN ?_ _ | refine blk_drew ?_ | refine blk_alloc ?_ _)); refine blk_far ?_ NB390_416.out _; (with_reducible repeat (first | refine blk_drewN ?_ _ | refine blk_drew ?_ | refine blk_alloc ?_ _)); exact BK390.out) hb); have n9_ := Aside0.mk (blk_below (g := gb416) (o := .cells #[.int .i64 t409, .bool t410, .slice Ao141 t411.length co141] 26 (0, 0)) (by (with_reducible repeat (first | refine blk_drewN ?_ _ | refine blk_drew ?_ | refine blk_alloc ?_ _)); refine blk_put (cs := #[.int .i64 t409, .bool t410, .slice none 0 0]) ?_ 2 _ rfl; (with_reducible repeat (first | refine blk_drewN ?_ _ | refine blk_drew ?_ | refine blk_alloc ?_ _)); refine blk_put (cs := #[.int .i64 t409, .bool false, .slice none 0 0]) ?_ 1 _ rfl; (with_reducible repeat (first | refine blk_drewN ?_ _ | refine blk_drew ?_ | refine blk_alloc ?_ _)); refine blk_put (cs := #[.int .i64 0, .bool false, .slice none 0 0]) ?_ 0 _ rfl; (with_reducible repeat (first | refine blk_drewN ?_ _ | refine blk_drew ?_ | refine blk_alloc ?_ _)); exact BK416.out) hb); have n10_ := Aside0.mk (below_step (by repeat (first | (with_reducible first | exact HB.out | apply below_alloc | apply pw_below_drewN | apply below_drew1 | refine below_set ?_ GE362.out | refine below_set ?_ GE376.out | refine below_set ?_ GE382.out | refine below_set ?_ GE390.out | refine below_set ?_ GE416.out) | exact HB.out)) hb); clear HO_377002; clear HO_383002; clear HO_391002; clear HO408; clear HO413; clear BK362; clear BK376; clear BK382; clear BK390; clear BK416; clear HB; have HO_377002 := n0_; have HO_383002 := n1_; have HO_391002 := n2_; have HO408 := n3_; have HO413 := n4_; have BK362 := n5_; have BK376 := n6_; have BK382 := n7_; have BK390 := n8_; have BK416 := n9_; have HB := n10_; clear n0_ n1_ n2_ n3_ n4_ n5_ n6_ n7_ n8_ n9_ n10_; (try clear hb); (try clear hb2); (try clear hk); (try clear hi)))
                            go_meet
                            case rel => exact ⟨_, (true), (by first | rfl | (simp; done) | (simp [*]; done) | (simp [wrap64]; done) | (simp [*, wrap64]; done)), H', ⟨by have := HJ10.out; have := HJ68.out; first | omega | exact Nat.le_refl _⟩, ⟨by (try simp only [hl383002_68]); (with_reducible repeat (first | apply Kd.V_alloc | apply Kd.V_drewN | apply Kd.V_drew)); exact Kd.V_mono HO_377002.out (fun _ hk => ⟨hk.1.1.1.1, ⟨hk.1.1.1.2.1, ⟨hk.1.2, ⟨hk.1.1.1.2.2.1, ⟨hk.1.1.1.2.2.2.1, ⟨hk.1.1.1.2.2.2.2.1, ⟨hk.1.1.1.2.2.2.2.2, hk.2⟩⟩⟩⟩⟩⟩⟩)⟩, ⟨by (try simp only [hl383002_68]); (with_reducible repeat (first | apply Kd.R_alloc | apply Kd.R_drewN | apply Kd.R_drew)); exact Kd.R_mono HO_383002.out (fun _ hk => ⟨hk.1.1, hk.2⟩)⟩, ⟨by (try simp only [hl383002_68]); (with_reducible repeat (first | apply Kd.R_alloc | apply Kd.R_drewN | apply Kd.R_drew)); exact Kd.R_mono HO_391002.out (fun _ hk => ⟨hk.1.1, hk.2⟩)⟩, ⟨by (try simp only [hl383002_68]); (with_reducible repeat (first | apply Kd.R_alloc | apply Kd.R_drewN | apply Kd.R_drew)); exact Kd.R_mono HO413.out (fun _ hk => ⟨hk.1.1.2, hk.1.2⟩)⟩, ⟨by (try simp only [hl383002_68]); (with_reducible repeat (first | refine blk_drewN ?_ _ | refine blk_drew ?_ | refine blk_alloc ?_ _)); exact BK362.out⟩, ⟨by (try simp only [hl383002_68]); (with_reducible repeat (first | refine blk_drewN ?_ _ | refine blk_drew ?_ | refine blk_alloc ?_ _)); exact BK376.out⟩, ⟨by (try simp only [hl383002_68]); (with_reducible repeat (first | refine blk_drewN ?_ _ | refine blk_drew ?_ | refine blk_alloc ?_ _)); exact BK382.out⟩, ⟨by (try simp only [hl383002_68]); (with_reducible repeat (first | refine blk_drewN ?_ _ | refine blk_drew ?_ | refine blk_alloc ?_ _)); exact BK390.out⟩, ⟨by (try simp only [hl383002_68]); (with_reducible repeat (first | refine blk_drewN ?_ _ | refine blk_drew ?_ | refine blk_alloc ?_ _)); exact BK416.out⟩, ⟨by repeat (first | (with_reducible first | exact HB.out | apply below_alloc | apply pw_below_drewN | apply below_drew1 | refine below_set ?_ GE362.out | refine below_set ?_ GE376.out | refine below_set ?_ GE382.out | refine below_set ?_ GE390.out | refine below_set ?_ GE416.out) | exact HB.out)⟩⟩
                        · replace c143 := Bool.eq_false_iff.mpr c143
                          subst c143
                          have H1 : (laws_FnExactSettleRow.j2 kj68 t401 true t383 t384 t402) = some r := by rw [if_neg (show ¬ (false = true) by decide)] at H; exact H
                          clear H
                          have H := H1
                          clear H1
                          have H' := Aside0.mk H
                          clear H
                          have hnb165 := NB416_362.out
                          have hnc165 := NB362_416.out
                          have hnb166 := NB416_376.out
                          have hnc166 := NB376_416.out
                          have hnb167 := NB416_382.out
                          have hnc167 := NB382_416.out
                          have hnb168 := NB416_390.out
                          have hnc168 := NB390_416.out
                          have hcz169_0 : w135.cell? ⟨gb416, 0, none⟩ = some (.int .i64 0) := (blk_cell BK416.out 0).trans rfl
                          have hcz169_1 : w135.cell? ⟨gb416, 1, none⟩ = some (.bool false) := (blk_cell BK416.out 1).trans rfl
                          have hcz169_2 : w135.cell? ⟨gb416, 2, none⟩ = some (.slice none 0 0) := (blk_cell BK416.out 2).trans rfl
                          have hfz169_0 := blk_frozen BK416.out 0
                          have hfz169_1 := blk_frozen BK416.out 1
                          have hfz169_2 := blk_frozen BK416.out 2
                          have hnb170 := NB376_362.out
                          have hnc170 := NB362_376.out
                          have hnb171 := NB376_382.out
                          have hnc171 := NB382_376.out
                          have hnb172 := NB376_390.out
                          have hnc172 := NB390_376.out
                          have hcz173_0 : w135.cell? ⟨gb376, 0, none⟩ = some (.int .i64 t369) := (blk_cell BK376.out 0).trans rfl
                          have hcz173_1 : w135.cell? ⟨gb376, 1, none⟩ = some (.bool t370) := (blk_cell BK376.out 1).trans rfl
                          have hcz173_2 : w135.cell? ⟨gb376, 2, none⟩ = some (.slice Ao22 t371.length co22) := (blk_cell BK376.out 2).trans rfl
                          have hfz173_0 := blk_frozen BK376.out 0
                          have hfz173_1 := blk_frozen BK376.out 1
                          have hfz173_2 := blk_frozen BK376.out 2
                          go_wp2_with (first | ((with_reducible refine gate_callee (f := 12) rfl ?_); refine goesL_ (some 97) rfl rfl Tryd.func12 (by kernel_rfl) rfl #[.agg #[.int .i64 t409, .bool t410, .slice Ao141 t411.length co141], .agg #[.int .i64 t369, .bool t370, .slice Ao22 t371.length co22]] rfl (by (try simp only [List.map_toArray, List.map_cons, List.map_nil]); first | done | rfl | (simp only [List.length_drop, List.length_take]; rfl)) ?_; (with_reducible refine (laws_eqRow.calls kj68 t409 t410 _ _ t411 t369 t370 _ _ t371 false _ ?side1 ?side2 ?side3 ?side4 A142.out).mono ?_); (case side1 => refine (Kd.R_reads' (e := 3) (base := w.heap.size) (ok := fun k_ => (((True ∧ some k_ ≠ (.slice Ao29 t399.length co29 : Value).ownBlock) ∧ some k_ ≠ (.slice Ao36 t385.length co36 : Value).ownBlock) ∧ some k_ ≠ (.slice Ao133 t406.length co133 : Value).ownBlock)) (n := t411.length) (c := co141) ?_).2.2; exact (by (with_reducible repeat (first | apply Kd.R_alloc | apply Kd.R_drewN | apply Kd.R_drew)); exact (Kd.R_mono (Kd.R_far (p := ⟨gb416, 2, none⟩) (Kd.R_far (p := ⟨gb416, 1, none⟩) (Kd.R_far (p := ⟨gb416, 0, none⟩) (Kd.R_types HO413.out BK416.out (by decide)) (fun _ hk => hk.2) (.int .i64 t409)) (fun _ hk => hk.2) (.bool t410)) (fun _ hk => hk.2) (.slice Ao141 t411.length co141)) (fun _ h_ => h_.1)))); (case side2 => exact (Kd.R_reads' HO413.out).2.1); (case side3 => refine (Kd.V_reads' (e := 3) (base := w.heap.size) (ok := fun k_ => ((((some k_ ≠ (.slice Ao29 t399.length co29 : Value).ownBlock ∧ (some k_ ≠ (.slice Ao36 t385.length co36 : Value).ownBlock ∧ (k_ ≠ gb362 ∧ (k_ ≠ gb376 ∧ (k_ ≠ gb382 ∧ k_ ≠ gb390))))) ∧ some k_ ≠ (.slice Ao133 t406.length co133 : Value).ownBlock) ∧ some k_ ≠ (.slice Ao141 t411.length co141 : Value).ownBlock) ∧ k_ ≠ gb416)) (n := t371.length) (c := co22) ?_).2.2; exact (by (with_reducible repeat (first | apply Kd.V_alloc | apply Kd.V_drewN | apply Kd.V_drew)); exact (Kd.V_mono (Kd.V_far (p := ⟨gb416, 2, none⟩) (Kd.V_far (p := ⟨gb416, 1, none⟩) (Kd.V_far (p := ⟨gb416, 0, none⟩) (Kd.V_mono HO_377002.out (fun k_ hk => (⟨hk, hk.2⟩ : _ ∧ k_ ≠ gb416))) (fun _ hk => hk.2) (.int .i64 t409)) (fun _ hk => hk.2) (.bool t410)) (fun _ hk => hk.2) (.slice Ao141 t411.length co141)) (fun _ h_ => h_.1)))); (case side4 => exact (Kd.V_reads' HO_377002.out).2.1); rintro e w174 ⟨rfl, hb⟩; refine ⟨_, rfl, ?_⟩; have n0_ := Aside0.mk (Kd.V_below (by (with_reducible repeat (first | apply Kd.V_alloc | apply Kd.V_drewN | apply Kd.V_drew)); exact (Kd.V_mono (Kd.V_far (p := ⟨gb416, 2, none⟩) (Kd.V_far (p := ⟨gb416, 1, none⟩) (Kd.V_far (p := ⟨gb416, 0, none⟩) (Kd.V_mono HO_377002.out (fun k_ hk => (⟨hk, hk.2⟩ : _ ∧ k_ ≠ gb416))) (fun _ hk => hk.2) (.int .i64 t409)) (fun _ hk => hk.2) (.bool t410)) (fun _ hk => hk.2) (.slice Ao141 t411.length co141)) (fun _ h_ => h_.1))) hb); have n1_ := Aside0.mk (Kd.R_below (by (with_reducible repeat (first | apply Kd.R_alloc | apply Kd.R_drewN | apply Kd.R_drew)); exact (Kd.R_mono (Kd.R_far (p := ⟨gb416, 2, none⟩) (Kd.R_far (p := ⟨gb416, 1, none⟩) (Kd.R_far (p := ⟨gb416, 0, none⟩) (Kd.R_types HO_383002.out BK416.out (by decide)) (fun _ hk => hk.2) (.int .i64 t409)) (fun _ hk => hk.2) (.bool t410)) (fun _ hk => hk.2) (.slice Ao141 t411.length co141)) (fun _ h_ => h_.1))) hb); have n2_ := Aside0.mk (Kd.R_below (by (with_reducible repeat (first | apply Kd.R_alloc | apply Kd.R_drewN | apply Kd.R_drew)); exact (Kd.R_mono (Kd.R_far (p := ⟨gb416, 2, none⟩) (Kd.R_far (p := ⟨gb416, 1, none⟩) (Kd.R_far (p := ⟨gb416, 0, none⟩) (Kd.R_types HO_391002.out BK416.out (by decide)) (fun _ hk => hk.2) (.int .i64 t409)) (fun _ hk => hk.2) (.bool t410)) (fun _ hk => hk.2) (.slice Ao141 t411.length co141)) (fun _ h_ => h_.1))) hb); have n3_ := Aside0.mk (Kd.R_below (by (with_reducible repeat (first | apply Kd.R_alloc | apply Kd.R_drewN | apply Kd.R_drew)); exact (Kd.R_mono (Kd.R_far (p := ⟨gb416, 2, none⟩) (Kd.R_far (p := ⟨gb416, 1, none⟩) (Kd.R_far (p := ⟨gb416, 0, none⟩) (Kd.R_types HO408.out BK416.out (by decide)) (fun _ hk => hk.2) (.int .i64 t409)) (fun _ hk => hk.2) (.bool t410)) (fun _ hk => hk.2) (.slice Ao141 t411.length co141)) (fun _ h_ => h_.1))) hb); have n4_ := Aside0.mk (Kd.R_below (by (with_reducible repeat (first | apply Kd.R_alloc | apply Kd.R_drewN | apply Kd.R_drew)); exact (Kd.R_mono (Kd.R_far (p := ⟨gb416, 2, none⟩) (Kd.R_far (p := ⟨gb416, 1, none⟩) (Kd.R_far (p := ⟨gb416, 0, none⟩) (Kd.R_types HO413.out BK416.out (by decide)) (fun _ hk => hk.2) (.int .i64 t409)) (fun _ hk => hk.2) (.bool t410)) (fun _ hk => hk.2) (.slice Ao141 t411.length co141)) (fun _ h_ => h_.1))) hb); have n5_ := Aside0.mk (blk_below (g := gb362) (o := .cells #[.int .i64 a0_0, .bool a0_1, .slice A0_2 l0_2.length c0_2] 24 (0, 0)) (by (with_reducible repeat (first | refine blk_drewN ?_ _ | refine blk_drew ?_ | refine blk_alloc ?_ _)); refine blk_far ?_ NB362_416.out _; (with_reducible repeat (first | refine blk_drewN ?_ _ | refine blk_drew ?_ | refine blk_alloc ?_ _)); refine blk_far ?_ NB362_416.out _; (with_reducible repeat (first | refine blk_drewN ?_ _ | refine blk_drew ?_ | refine blk_alloc ?_ _)); refine blk_far ?_ NB362_416.out _; (with_reducible repeat (first | refine blk_drewN ?_ _ | refine blk_drew ?_ | refine blk_alloc ?_ _)); exact BK362.out) hb); have n6_ := Aside0.mk (blk_below (g := gb376) (o := .cells #[.int .i64 t369, .bool t370, .slice Ao22 t371.length co22] 26 (0, 0)) (by (with_reducible repeat (first | refine blk_drewN ?_ _ | refine blk_drew ?_ | refine blk_alloc ?_ _)); refine blk_far ?_ NB376_416.out _; (with_reducible repeat (first | refine blk_drewN ?_ _ | refine blk_drew ?_ | refine blk_alloc ?_ _)); refine blk_far ?_ NB376_416.out _; (with_reducible repeat (first | refine blk_drewN ?_ _ | refine blk_drew ?_ | refine blk_alloc ?_ _)); refine blk_far ?_ NB376_416.out _; (with_reducible repeat (first | refine blk_drewN ?_ _ | refine blk_drew ?_ | refine blk_alloc ?_ _)); exact BK376.out) hb); have n7_ := Aside0.mk (blk_below (g := gb382) (o := .cells #[.int .i64 t377, .bool t378, .slice Ao29 t399.length co29] 26 (0, 0)) (by (with_reducible repeat (first | refine blk_drewN ?_ _ | refine blk_drew ?_ | refine blk_alloc ?_ _)); refine blk_far ?_ NB382_416.out _; (with_reducible repeat (first | refine blk_drewN ?_ _ | refine blk_drew ?_ | refine blk_alloc ?_ _)); refine blk_far ?_ NB382_416.out _; (with_reducible repeat (first | refine blk_drewN ?_ _ | refine blk_drew ?_ | refine blk_alloc ?_ _)); refine blk_far ?_ NB382_416.out _; (with_reducible repeat (first | refine blk_drewN ?_ _ | refine blk_drew ?_ | refine blk_alloc ?_ _)); exact BK382.out) hb); have n8_ := Aside0.mk (blk_below (g := gb390) (o := .cells #[.int .i64 t383, .bool t384, .slice Ao36 t385.length co36] 26 (0, 0)) (by (with_reducible repeat (first | refine blk_drewN ?_ _ | refine blk_drew ?_ | refine blk_alloc ?_ _)); refine blk_far ?_ NB390_416.out _; (with_reducible repeat (first | refine blk_drewN ?_ _ | refine blk_drew ?_ | refine blk_alloc ?_ _)); refine blk_far ?_ NB390_416.out _; (with_reducible repeat (first | refine blk_drewN ?_ _ | refine blk_drew ?_ | refine blk_alloc ?_ _)); refine blk_far ?_ NB390_416.out _; (with_reducible repeat (first | refine blk_drewN ?_ _ | refine blk_drew ?_ | refine blk_alloc ?_ _)); exact BK390.out) hb); have n9_ := Aside0.mk (blk_below (g := gb416) (o := .cells #[.int .i64 t409, .bool t410, .slice Ao141 t411.length co141] 26 (0, 0)) (by (with_reducible repeat (first | refine blk_drewN ?_ _ | refine blk_drew ?_ | refine blk_alloc ?_ _)); refine blk_put (cs := #[.int .i64 t409, .bool t410, .slice none 0 0]) ?_ 2 _ rfl; (with_reducible repeat (first | refine blk_drewN ?_ _ | refine blk_drew ?_ | refine blk_alloc ?_ _)); refine blk_put (cs := #[.int .i64 t409, .bool false, .slice none 0 0]) ?_ 1 _ rfl; (with_reducible repeat (first | refine blk_drewN ?_ _ | refine blk_drew ?_ | refine blk_alloc ?_ _)); refine blk_put (cs := #[.int .i64 0, .bool false, .slice none 0 0]) ?_ 0 _ rfl; (with_reducible repeat (first | refine blk_drewN ?_ _ | refine blk_drew ?_ | refine blk_alloc ?_ _)); exact BK416.out) hb); have n10_ := Aside0.mk (below_step (by repeat (first | (with_reducible first | exact HB.out | apply below_alloc | apply pw_below_drewN | apply below_drew1 | refine below_set ?_ GE362.out | refine below_set ?_ GE376.out | refine below_set ?_ GE382.out | refine below_set ?_ GE390.out | refine below_set ?_ GE416.out) | exact HB.out)) hb); clear HO_377002; clear HO_383002; clear HO_391002; clear HO408; clear HO413; clear BK362; clear BK376; clear BK382; clear BK390; clear BK416; clear HB; have HO_377002 := n0_; have HO_383002 := n1_; have HO_391002 := n2_; have HO408 := n3_; have HO413 := n4_; have BK362 := n5_; have BK376 := n6_; have BK382 := n7_; have BK390 := n8_; have BK416 := n9_; have HB := n10_; clear n0_ n1_ n2_ n3_ n4_ n5_ n6_ n7_ n8_ n9_ n10_; (try clear hb); (try clear hb2); (try clear hk); (try clear hi)))
                          go_meet
                          case rel => exact ⟨_, (true), (by first | rfl | (simp; done) | (simp [*]; done) | (simp [wrap64]; done) | (simp [*, wrap64]; done)), H', ⟨by have := HJ10.out; have := HJ68.out; first | omega | exact Nat.le_refl _⟩, ⟨by (try simp only [hl383002_68]); (with_reducible repeat (first | apply Kd.V_alloc | apply Kd.V_drewN | apply Kd.V_drew)); exact Kd.V_mono HO_377002.out (fun _ hk => ⟨hk.1.1.1.1, ⟨hk.1.1.1.2.1, ⟨hk.1.2, ⟨hk.1.1.1.2.2.1, ⟨hk.1.1.1.2.2.2.1, ⟨hk.1.1.1.2.2.2.2.1, ⟨hk.1.1.1.2.2.2.2.2, hk.2⟩⟩⟩⟩⟩⟩⟩)⟩, ⟨by (try simp only [hl383002_68]); (with_reducible repeat (first | apply Kd.R_alloc | apply Kd.R_drewN | apply Kd.R_drew)); exact Kd.R_mono HO_383002.out (fun _ hk => ⟨hk.1.1, hk.2⟩)⟩, ⟨by (try simp only [hl383002_68]); (with_reducible repeat (first | apply Kd.R_alloc | apply Kd.R_drewN | apply Kd.R_drew)); exact Kd.R_mono HO_391002.out (fun _ hk => ⟨hk.1.1, hk.2⟩)⟩, ⟨by (try simp only [hl383002_68]); (with_reducible repeat (first | apply Kd.R_alloc | apply Kd.R_drewN | apply Kd.R_drew)); exact Kd.R_mono HO413.out (fun _ hk => ⟨hk.1.1.2, hk.1.2⟩)⟩, ⟨by (try simp only [hl383002_68]); (with_reducible repeat (first | refine blk_drewN ?_ _ | refine blk_drew ?_ | refine blk_alloc ?_ _)); exact BK362.out⟩, ⟨by (try simp only [hl383002_68]); (with_reducible repeat (first | refine blk_drewN ?_ _ | refine blk_drew ?_ | refine blk_alloc ?_ _)); exact BK376.out⟩, ⟨by (try simp only [hl383002_68]); (with_reducible repeat (first | refine blk_drewN ?_ _ | refine blk_drew ?_ | refine blk_alloc ?_ _)); exact BK382.out⟩, ⟨by (try simp only [hl383002_68]); (with_reducible repeat (first | refine blk_drewN ?_ _ | refine blk_drew ?_ | refine blk_alloc ?_ _)); exact BK390.out⟩, ⟨by (try simp only [hl383002_68]); (with_reducible repeat (first | refine blk_drewN ?_ _ | refine blk_drew ?_ | refine blk_alloc ?_ _)); exact BK416.out⟩, ⟨by repeat (first | (with_reducible first | exact HB.out | apply below_alloc | apply pw_below_drewN | apply below_drew1 | refine below_set ?_ GE362.out | refine below_set ?_ GE376.out | refine below_set ?_ GE382.out | refine below_set ?_ GE390.out | refine below_set ?_ GE416.out) | exact HB.out)⟩⟩
                      case rest =>
                        clear HC121
                        try clear c1
                        try clear c2
                        try clear p2
                        try clear c3
                        try clear c3b0
                        try clear c4
                        try clear c5
                        try clear c6
                        try clear p6
                        try clear c7
                        try clear c8
                        try clear c9
                        try clear c10
                        try clear c11
                        try clear c12
                        try clear c13
                        try clear c14
                        try clear c15
                        try clear c16
                        try clear c17
                        try clear c20
                        try clear c26
                        try clear c27
                        try clear c32
                        try clear c33
                        try clear c34
                        try clear c38
                        try clear c39
                        try clear c39b0
                        try clear c39b1
                        try clear c40
                        try clear c41
                        try clear c42
                        try clear c44
                        try clear c45
                        try clear c48
                        try clear c49
                        try clear c50
                        try clear c52
                        try clear c53
                        try clear c56
                        try clear c57
                        try clear c58
                        try clear c60
                        try clear c61
                        try clear c64
                        try clear p64
                        try clear c67
                        try clear c74
                        try clear c75
                        try clear c76
                        try clear c79
                        try clear c79b0
                        try clear c81
                        try clear c82
                        try clear c82b0
                        try clear c82b1
                        try clear c83
                        try clear c84
                        try clear c85
                        try clear c87
                        try clear c88
                        try clear c91
                        try clear c92
                        try clear c93
                        try clear c95
                        try clear c96
                        try clear c99
                        try clear c100
                        try clear c101
                        try clear c103
                        try clear c104
                        try clear c107
                        try clear c110
                        try clear c110b0
                        try clear c111
                        try clear c112
                        try clear c113
                        try clear c118
                        try clear c118b0
                        try clear c118b1
                        try clear c122
                        try clear c123
                        try clear c124
                        try clear c129
                        try clear c130
                        try clear c136
                        try clear c137
                        try clear c138
                        try clear c139
                        try clear c143
                        try clear c144
                        try clear c144b0
                        try clear c144b1
                        try clear c145
                        try clear c146
                        try clear c147
                        try clear c148
                        try clear c150
                        try clear c151
                        try clear c152
                        try clear c155
                        try clear c156
                        try clear c157
                        try clear c158
                        try clear c160
                        try clear c161
                        try clear c162
                        try clear c165
                        try clear c166
                        try clear c167
                        try clear c168
                        try clear c170
                        try clear c171
                        try clear c172
                        try clear hcz102_0
                        try clear hcz102_1
                        try clear hcz102_2
                        try clear hcz105_0
                        try clear hcz105_1
                        try clear hcz105_2
                        try clear hcz114_0
                        try clear hcz114_1
                        try clear hcz114_2
                        try clear hcz116_0
                        try clear hcz116_1
                        try clear hcz116_2
                        try clear hcz125_0
                        try clear hcz125_1
                        try clear hcz125_2
                        try clear hcz127_0
                        try clear hcz127_1
                        try clear hcz127_2
                        try clear hcz131_0
                        try clear hcz131_1
                        try clear hcz131_2
                        try clear hcz13_0
                        try clear hcz13_1
                        try clear hcz13_2
                        try clear hcz140_0
                        try clear hcz140_1
                        try clear hcz140_2
                        try clear hcz149_0
                        try clear hcz149_1
                        try clear hcz149_2
                        try clear hcz153_0
                        try clear hcz153_1
                        try clear hcz153_2
                        try clear hcz159_0
                        try clear hcz159_1
                        try clear hcz159_2
                        try clear hcz15_0
                        try clear hcz15_1
                        try clear hcz15_2
                        try clear hcz163_0
                        try clear hcz163_1
                        try clear hcz163_2
                        try clear hcz169_0
                        try clear hcz169_1
                        try clear hcz169_2
                        try clear hcz173_0
                        try clear hcz173_1
                        try clear hcz173_2
                        try clear hcz21_0
                        try clear hcz21_1
                        try clear hcz21_2
                        try clear hcz23_0
                        try clear hcz23_1
                        try clear hcz23_2
                        try clear hcz28_0
                        try clear hcz28_1
                        try clear hcz28_2
                        try clear hcz35_0
                        try clear hcz35_1
                        try clear hcz35_2
                        try clear hcz43_0
                        try clear hcz43_1
                        try clear hcz43_2
                        try clear hcz46_0
                        try clear hcz46_1
                        try clear hcz46_2
                        try clear hcz51_0
                        try clear hcz51_1
                        try clear hcz51_2
                        try clear hcz54_0
                        try clear hcz54_1
                        try clear hcz54_2
                        try clear hcz59_0
                        try clear hcz59_1
                        try clear hcz59_2
                        try clear hcz5_0
                        try clear hcz5_1
                        try clear hcz5_2
                        try clear hcz62_0
                        try clear hcz62_1
                        try clear hcz62_2
                        try clear hcz77_0
                        try clear hcz77_1
                        try clear hcz77_2
                        try clear hcz86_0
                        try clear hcz86_1
                        try clear hcz86_2
                        try clear hcz89_0
                        try clear hcz89_1
                        try clear hcz89_2
                        try clear hcz94_0
                        try clear hcz94_1
                        try clear hcz94_2
                        try clear hcz97_0
                        try clear hcz97_1
                        try clear hcz97_2
                        try clear hfz102_0
                        try clear hfz102_1
                        try clear hfz102_2
                        try clear hfz105_0
                        try clear hfz105_1
                        try clear hfz105_2
                        try clear hfz114_0
                        try clear hfz114_1
                        try clear hfz114_2
                        try clear hfz116_0
                        try clear hfz116_1
                        try clear hfz116_2
                        try clear hfz125_0
                        try clear hfz125_1
                        try clear hfz125_2
                        try clear hfz127_0
                        try clear hfz127_1
                        try clear hfz127_2
                        try clear hfz131_0
                        try clear hfz131_1
                        try clear hfz131_2
                        try clear hfz13_0
                        try clear hfz13_1
                        try clear hfz13_2
                        try clear hfz140_0
                        try clear hfz140_1
                        try clear hfz140_2
                        try clear hfz149_0
                        try clear hfz149_1
                        try clear hfz149_2
                        try clear hfz153_0
                        try clear hfz153_1
                        try clear hfz153_2
                        try clear hfz159_0
                        try clear hfz159_1
                        try clear hfz159_2
                        try clear hfz15_0
                        try clear hfz15_1
                        try clear hfz15_2
                        try clear hfz163_0
                        try clear hfz163_1
                        try clear hfz163_2
                        try clear hfz169_0
                        try clear hfz169_1
                        try clear hfz169_2
                        try clear hfz173_0
                        try clear hfz173_1
                        try clear hfz173_2
                        try clear hfz21_0
                        try clear hfz21_1
                        try clear hfz21_2
                        try clear hfz23_0
                        try clear hfz23_1
                        try clear hfz23_2
                        try clear hfz28_0
                        try clear hfz28_1
                        try clear hfz28_2
                        try clear hfz35_0
                        try clear hfz35_1
                        try clear hfz35_2
                        try clear hfz43_0
                        try clear hfz43_1
                        try clear hfz43_2
                        try clear hfz46_0
                        try clear hfz46_1
                        try clear hfz46_2
                        try clear hfz51_0
                        try clear hfz51_1
                        try clear hfz51_2
                        try clear hfz54_0
                        try clear hfz54_1
                        try clear hfz54_2
                        try clear hfz59_0
                        try clear hfz59_1
                        try clear hfz59_2
                        try clear hfz5_0
                        try clear hfz5_1
                        try clear hfz5_2
                        try clear hfz62_0
                        try clear hfz62_1
                        try clear hfz62_2
                        try clear hfz77_0
                        try clear hfz77_1
                        try clear hfz77_2
                        try clear hfz86_0
                        try clear hfz86_1
                        try clear hfz86_2
                        try clear hfz89_0
                        try clear hfz89_1
                        try clear hfz89_2
                        try clear hfz94_0
                        try clear hfz94_1
                        try clear hfz94_2
                        try clear hfz97_0
                        try clear hfz97_1
                        try clear hfz97_2
                        try clear p2
                        try clear p6
                        try clear p64
                        obtain ⟨kq, x108_120, rfl, HA, HJ120, HO_377002, HO_383002, HO_391002, HO_417002, BK362, BK376, BK382, BK390, BK416, HB⟩ := hcut
                        have hl391002_120 := (Kd.R_reads' HO_391002.out).1
                        rw [hl391002_120] at HO_391002
                        (try simp only [hl391002_120])
                        (try simp only [hl391002_120] at BK362)
                        (try simp only [hl391002_120] at BK376)
                        (try simp only [hl391002_120] at BK382)
                        (try simp only [hl391002_120] at BK390)
                        (try simp only [hl391002_120] at BK416)
                        (try simp only [hl391002_120] at HO_377002)
                        (try simp only [hl391002_120] at HO_383002)
                        (try simp only [hl391002_120] at HO_417002)
                        cases kq with
                        | zero => exact absurd HA.out (by simp [laws_FnExactSettleRow.j2])
                        | succ kj120 =>
                          have H := HA.out
                          clear HA
                          simp only [laws_FnExactSettleRow.j2] at H
                          by_cases c175 : x108_120 = true
                          · subst c175
                            have H1 : (some false) = some r := by rw [if_pos rfl] at H; exact H
                            clear H
                            have H := H1
                            clear H1
                            obtain rfl := Option.some.inj H
                            go_wp2
                            go_ret
                            exact ⟨by first | rfl | (simp [errW_none, errW_some] <;> rfl) | (simp [*, errW_none, errW_some] <;> rfl), by repeat (first | (with_reducible first | exact HB.out | apply below_alloc | apply pw_below_drewN | apply below_drew1 | refine below_set ?_ GE362.out | refine below_set ?_ GE376.out | refine below_set ?_ GE382.out | refine below_set ?_ GE390.out | refine below_set ?_ GE416.out) | exact HB.out)⟩
                          · replace c175 := Bool.eq_false_iff.mpr c175
                            subst c175
                            have H1 : ((laws_heldRow.f kj120 t383 t384 t402 1).bind fun t418 => (if t418 < 0 then (some false) else (if t418 = t401 then (some true) else (some false)))) = some r := by rw [if_neg (show ¬ (false = true) by decide)] at H; exact H
                            clear H
                            have H := H1
                            clear H1
                            replace H := Option.bind_eq_some_iff.mp H
                            obtain ⟨t418, A1760, H⟩ := H
                            replace H : (if t418 < 0 then (some false) else (if t418 = t401 then (some true) else (some false))) = some r := H
                            have A176 := Aside0.mk A1760
                            clear A1760
                            by_cases c177 : t418 < 0
                            · rw [if_pos c177] at H
                              have c177b0 : decide (t418 < 0) = true := decide_eq_true c177
                              clear c177
                              obtain rfl := Option.some.inj H
                              have hnb178 := NB390_362.out
                              have hnc178 := NB362_390.out
                              have hnb179 := NB390_376.out
                              have hnc179 := NB376_390.out
                              have hnb180 := NB390_382.out
                              have hnc180 := NB382_390.out
                              have hnb181 := NB390_416.out
                              have hnc181 := NB416_390.out
                              have hcz182_0 : wc.cell? ⟨gb390, 0, none⟩ = some (.int .i64 t383) := (blk_cell BK390.out 0).trans rfl
                              have hcz182_1 : wc.cell? ⟨gb390, 1, none⟩ = some (.bool t384) := (blk_cell BK390.out 1).trans rfl
                              have hcz182_2 : wc.cell? ⟨gb390, 2, none⟩ = some (.slice Ao36 t402.length co36) := (blk_cell BK390.out 2).trans rfl
                              have hfz182_0 := blk_frozen BK390.out 0
                              have hfz182_1 := blk_frozen BK390.out 1
                              have hfz182_2 := blk_frozen BK390.out 2
                              go_wp2_with (first | ((with_reducible refine gate_callee (f := 14) rfl ?_); refine goesL_ (some 111) rfl rfl Tryd.func14 (by kernel_rfl) rfl #[.agg #[.int .i64 t383, .bool t384, .slice Ao36 t402.length co36], .int .i64 1] rfl (by (try simp only [List.map_toArray, List.map_cons, List.map_nil]); first | done | rfl | (simp only [List.length_drop, List.length_take]; rfl)) ?_; (with_reducible refine (laws_heldRow.calls kj120 t383 t384 _ _ t402 1 t418 _ ?side1 ?side2 A176.out).mono ?_); (case side1 => repeat (first | exact (Kd.R_reads' HO_391002.out).2.2 | (with_reducible refine Kd.C_alloc ?_ _) | (with_reducible refine Kd.C_drewN ?_ _) | (with_reducible refine Kd.C_drew ?_))); (case side2 => exact (Kd.R_reads' HO_391002.out).2.1); rintro e w183 ⟨rfl, hb⟩; refine ⟨_, rfl, ?_⟩; have n0_ := Aside0.mk (Kd.V_below (by (with_reducible repeat (first | apply Kd.V_alloc | apply Kd.V_drewN | apply Kd.V_drew)); exact HO_377002.out) hb); have n1_ := Aside0.mk (Kd.R_below (by (with_reducible repeat (first | apply Kd.R_alloc | apply Kd.R_drewN | apply Kd.R_drew)); exact HO_383002.out) hb); have n2_ := Aside0.mk (Kd.R_below (by (with_reducible repeat (first | apply Kd.R_alloc | apply Kd.R_drewN | apply Kd.R_drew)); exact HO_391002.out) hb); have n3_ := Aside0.mk (Kd.R_below (by (with_reducible repeat (first | apply Kd.R_alloc | apply Kd.R_drewN | apply Kd.R_drew)); exact HO_417002.out) hb); have n4_ := Aside0.mk (blk_below (g := gb362) (o := .cells #[.int .i64 a0_0, .bool a0_1, .slice A0_2 l0_2.length c0_2] 24 (0, 0)) (by (with_reducible repeat (first | refine blk_drewN ?_ _ | refine blk_drew ?_ | refine blk_alloc ?_ _)); exact BK362.out) hb); have n5_ := Aside0.mk (blk_below (g := gb376) (o := .cells #[.int .i64 t369, .bool t370, .slice Ao22 t371.length co22] 26 (0, 0)) (by (with_reducible repeat (first | refine blk_drewN ?_ _ | refine blk_drew ?_ | refine blk_alloc ?_ _)); exact BK376.out) hb); have n6_ := Aside0.mk (blk_below (g := gb382) (o := .cells #[.int .i64 t377, .bool t378, .slice Ao29 t399.length co29] 26 (0, 0)) (by (with_reducible repeat (first | refine blk_drewN ?_ _ | refine blk_drew ?_ | refine blk_alloc ?_ _)); exact BK382.out) hb); have n7_ := Aside0.mk (blk_below (g := gb390) (o := .cells #[.int .i64 t383, .bool t384, .slice Ao36 t402.length co36] 26 (0, 0)) (by (with_reducible repeat (first | refine blk_drewN ?_ _ | refine blk_drew ?_ | refine blk_alloc ?_ _)); exact BK390.out) hb); have n8_ := Aside0.mk (blk_below (g := gb416) (o := .cells #[.int .i64 t409, .bool t410, .slice Ao141 t411.length co141] 26 (0, 0)) (by (with_reducible repeat (first | refine blk_drewN ?_ _ | refine blk_drew ?_ | refine blk_alloc ?_ _)); exact BK416.out) hb); have n9_ := Aside0.mk (below_step (by repeat (first | (with_reducible first | exact HB.out | apply below_alloc | apply pw_below_drewN | apply below_drew1 | refine below_set ?_ GE362.out | refine below_set ?_ GE376.out | refine below_set ?_ GE382.out | refine below_set ?_ GE390.out | refine below_set ?_ GE416.out) | exact HB.out)) hb); clear HO_377002; clear HO_383002; clear HO_391002; clear HO_417002; clear BK362; clear BK376; clear BK382; clear BK390; clear BK416; clear HB; have HO_377002 := n0_; have HO_383002 := n1_; have HO_391002 := n2_; have HO_417002 := n3_; have BK362 := n4_; have BK376 := n5_; have BK382 := n6_; have BK390 := n7_; have BK416 := n8_; have HB := n9_; clear n0_ n1_ n2_ n3_ n4_ n5_ n6_ n7_ n8_ n9_; (try clear hb); (try clear hb2); (try clear hk); (try clear hi)))
                              go_ret
                              exact ⟨by first | rfl | (simp [errW_none, errW_some] <;> rfl) | (simp [*, errW_none, errW_some] <;> rfl), by repeat (first | (with_reducible first | exact HB.out | apply below_alloc | apply pw_below_drewN | apply below_drew1 | refine below_set ?_ GE362.out | refine below_set ?_ GE376.out | refine below_set ?_ GE382.out | refine below_set ?_ GE390.out | refine below_set ?_ GE416.out) | exact HB.out)⟩
                            · rw [if_neg c177] at H
                              have c177b0 : decide (t418 < 0) = false := decide_eq_false c177
                              clear c177
                              by_cases c184 : t418 = t401
                              · rw [if_pos c184] at H
                                have c184b0 : (t418 == t401) = true := beq_iff_eq.mpr c184
                                have c184b1 : (t418 != t401) = false := bne_eq_false_iff_eq.mpr c184
                                clear c184
                                obtain rfl := Option.some.inj H
                                have hnb185 := NB390_362.out
                                have hnc185 := NB362_390.out
                                have hnb186 := NB390_376.out
                                have hnc186 := NB376_390.out
                                have hnb187 := NB390_382.out
                                have hnc187 := NB382_390.out
                                have hnb188 := NB390_416.out
                                have hnc188 := NB416_390.out
                                have hcz189_0 : wc.cell? ⟨gb390, 0, none⟩ = some (.int .i64 t383) := (blk_cell BK390.out 0).trans rfl
                                have hcz189_1 : wc.cell? ⟨gb390, 1, none⟩ = some (.bool t384) := (blk_cell BK390.out 1).trans rfl
                                have hcz189_2 : wc.cell? ⟨gb390, 2, none⟩ = some (.slice Ao36 t402.length co36) := (blk_cell BK390.out 2).trans rfl
                                have hfz189_0 := blk_frozen BK390.out 0
                                have hfz189_1 := blk_frozen BK390.out 1
                                have hfz189_2 := blk_frozen BK390.out 2
                                go_wp2_with (first | ((with_reducible refine gate_callee (f := 14) rfl ?_); refine goesL_ (some 111) rfl rfl Tryd.func14 (by kernel_rfl) rfl #[.agg #[.int .i64 t383, .bool t384, .slice Ao36 t402.length co36], .int .i64 1] rfl (by (try simp only [List.map_toArray, List.map_cons, List.map_nil]); first | done | rfl | (simp only [List.length_drop, List.length_take]; rfl)) ?_; (with_reducible refine (laws_heldRow.calls kj120 t383 t384 _ _ t402 1 t418 _ ?side1 ?side2 A176.out).mono ?_); (case side1 => repeat (first | exact (Kd.R_reads' HO_391002.out).2.2 | (with_reducible refine Kd.C_alloc ?_ _) | (with_reducible refine Kd.C_drewN ?_ _) | (with_reducible refine Kd.C_drew ?_))); (case side2 => exact (Kd.R_reads' HO_391002.out).2.1); rintro e w190 ⟨rfl, hb⟩; refine ⟨_, rfl, ?_⟩; have n0_ := Aside0.mk (Kd.V_below (by (with_reducible repeat (first | apply Kd.V_alloc | apply Kd.V_drewN | apply Kd.V_drew)); exact HO_377002.out) hb); have n1_ := Aside0.mk (Kd.R_below (by (with_reducible repeat (first | apply Kd.R_alloc | apply Kd.R_drewN | apply Kd.R_drew)); exact HO_383002.out) hb); have n2_ := Aside0.mk (Kd.R_below (by (with_reducible repeat (first | apply Kd.R_alloc | apply Kd.R_drewN | apply Kd.R_drew)); exact HO_391002.out) hb); have n3_ := Aside0.mk (Kd.R_below (by (with_reducible repeat (first | apply Kd.R_alloc | apply Kd.R_drewN | apply Kd.R_drew)); exact HO_417002.out) hb); have n4_ := Aside0.mk (blk_below (g := gb362) (o := .cells #[.int .i64 a0_0, .bool a0_1, .slice A0_2 l0_2.length c0_2] 24 (0, 0)) (by (with_reducible repeat (first | refine blk_drewN ?_ _ | refine blk_drew ?_ | refine blk_alloc ?_ _)); exact BK362.out) hb); have n5_ := Aside0.mk (blk_below (g := gb376) (o := .cells #[.int .i64 t369, .bool t370, .slice Ao22 t371.length co22] 26 (0, 0)) (by (with_reducible repeat (first | refine blk_drewN ?_ _ | refine blk_drew ?_ | refine blk_alloc ?_ _)); exact BK376.out) hb); have n6_ := Aside0.mk (blk_below (g := gb382) (o := .cells #[.int .i64 t377, .bool t378, .slice Ao29 t399.length co29] 26 (0, 0)) (by (with_reducible repeat (first | refine blk_drewN ?_ _ | refine blk_drew ?_ | refine blk_alloc ?_ _)); exact BK382.out) hb); have n7_ := Aside0.mk (blk_below (g := gb390) (o := .cells #[.int .i64 t383, .bool t384, .slice Ao36 t402.length co36] 26 (0, 0)) (by (with_reducible repeat (first | refine blk_drewN ?_ _ | refine blk_drew ?_ | refine blk_alloc ?_ _)); exact BK390.out) hb); have n8_ := Aside0.mk (blk_below (g := gb416) (o := .cells #[.int .i64 t409, .bool t410, .slice Ao141 t411.length co141] 26 (0, 0)) (by (with_reducible repeat (first | refine blk_drewN ?_ _ | refine blk_drew ?_ | refine blk_alloc ?_ _)); exact BK416.out) hb); have n9_ := Aside0.mk (below_step (by repeat (first | (with_reducible first | exact HB.out | apply below_alloc | apply pw_below_drewN | apply below_drew1 | refine below_set ?_ GE362.out | refine below_set ?_ GE376.out | refine below_set ?_ GE382.out | refine below_set ?_ GE390.out | refine below_set ?_ GE416.out) | exact HB.out)) hb); clear HO_377002; clear HO_383002; clear HO_391002; clear HO_417002; clear BK362; clear BK376; clear BK382; clear BK390; clear BK416; clear HB; have HO_377002 := n0_; have HO_383002 := n1_; have HO_391002 := n2_; have HO_417002 := n3_; have BK362 := n4_; have BK376 := n5_; have BK382 := n6_; have BK390 := n7_; have BK416 := n8_; have HB := n9_; clear n0_ n1_ n2_ n3_ n4_ n5_ n6_ n7_ n8_ n9_; (try clear hb); (try clear hb2); (try clear hk); (try clear hi)))
                                go_ret
                                exact ⟨by first | rfl | (simp [errW_none, errW_some] <;> rfl) | (simp [*, errW_none, errW_some] <;> rfl), by repeat (first | (with_reducible first | exact HB.out | apply below_alloc | apply pw_below_drewN | apply below_drew1 | refine below_set ?_ GE362.out | refine below_set ?_ GE376.out | refine below_set ?_ GE382.out | refine below_set ?_ GE390.out | refine below_set ?_ GE416.out) | exact HB.out)⟩
                              · rw [if_neg c184] at H
                                have c184b0 : (t418 == t401) = false := beq_eq_false_iff_ne.mpr c184
                                have c184b1 : (t418 != t401) = true := bne_iff_ne.mpr c184
                                obtain rfl := Option.some.inj H
                                have hnb191 := NB390_362.out
                                have hnc191 := NB362_390.out
                                have hnb192 := NB390_376.out
                                have hnc192 := NB376_390.out
                                have hnb193 := NB390_382.out
                                have hnc193 := NB382_390.out
                                have hnb194 := NB390_416.out
                                have hnc194 := NB416_390.out
                                have hcz195_0 : wc.cell? ⟨gb390, 0, none⟩ = some (.int .i64 t383) := (blk_cell BK390.out 0).trans rfl
                                have hcz195_1 : wc.cell? ⟨gb390, 1, none⟩ = some (.bool t384) := (blk_cell BK390.out 1).trans rfl
                                have hcz195_2 : wc.cell? ⟨gb390, 2, none⟩ = some (.slice Ao36 t402.length co36) := (blk_cell BK390.out 2).trans rfl
                                have hfz195_0 := blk_frozen BK390.out 0
                                have hfz195_1 := blk_frozen BK390.out 1
                                have hfz195_2 := blk_frozen BK390.out 2
                                go_wp2_with (first | ((with_reducible refine gate_callee (f := 14) rfl ?_); refine goesL_ (some 111) rfl rfl Tryd.func14 (by kernel_rfl) rfl #[.agg #[.int .i64 t383, .bool t384, .slice Ao36 t402.length co36], .int .i64 1] rfl (by (try simp only [List.map_toArray, List.map_cons, List.map_nil]); first | done | rfl | (simp only [List.length_drop, List.length_take]; rfl)) ?_; (with_reducible refine (laws_heldRow.calls kj120 t383 t384 _ _ t402 1 t418 _ ?side1 ?side2 A176.out).mono ?_); (case side1 => repeat (first | exact (Kd.R_reads' HO_391002.out).2.2 | (with_reducible refine Kd.C_alloc ?_ _) | (with_reducible refine Kd.C_drewN ?_ _) | (with_reducible refine Kd.C_drew ?_))); (case side2 => exact (Kd.R_reads' HO_391002.out).2.1); rintro e w196 ⟨rfl, hb⟩; refine ⟨_, rfl, ?_⟩; have n0_ := Aside0.mk (Kd.V_below (by (with_reducible repeat (first | apply Kd.V_alloc | apply Kd.V_drewN | apply Kd.V_drew)); exact HO_377002.out) hb); have n1_ := Aside0.mk (Kd.R_below (by (with_reducible repeat (first | apply Kd.R_alloc | apply Kd.R_drewN | apply Kd.R_drew)); exact HO_383002.out) hb); have n2_ := Aside0.mk (Kd.R_below (by (with_reducible repeat (first | apply Kd.R_alloc | apply Kd.R_drewN | apply Kd.R_drew)); exact HO_391002.out) hb); have n3_ := Aside0.mk (Kd.R_below (by (with_reducible repeat (first | apply Kd.R_alloc | apply Kd.R_drewN | apply Kd.R_drew)); exact HO_417002.out) hb); have n4_ := Aside0.mk (blk_below (g := gb362) (o := .cells #[.int .i64 a0_0, .bool a0_1, .slice A0_2 l0_2.length c0_2] 24 (0, 0)) (by (with_reducible repeat (first | refine blk_drewN ?_ _ | refine blk_drew ?_ | refine blk_alloc ?_ _)); exact BK362.out) hb); have n5_ := Aside0.mk (blk_below (g := gb376) (o := .cells #[.int .i64 t369, .bool t370, .slice Ao22 t371.length co22] 26 (0, 0)) (by (with_reducible repeat (first | refine blk_drewN ?_ _ | refine blk_drew ?_ | refine blk_alloc ?_ _)); exact BK376.out) hb); have n6_ := Aside0.mk (blk_below (g := gb382) (o := .cells #[.int .i64 t377, .bool t378, .slice Ao29 t399.length co29] 26 (0, 0)) (by (with_reducible repeat (first | refine blk_drewN ?_ _ | refine blk_drew ?_ | refine blk_alloc ?_ _)); exact BK382.out) hb); have n7_ := Aside0.mk (blk_below (g := gb390) (o := .cells #[.int .i64 t383, .bool t384, .slice Ao36 t402.length co36] 26 (0, 0)) (by (with_reducible repeat (first | refine blk_drewN ?_ _ | refine blk_drew ?_ | refine blk_alloc ?_ _)); exact BK390.out) hb); have n8_ := Aside0.mk (blk_below (g := gb416) (o := .cells #[.int .i64 t409, .bool t410, .slice Ao141 t411.length co141] 26 (0, 0)) (by (with_reducible repeat (first | refine blk_drewN ?_ _ | refine blk_drew ?_ | refine blk_alloc ?_ _)); exact BK416.out) hb); have n9_ := Aside0.mk (below_step (by repeat (first | (with_reducible first | exact HB.out | apply below_alloc | apply pw_below_drewN | apply below_drew1 | refine below_set ?_ GE362.out | refine below_set ?_ GE376.out | refine below_set ?_ GE382.out | refine below_set ?_ GE390.out | refine below_set ?_ GE416.out) | exact HB.out)) hb); clear HO_377002; clear HO_383002; clear HO_391002; clear HO_417002; clear BK362; clear BK376; clear BK382; clear BK390; clear BK416; clear HB; have HO_377002 := n0_; have HO_383002 := n1_; have HO_391002 := n2_; have HO_417002 := n3_; have BK362 := n4_; have BK376 := n5_; have BK382 := n6_; have BK390 := n7_; have BK416 := n8_; have HB := n9_; clear n0_ n1_ n2_ n3_ n4_ n5_ n6_ n7_ n8_ n9_; (try clear hb); (try clear hb2); (try clear hk); (try clear hi)))
                                go_ret
                                exact ⟨by first | rfl | (simp [errW_none, errW_some] <;> rfl) | (simp [*, errW_none, errW_some] <;> rfl), by repeat (first | (with_reducible first | exact HB.out | apply below_alloc | apply pw_below_drewN | apply below_drew1 | refine below_set ?_ GE362.out | refine below_set ?_ GE376.out | refine below_set ?_ GE382.out | refine below_set ?_ GE390.out | refine below_set ?_ GE416.out) | exact HB.out)⟩
                    · rw [if_neg c118] at H
                      have c118b0 : (t403 == t401) = false := beq_eq_false_iff_ne.mpr c118
                      have c118b1 : (t403 != t401) = true := bne_iff_ne.mpr c118
                      obtain rfl := Option.some.inj H
                      have hnb197 := NB390_362.out
                      have hnc197 := NB362_390.out
                      have hnb198 := NB390_376.out
                      have hnc198 := NB376_390.out
                      have hnb199 := NB390_382.out
                      have hnc199 := NB382_390.out
                      have hcz200_0 : wc.cell? ⟨gb390, 0, none⟩ = some (.int .i64 t383) := (blk_cell BK390.out 0).trans rfl
                      have hcz200_1 : wc.cell? ⟨gb390, 1, none⟩ = some (.bool t384) := (blk_cell BK390.out 1).trans rfl
                      have hcz200_2 : wc.cell? ⟨gb390, 2, none⟩ = some (.slice Ao36 t385.length co36) := (blk_cell BK390.out 2).trans rfl
                      have hfz200_0 := blk_frozen BK390.out 0
                      have hfz200_1 := blk_frozen BK390.out 1
                      have hfz200_2 := blk_frozen BK390.out 2
                      go_wp2_with (first | ((with_reducible refine gate_callee (f := 13) rfl ?_); refine goesL_ (some 79) rfl rfl Tryd.func13 (by kernel_rfl) rfl #[.agg #[.int .i64 t383, .bool t384, .slice Ao36 t385.length co36], .int .i64 1] rfl (by (try simp only [List.map_toArray, List.map_cons, List.map_nil]); first | done | rfl | (simp only [List.length_drop, List.length_take]; rfl)) ?_; (with_reducible refine (laws_markRow.calls kj68 t383 t384 (fun k_ => some k_ = (.slice Ao36 t385.length co36 : Value).ownBlock) (.slice Ao36 t385.length co36) t385 1 t401 t402 w _ ?side1 ?side2 A108.out).mono ?_); (case side1 => repeat (first | (with_reducible first | exact HB.out | apply below_alloc | apply pw_below_drewN | apply below_drew1 | refine below_set ?_ GE362.out | refine below_set ?_ GE376.out | refine below_set ?_ GE382.out | refine below_set ?_ GE390.out) | exact HB.out)); (case side2 => exact Kd.R_tight rfl HO_391002.out); rintro e w201 ⟨rfl, hy0, hb, hkp⟩; refine ⟨_, rfl, ?_⟩; have n0_ := Aside0.mk (Kd.V_mono (ok' := fun k_ => some k_ ≠ (.slice Ao29 t399.length co29 : Value).ownBlock ∧ some k_ ≠ (.slice Ao36 t385.length co36 : Value).ownBlock ∧ k_ ≠ gb362 ∧ k_ ≠ gb376 ∧ k_ ≠ gb382 ∧ k_ ≠ gb390) (Kd.V_keptB (HO_377002.out) hkp (fun k_ hk_ hs_ => (hk_.2.1) hs_)) (fun k_ hk_ => ⟨hk_.1.1, hk_.1.2.1, hk_.1.2.2.1, hk_.1.2.2.2.1, hk_.1.2.2.2.2.1, hk_.1.2.2.2.2.2⟩)); have n1_ := Aside0.mk (Kd.R_mono (ok' := fun k_ => some k_ ≠ (.slice Ao36 t385.length co36 : Value).ownBlock) (Kd.R_keptB (HO_383002.out) hkp (fun k_ hk_ hs_ => (hk_) hs_)) (fun k_ hk_ => hk_.1)); have n2_ := Aside0.mk (Kd.R_reok rfl hy0 (fun k_ e_ => HO_391002.out.1 k_ e_)); have n3_ := Aside0.mk (blk_kept (by (with_reducible repeat (first | refine blk_drewN ?_ _ | refine blk_drew ?_ | refine blk_alloc ?_ _)); exact BK362.out) hkp (fun hs_ => (fun e_ => (Kd.R_ne HO_391002.out BK362.out (by decide)) e_) hs_)); have n4_ := Aside0.mk (blk_kept (by (with_reducible repeat (first | refine blk_drewN ?_ _ | refine blk_drew ?_ | refine blk_alloc ?_ _)); exact BK376.out) hkp (fun hs_ => (fun e_ => (Kd.R_ne HO_391002.out BK376.out (by decide)) e_) hs_)); have n5_ := Aside0.mk (blk_kept (by (with_reducible repeat (first | refine blk_drewN ?_ _ | refine blk_drew ?_ | refine blk_alloc ?_ _)); exact BK382.out) hkp (fun hs_ => (fun e_ => (Kd.R_ne HO_391002.out BK382.out (by decide)) e_) hs_)); have n6_ := Aside0.mk (blk_kept (by (with_reducible repeat (first | refine blk_drewN ?_ _ | refine blk_drew ?_ | refine blk_alloc ?_ _)); exact BK390.out) hkp (fun hs_ => (fun e_ => (Kd.R_ne HO_391002.out BK390.out (by decide)) e_) hs_)); have n7_ := Aside0.mk (hb); clear HO_377002; clear HO_383002; clear HO_391002; clear BK362; clear BK376; clear BK382; clear BK390; clear HB; have HO_377002 := n0_; have HO_383002 := n1_; have HO_391002 := n2_; have BK362 := n3_; have BK376 := n4_; have BK382 := n5_; have BK390 := n6_; have HB := n7_; clear n0_ n1_ n2_ n3_ n4_ n5_ n6_ n7_; (try clear hb); (try clear hkp); (try clear hy0); have hcz202_0 : w201.cell? ⟨gb390, 0, none⟩ = some (.int .i64 t383) := (blk_cell BK390.out 0).trans rfl; have hcz202_1 : w201.cell? ⟨gb390, 1, none⟩ = some (.bool t384) := (blk_cell BK390.out 1).trans rfl; have hcz202_2 : w201.cell? ⟨gb390, 2, none⟩ = some (.slice Ao36 t385.length co36) := (blk_cell BK390.out 2).trans rfl; have hfz202_0 := blk_frozen BK390.out 0; have hfz202_1 := blk_frozen BK390.out 1; have hfz202_2 := blk_frozen BK390.out 2) | ((with_reducible refine gate_callee (f := 14) rfl ?_); refine goesL_ (some 82) rfl rfl Tryd.func14 (by kernel_rfl) rfl #[.agg #[.int .i64 t383, .bool t384, .slice Ao36 t402.length co36], .int .i64 1] rfl (by (try simp only [List.map_toArray, List.map_cons, List.map_nil]); first | done | (rw [show t402.length = t385.length from (Kd.R_reads' HO_391002.out).1.symm] <;> rfl) | rfl | (simp only [List.length_drop, List.length_take]; rfl)) ?_; (with_reducible refine (laws_heldRow.calls kj68 t383 t384 _ _ t402 1 t403 _ ?side1 ?side2 A109.out).mono ?_); (case side1 => repeat (first | exact (Kd.R_reads' HO_391002.out).2.2 | (with_reducible refine Kd.C_alloc ?_ _) | (with_reducible refine Kd.C_drewN ?_ _) | (with_reducible refine Kd.C_drew ?_))); (case side2 => rw [show t402.length = t385.length from (Kd.R_reads' HO_391002.out).1.symm]; exact (Kd.R_reads' HO_391002.out).2.1); rintro e w203 ⟨rfl, hb⟩; refine ⟨_, rfl, ?_⟩; have n0_ := Aside0.mk (Kd.V_below (by (with_reducible repeat (first | apply Kd.V_alloc | apply Kd.V_drewN | apply Kd.V_drew)); exact HO_377002.out) hb); have n1_ := Aside0.mk (Kd.R_below (by (with_reducible repeat (first | apply Kd.R_alloc | apply Kd.R_drewN | apply Kd.R_drew)); exact HO_383002.out) hb); have n2_ := Aside0.mk (Kd.R_below (by (with_reducible repeat (first | apply Kd.R_alloc | apply Kd.R_drewN | apply Kd.R_drew)); exact HO_391002.out) hb); have n3_ := Aside0.mk (blk_below (g := gb362) (o := .cells #[.int .i64 a0_0, .bool a0_1, .slice A0_2 l0_2.length c0_2] 24 (0, 0)) (by (with_reducible repeat (first | refine blk_drewN ?_ _ | refine blk_drew ?_ | refine blk_alloc ?_ _)); exact BK362.out) hb); have n4_ := Aside0.mk (blk_below (g := gb376) (o := .cells #[.int .i64 t369, .bool t370, .slice Ao22 t371.length co22] 26 (0, 0)) (by (with_reducible repeat (first | refine blk_drewN ?_ _ | refine blk_drew ?_ | refine blk_alloc ?_ _)); exact BK376.out) hb); have n5_ := Aside0.mk (blk_below (g := gb382) (o := .cells #[.int .i64 t377, .bool t378, .slice Ao29 t399.length co29] 26 (0, 0)) (by (with_reducible repeat (first | refine blk_drewN ?_ _ | refine blk_drew ?_ | refine blk_alloc ?_ _)); exact BK382.out) hb); have n6_ := Aside0.mk (blk_below (g := gb390) (o := .cells #[.int .i64 t383, .bool t384, .slice Ao36 t385.length co36] 26 (0, 0)) (by (with_reducible repeat (first | refine blk_drewN ?_ _ | refine blk_drew ?_ | refine blk_alloc ?_ _)); exact BK390.out) hb); have n7_ := Aside0.mk (below_step (by repeat (first | (with_reducible first | exact HB.out | apply below_alloc | apply pw_below_drewN | apply below_drew1 | refine below_set ?_ GE362.out | refine below_set ?_ GE376.out | refine below_set ?_ GE382.out | refine below_set ?_ GE390.out) | exact HB.out)) hb); clear HO_377002; clear HO_383002; clear HO_391002; clear BK362; clear BK376; clear BK382; clear BK390; clear HB; have HO_377002 := n0_; have HO_383002 := n1_; have HO_391002 := n2_; have BK362 := n3_; have BK376 := n4_; have BK382 := n5_; have BK390 := n6_; have HB := n7_; clear n0_ n1_ n2_ n3_ n4_ n5_ n6_ n7_; (try clear hb); (try clear hb2); (try clear hk); (try clear hi)))
                      go_ret
                      exact ⟨by first | rfl | (simp [errW_none, errW_some] <;> rfl) | (simp [*, errW_none, errW_some] <;> rfl), by repeat (first | (with_reducible first | exact HB.out | apply below_alloc | apply pw_below_drewN | apply below_drew1 | refine below_set ?_ GE362.out | refine below_set ?_ GE376.out | refine below_set ?_ GE382.out | refine below_set ?_ GE390.out) | exact HB.out)⟩
          · replace c67 := Bool.eq_false_iff.mpr c67
            subst c67
            have H1 : (some false) = some r := by rw [if_neg (show ¬ (false = true) by decide)] at H; exact H
            clear H
            have H := H1
            clear H1
            obtain rfl := Option.some.inj H
            try go_wp2
            have n0_ := Aside0.mk (Kd.V_drew HO_377002.out)
            have n1_ := Aside0.mk (Kd.R_drew HO_383002.out)
            have n2_ := Aside0.mk (Kd.R_drew HO_391002.out)
            have n3_ := Aside0.mk (blk_drew BK362.out)
            have n4_ := Aside0.mk (blk_drew BK376.out)
            have n5_ := Aside0.mk (blk_drew BK382.out)
            have n6_ := Aside0.mk (blk_drew BK390.out)
            have n7_ := Aside0.mk (below_drew1 HB.out)
            clear HO_377002
            clear HO_383002
            clear HO_391002
            clear BK362
            clear BK376
            clear BK382
            clear BK390
            clear HB
            have HO_377002 := n0_
            have HO_383002 := n1_
            have HO_391002 := n2_
            have BK362 := n3_
            have BK376 := n4_
            have BK382 := n5_
            have BK390 := n6_
            have HB := n7_
            clear n0_ n1_ n2_ n3_ n4_ n5_ n6_ n7_
            refine start_ (n := 5) (S := fun w' => w'.cell? ⟨gb382, 0, none⟩ = some (.int .i64 t377) ∧ w'.cell? ⟨gb382, 1, none⟩ = some (.bool t378) ∧ w'.cell? ⟨gb382, 2, none⟩ = some (.slice Ao29 t379.length co29) ∧ w'.cell? ⟨gb362, 0, none⟩ = some (.int .i64 a0_0) ∧ w'.cell? ⟨gb362, 1, none⟩ = some (.bool a0_1) ∧ w'.cell? ⟨gb362, 2, none⟩ = some (.slice A0_2 l0_2.length c0_2)) (ds := []) #[false, false, false, false, false] (by kernel_rfl) rfl rfl ⟨(blk_cell BK382.out 0).trans rfl, (blk_cell BK382.out 1).trans rfl, (blk_cell BK382.out 2).trans rfl, (blk_cell BK362.out 0).trans rfl, (blk_cell BK362.out 1).trans rfl, (blk_cell BK362.out 2).trans rfl⟩ (fun hHeld => ?_)
            generalize wc.drew = w204 at HO_377002 HO_383002 HO_391002 BK362 BK376 BK382 BK390 HB hHeld ⊢
            refine take_ (i := 0) (N := some 51) (v := ?_) (a' := ?_) #[true, false, false, false, false] rfl rfl (by kernel_rfl) (fun _ _ _ h => h) (Or.inl ⟨by rfl, ?_⟩) hHeld ?_ ?_
            rotate_left
            · rintro w' ⟨s0, s1, s2, s3, s4, s5⟩
              go_simp
              with_reducible rfl
            rotate_left
            · simp only [Act.put, List.setIfInBounds_toArray, List.set_cons_zero, List.set_cons_succ, i64_w, i32_w]
              rfl
            refine take_ (i := 1) (N := some 52) (v := ?_) (a' := ?_) #[true, true, false, false, false] rfl rfl (by kernel_rfl) (fun _ _ _ h => h) (Or.inl ⟨by rfl, ?_⟩) hHeld ?_ ?_
            rotate_left
            · rintro w' ⟨s0, s1, s2, s3, s4, s5⟩
              go_simp
              with_reducible rfl
            rotate_left
            · simp only [Act.put, List.setIfInBounds_toArray, List.set_cons_zero, List.set_cons_succ, i64_w, i32_w]
              rfl
            refine one_ (i := 2) (N := some 53) #[true, true, true, false, false] rfl rfl (by kernel_rfl) (by decide) (fun K hK => ?_)
            refine goes_ Tryd.func10 (by kernel_rfl) rfl #[.agg #[.int .i64 a0_0, .bool a0_1, .slice A0_2 l0_2.length c0_2]] (by rfl) rfl rfl (by (try simp only [List.map_toArray, List.map_cons, List.map_nil]); first | done | rfl | (simp only [List.length_drop, List.length_take]; rfl)) ?_
            with_reducible refine (laws_toRow.calls kj10 a0_0 a0_1 _ _ l0_2 t392 t393 t394 _ ?side1 ?side2 A65.out).mono ?_
            (case side1 => repeat (first | exact (Kd.C_below HR0_2.out HB.out) | (with_reducible refine Kd.C_alloc ?_ _) | (with_reducible refine Kd.C_drewN ?_ _) | (with_reducible refine Kd.C_drew ?_)))
            (case side2 => exact HC0_2.out)
            rintro e w205 ⟨v395, rfl, ho0, hb⟩
            refine ⟨_, rfl, ?_⟩
            have n0_ := Aside0.mk (Kd.V_elder' (by (with_reducible repeat (first | apply Kd.V_alloc | apply Kd.V_drewN | apply Kd.V_drew)); exact HO_377002.out) (Kd.R_base ho0) hb)
            have n1_ := Aside0.mk (Kd.R_elder' (by (with_reducible repeat (first | apply Kd.R_alloc | apply Kd.R_drewN | apply Kd.R_drew)); exact HO_383002.out) (Kd.R_base ho0) hb)
            have n2_ := Aside0.mk (Kd.R_elder' (by (with_reducible repeat (first | apply Kd.R_alloc | apply Kd.R_drewN | apply Kd.R_drew)); exact HO_391002.out) (Kd.R_base ho0) hb)
            have n3_ := Aside0.mk (Kd.R_lower (Kd.R_new' (Kd.R_new' ho0 (Kd.R_lt (by (with_reducible repeat (first | apply Kd.R_alloc | apply Kd.R_drewN | apply Kd.R_drew)); exact HO_383002.out))) (Kd.R_lt (by (with_reducible repeat (first | apply Kd.R_alloc | apply Kd.R_drewN | apply Kd.R_drew)); exact HO_391002.out))) (below_size (by repeat (first | (with_reducible first | exact HB.out | apply below_alloc | apply pw_below_drewN | apply below_drew1 | refine below_set ?_ GE362.out | refine below_set ?_ GE376.out | refine below_set ?_ GE382.out | refine below_set ?_ GE390.out) | exact HB.out))))
            have n4_ := Aside0.mk (blk_below (g := gb362) (o := .cells #[.int .i64 a0_0, .bool a0_1, .slice A0_2 l0_2.length c0_2] 24 (0, 0)) (by (with_reducible repeat (first | refine blk_drewN ?_ _ | refine blk_drew ?_ | refine blk_alloc ?_ _)); exact BK362.out) hb)
            have n5_ := Aside0.mk (blk_below (g := gb376) (o := .cells #[.int .i64 t369, .bool t370, .slice Ao22 t371.length co22] 26 (0, 0)) (by (with_reducible repeat (first | refine blk_drewN ?_ _ | refine blk_drew ?_ | refine blk_alloc ?_ _)); exact BK376.out) hb)
            have n6_ := Aside0.mk (blk_below (g := gb382) (o := .cells #[.int .i64 t377, .bool t378, .slice Ao29 t379.length co29] 26 (0, 0)) (by (with_reducible repeat (first | refine blk_drewN ?_ _ | refine blk_drew ?_ | refine blk_alloc ?_ _)); exact BK382.out) hb)
            have n7_ := Aside0.mk (blk_below (g := gb390) (o := .cells #[.int .i64 t383, .bool t384, .slice Ao36 t385.length co36] 26 (0, 0)) (by (with_reducible repeat (first | refine blk_drewN ?_ _ | refine blk_drew ?_ | refine blk_alloc ?_ _)); exact BK390.out) hb)
            have n8_ := Aside0.mk (below_step (by repeat (first | (with_reducible first | exact HB.out | apply below_alloc | apply pw_below_drewN | apply below_drew1 | refine below_set ?_ GE362.out | refine below_set ?_ GE376.out | refine below_set ?_ GE382.out | refine below_set ?_ GE390.out) | exact HB.out)) hb)
            clear HO_377002
            clear HO_383002
            clear HO_391002
            clear BK362
            clear BK376
            clear BK382
            clear BK390
            clear HB
            have HO_377002 := n0_
            have HO_383002 := n1_
            have HO_391002 := n2_
            have HO396 := n3_
            have BK362 := n4_
            have BK376 := n5_
            have BK382 := n6_
            have BK390 := n7_
            have HB := n8_
            clear n0_ n1_ n2_ n3_ n4_ n5_ n6_ n7_ n8_
            (try clear hb)
            (try clear hb2)
            (try clear hk)
            (try clear hi)
            (try clear ho0)
            obtain ⟨Ao206, co206, eo206⟩ := Kd.R_slice HO396.out
            (first | subst eo206 | (injection eo206 with f1_ f2_ f3_; have f4_ := f1_.symm; have f5_ := f3_.symm; clear f1_ f2_ f3_; subst f4_; subst f5_))
            refine hK.out _ _ ⟨(blk_cell BK382.out 0).trans rfl, (blk_cell BK382.out 1).trans rfl, (blk_cell BK382.out 2).trans rfl, (blk_cell BK362.out 0).trans rfl, (blk_cell BK362.out 1).trans rfl, (blk_cell BK362.out 2).trans rfl⟩ (fun hHeld => ?_)
            clear hK K
            refine norm_ (a' := ?_) ?_ ?_
            rotate_left
            · show Act.put _ (some 53) _ = _
              simp only [Act.put, List.setIfInBounds_toArray, List.set_cons_zero, List.set_cons_succ, i64_w, i32_w]
              rfl
            refine one_ (i := 3) (N := some 54) #[true, true, true, true, false] rfl rfl (by kernel_rfl) (by decide) (fun K hK => ?_)
            refine goes_ Tryd.func12 (by kernel_rfl) rfl #[.agg #[.int .i64 t377, .bool t378, .slice Ao29 t379.length co29], .agg #[.int .i64 t392, .bool t393, .slice Ao206 t394.length co206]] (by rfl) rfl rfl (by (try simp only [List.map_toArray, List.map_cons, List.map_nil]); first | done | rfl | (simp only [List.length_drop, List.length_take]; rfl)) ?_
            with_reducible refine (laws_eqRow.calls kj10 t377 t378 _ _ t379 t392 t393 _ _ t394 false _ ?side1 ?side2 ?side3 ?side4 A66.out).mono ?_
            (case side1 => repeat (first | exact (Kd.R_reads' HO_383002.out).2.2 | (with_reducible refine Kd.C_alloc ?_ _) | (with_reducible refine Kd.C_drewN ?_ _) | (with_reducible refine Kd.C_drew ?_)))
            (case side2 => exact (Kd.R_reads' HO_383002.out).2.1)
            (case side3 => repeat (first | exact (Kd.R_reads' HO396.out).2.2 | (with_reducible refine Kd.C_alloc ?_ _) | (with_reducible refine Kd.C_drewN ?_ _) | (with_reducible refine Kd.C_drew ?_)))
            (case side4 => exact (Kd.R_reads' HO396.out).2.1)
            rintro e w207 ⟨rfl, hb⟩
            refine ⟨_, rfl, ?_⟩
            have n0_ := Aside0.mk (Kd.V_below (by (with_reducible repeat (first | apply Kd.V_alloc | apply Kd.V_drewN | apply Kd.V_drew)); exact HO_377002.out) hb)
            have n1_ := Aside0.mk (Kd.R_below (by (with_reducible repeat (first | apply Kd.R_alloc | apply Kd.R_drewN | apply Kd.R_drew)); exact HO_383002.out) hb)
            have n2_ := Aside0.mk (Kd.R_below (by (with_reducible repeat (first | apply Kd.R_alloc | apply Kd.R_drewN | apply Kd.R_drew)); exact HO_391002.out) hb)
            have n3_ := Aside0.mk (Kd.R_below (by (with_reducible repeat (first | apply Kd.R_alloc | apply Kd.R_drewN | apply Kd.R_drew)); exact HO396.out) hb)
            have n4_ := Aside0.mk (blk_below (g := gb362) (o := .cells #[.int .i64 a0_0, .bool a0_1, .slice A0_2 l0_2.length c0_2] 24 (0, 0)) (by (with_reducible repeat (first | refine blk_drewN ?_ _ | refine blk_drew ?_ | refine blk_alloc ?_ _)); exact BK362.out) hb)
            have n5_ := Aside0.mk (blk_below (g := gb376) (o := .cells #[.int .i64 t369, .bool t370, .slice Ao22 t371.length co22] 26 (0, 0)) (by (with_reducible repeat (first | refine blk_drewN ?_ _ | refine blk_drew ?_ | refine blk_alloc ?_ _)); exact BK376.out) hb)
            have n6_ := Aside0.mk (blk_below (g := gb382) (o := .cells #[.int .i64 t377, .bool t378, .slice Ao29 t379.length co29] 26 (0, 0)) (by (with_reducible repeat (first | refine blk_drewN ?_ _ | refine blk_drew ?_ | refine blk_alloc ?_ _)); exact BK382.out) hb)
            have n7_ := Aside0.mk (blk_below (g := gb390) (o := .cells #[.int .i64 t383, .bool t384, .slice Ao36 t385.length co36] 26 (0, 0)) (by (with_reducible repeat (first | refine blk_drewN ?_ _ | refine blk_drew ?_ | refine blk_alloc ?_ _)); exact BK390.out) hb)
            have n8_ := Aside0.mk (below_step (by repeat (first | (with_reducible first | exact HB.out | apply below_alloc | apply pw_below_drewN | apply below_drew1 | refine below_set ?_ GE362.out | refine below_set ?_ GE376.out | refine below_set ?_ GE382.out | refine below_set ?_ GE390.out) | exact HB.out)) hb)
            clear HO_377002
            clear HO_383002
            clear HO_391002
            clear HO396
            clear BK362
            clear BK376
            clear BK382
            clear BK390
            clear HB
            have HO_377002 := n0_
            have HO_383002 := n1_
            have HO_391002 := n2_
            have HO396 := n3_
            have BK362 := n4_
            have BK376 := n5_
            have BK382 := n6_
            have BK390 := n7_
            have HB := n8_
            clear n0_ n1_ n2_ n3_ n4_ n5_ n6_ n7_ n8_
            (try clear hb)
            (try clear hb2)
            (try clear hk)
            (try clear hi)
            refine hK.out _ _ ⟨(blk_cell BK382.out 0).trans rfl, (blk_cell BK382.out 1).trans rfl, (blk_cell BK382.out 2).trans rfl, (blk_cell BK362.out 0).trans rfl, (blk_cell BK362.out 1).trans rfl, (blk_cell BK362.out 2).trans rfl⟩ (fun hHeld => ?_)
            clear hK K
            refine norm_ (a' := ?_) ?_ ?_
            rotate_left
            · show Act.put _ (some 54) _ = _
              simp only [Act.put, List.setIfInBounds_toArray, List.set_cons_zero, List.set_cons_succ, i64_w, i32_w]
              rfl
            refine pure_ (i := 4) (N := some 55) (v := ?_) (a' := ?_) #[true, true, true, true, true] rfl rfl (by kernel_rfl) (fun _ _ _ h => h) (Or.inl ⟨by rfl, ?_⟩) ?_ ?_
            rotate_left
            · intro w'
              go_simp
              with_reducible rfl
            rotate_left
            · simp only [Act.put, List.setIfInBounds_toArray, List.set_cons_zero, List.set_cons_succ, i64_w, i32_w]
              rfl
            refine done_ (by kernel_rfl) ?_
            try go_wp2
            go_ret
            exact ⟨by first | rfl | (simp [errW_none, errW_some] <;> rfl) | (simp [*, errW_none, errW_some] <;> rfl), by repeat (first | (with_reducible first | exact HB.out | apply below_alloc | apply pw_below_drewN | apply below_drew1 | refine below_set ?_ GE362.out | refine below_set ?_ GE376.out | refine below_set ?_ GE382.out | refine below_set ?_ GE390.out) | exact HB.out)⟩

/-- THE ONE PURE STATEMENT of laws_FnExactSettleRow: yours. -/
def laws_FnExactSettleRow.Pure : Prop := ∀ (a0_0 : Int) (a0_1 : Bool) (l0_2 : List Int), (Lit.int .i64 a0_0).wf = true → l0_2.length ≤ maxLen → (∀ x ∈ l0_2, (Lit.int .i64 x).wf = true) → ∃ k, laws_FnExactSettleRow.f k a0_0 a0_1 l0_2 = some true
theorem laws_FnExactSettleRow.walk (P : laws_FnExactSettleRow.Pure) (a0_0 : Int) (a0_1 : Bool) (a0_2 : Option Addr) (len0_2 cap0_2 : Nat) (z0_2 : List Int) (w : World) (w0_0 : (Lit.int .i64 a0_0).wf = true) (w0_2 : (a0_2 = none ∧ len0_2 = 0 ∧ cap0_2 = 0 ∧ z0_2 = []) ∨ ∃ x, a0_2 = some x ∧ len0_2 ≤ cap0_2 ∧ cap0_2 ≤ maxLen ∧ z0_2.length = cap0_2 ∧ (∀ i, i < z0_2.length → w.cell? (x.add i) = some (.int .i64 (z0_2.getD i 0))) ∧ ∀ n ∈ z0_2, (Lit.int .i64 n).wf = true) (hT : XTab w) :
    Calls Tryd.prog 3 #[.agg #[.int .i64 a0_0, .bool a0_1, .slice a0_2 len0_2 cap0_2]] w fun e w' => e = .returned (.bool true) ∧ Below w.heap.size w w' := by
  obtain ⟨l0_2, rfl, hr0_2, hm0_2, hw0_2, hc0_2⟩ := ReadsInt.ofRowC w0_2
  obtain ⟨k, h⟩ := P a0_0 a0_1 l0_2 w0_0 hm0_2 hw0_2
  refine (laws_FnExactSettleRow.calls k a0_0 a0_1 _ _ l0_2 true w (Kd.C_of_reads (d := (0 : Int)) (h1 := fun _ => rfl) hr0_2) hc0_2 hT h).mono ?_
  rintro e w' ⟨rfl, hd⟩
  exact ⟨rfl, hd⟩

end Go.Proofs.YtjbegmeibbpnmaaDoor.PFnExactSettleRow
