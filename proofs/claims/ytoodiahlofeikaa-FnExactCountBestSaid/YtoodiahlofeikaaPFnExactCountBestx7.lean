/- Written by a program of this session (wip/xprint) out of Lean's own print of the given functions: each function as a plain Lean function, and the proof that the call answers it. -/
import Derived.Test.YtoodiahlofeikaaPFnExactCountBestx0
import Derived.Test.YtoodiahlofeikaaPFnExactCountBestx5
import Derived.Test.YtoodiahlofeikaaPFnExactCountBestx6
namespace Go.Proofs.Ytoodiahlofeikaa.PFnExactCountBest
open Go.RowKit Go.Proofs.YtoodiahlofeikaaW.PrintWords Go.Proofs.YtoodiahlofeikaaW.PrintLast Go.Proofs.YtoodiahlofeikaaW.PrintMore
attribute [local go_sem] max2_int min2_int max_two min_two max_three min_three max_four min_four   -- for this text's walks alone
set_option linter.unusedVariables false
set_option linter.unusedSimpArgs false

/-! ### impl_boarding_time: function 58 -/
def impl_boarding_time.f (l0_0 : List Int) (l0_1 : List Int) (l0_2 : List Int) (l0_3 : List (List Int)) : Option (Int) := some (wrap64 ((l0_3.length : Int) - 1))
set_option maxHeartbeats 8000000 in
set_option maxRecDepth 100000 in
theorem impl_boarding_time.calls (A0_0 : Option Addr) (c0_0 : Nat) (l0_0 : List Int) (A0_1 : Option Addr) (c0_1 : Nat) (l0_1 : List Int) (A0_2 : Option Addr) (c0_2 : Nat) (l0_2 : List Int) (A0_3 : Option Addr) (c0_3 : Nat) (l0_3 : List (List Int)) (r : Int) (w : World) (hr0_0 : Kd.C (Kd.int .i64) w A0_0 l0_0.length l0_0) (hc0_0 : l0_0.length ≤ c0_0) (hr0_1 : Kd.C (Kd.int .i64) w A0_1 l0_1.length l0_1) (hc0_1 : l0_1.length ≤ c0_1) (hr0_2 : Kd.C (Kd.int .i64) w A0_2 l0_2.length l0_2) (hc0_2 : l0_2.length ≤ c0_2) (hr0_3 : Kd.C (Kd.slice 3 (Kd.int .i64)) w A0_3 l0_3.length l0_3) (hc0_3 : l0_3.length ≤ c0_3) (h : impl_boarding_time.f l0_0 l0_1 l0_2 l0_3 = some r) :
    Calls Try.prog 58 #[.agg #[.slice A0_0 l0_0.length c0_0, .slice A0_1 l0_1.length c0_1, .slice A0_2 l0_2.length c0_2, .slice A0_3 l0_3.length c0_3]] w fun e w' => e = .returned (.int .i64 r) ∧ Below w.heap.size w w' := by
  have hu79 := Try.underlying79
  have HR0_0 := Aside0.mk hr0_0
  have HC0_0 := Aside0.mk hc0_0
  clear hr0_0 hc0_0
  have HR0_1 := Aside0.mk hr0_1
  have HC0_1 := Aside0.mk hc0_1
  clear hr0_1 hc0_1
  have HR0_2 := Aside0.mk hr0_2
  have HC0_2 := Aside0.mk hc0_2
  clear hr0_2 hc0_2
  have HR0_3 := Aside0.mk hr0_3
  have HC0_3 := Aside0.mk hc0_3
  clear hr0_3 hc0_3
  have HB := Aside0.mk (Below.refl w.heap.size w)
  have H : (some (wrap64 ((l0_3.length : Int) - 1))) = some r := h
  clear h
  obtain rfl := Option.some.inj H
  go_enter Try.func58, Try.ntmps58
  go_wp2_with (first | ((with_reducible refine gate_dst (N := 1) rfl ?_); refine box_event ?hg (N := 1) ?hd (cs := #[.slice A0_0 l0_0.length c0_0, .slice A0_1 l0_1.length c0_1, .slice A0_2 l0_2.length c0_2, .slice A0_3 l0_3.length c0_3]) (t := 79) ?hr ?_; (case hd => rfl); (case hg => rfl); (case hr => first | (go_simp; done) | (go_simp; rfl)); intro gb281 hg w2 hbox hb; have n0_ := Aside0.mk (below_step (by repeat (first | (with_reducible first | exact HB.out | apply below_alloc | apply pw_below_drewN | apply below_drew1) | exact HB.out)) hb); have n1_ := Aside0.mk (hbox); have n2_ := Aside0.mk ((by rw [hg]; exact (below_size (by repeat (first | (with_reducible first | exact HB.out | apply below_alloc | apply pw_below_drewN | apply below_drew1) | exact HB.out))) : w.heap.size ≤ gb281)); have n3_ := Aside0.mk ((by rw [hg]; exact (below_size (by repeat (first | (with_reducible first | exact HB.out | apply below_alloc | apply pw_below_drewN | apply below_drew1) | exact HB.out))) : w.heap.size ≤ gb281)); clear HB; have HB := n0_; have BK281 := n1_; have GW281 := n2_; have GE281 := n3_; clear n0_ n1_ n2_ n3_; clear hb hbox hg; have hcz3_0 : w2.cell? ⟨gb281, 0, none⟩ = some (.slice A0_0 l0_0.length c0_0) := (blk_cell BK281.out 0).trans rfl; have hcz3_1 : w2.cell? ⟨gb281, 1, none⟩ = some (.slice A0_1 l0_1.length c0_1) := (blk_cell BK281.out 1).trans rfl; have hcz3_2 : w2.cell? ⟨gb281, 2, none⟩ = some (.slice A0_2 l0_2.length c0_2) := (blk_cell BK281.out 2).trans rfl; have hcz3_3 : w2.cell? ⟨gb281, 3, none⟩ = some (.slice A0_3 l0_3.length c0_3) := (blk_cell BK281.out 3).trans rfl; have hfz3_0 := blk_frozen BK281.out 0; have hfz3_1 := blk_frozen BK281.out 1; have hfz3_2 := blk_frozen BK281.out 2; have hfz3_3 := blk_frozen BK281.out 3))
  go_ret
  exact ⟨by first | rfl | (simp [errW_none, errW_some] <;> rfl) | (simp [*, errW_none, errW_some] <;> rfl), by repeat (first | (with_reducible first | exact HB.out | apply below_alloc | apply pw_below_drewN | apply below_drew1 | refine below_set ?_ GE281.out) | exact HB.out)⟩

/-! ### slices_Index_int_int: function 77 -/
def slices_Index_int_int.l0 : Nat → List Int → Int → Int → Int → Option (Int)
  | 0, _, _, _, _ => none
  | k + 1, x0, x1, x7, x8 => if x8 < x7 then (if 0 ≤ x8 then (if x8 < (x0.length : Int) then (if x1 = (rd x0 x8) then (some x8) else (slices_Index_int_int.l0 k x0 x1 x7 (wrap64 (x8 + 1)))) else (none)) else (none)) else (some (-1))
def slices_Index_int_int.f (k : Nat) (l0 : List Int) (a1 : Int) : Option (Int) := slices_Index_int_int.l0 k l0 a1 (l0.length : Int) 0
theorem slices_Index_int_int.mono_l : ∀ k, (∀ y0 y1 y2 y3, LeO (slices_Index_int_int.l0 k y0 y1 y2 y3) (slices_Index_int_int.l0 (k + 1) y0 y1 y2 y3))
  | 0 => fun _ _ _ _ r h => by simp [slices_Index_int_int.l0] at h
  | k + 1 => by
    have ih0 := slices_Index_int_int.mono_l k
    · intro y0 y1 y2 y3
      unfold slices_Index_int_int.l0
      repeat' first
      | (with_reducible exact ih0 _ _ _ _)
      | (with_reducible exact LeO.refl _)
      | (with_reducible exact LeO.none _)
      | (with_reducible refine LeO.ite ?_ ?_)
      | (with_reducible refine LeO.bind ?_ (fun _ => ?_))
      | exact ih0 _ _ _ _
      | exact LeO.none _
      | refine LeO.ite ?_ ?_
      | refine LeO.bind ?_ (fun _ => ?_)
theorem slices_Index_int_int.mono : ∀ a0 a1 k, LeO (slices_Index_int_int.f k a0 a1) (slices_Index_int_int.f (k + 1) a0 a1) := by
  intro a0 a1 k
  have ih0 := slices_Index_int_int.mono_l k
  unfold slices_Index_int_int.f
  repeat' first
      | (with_reducible exact ih0 _ _ _ _)
      | (with_reducible exact LeO.refl _)
      | (with_reducible exact LeO.none _)
      | (with_reducible refine LeO.ite ?_ ?_)
      | (with_reducible refine LeO.bind ?_ (fun _ => ?_))
      | exact ih0 _ _ _ _
      | exact LeO.none _
      | refine LeO.ite ?_ ?_
      | refine LeO.bind ?_ (fun _ => ?_)
set_option maxHeartbeats 8000000 in
set_option maxRecDepth 100000 in
theorem slices_Index_int_int.calls (k : Nat) (A0 : Option Addr) (c0 : Nat) (l0 : List Int) (a1 : Int) (r : Int) (w : World) (hr0 : Kd.C (Kd.int .i64) w A0 l0.length l0) (hc0 : l0.length ≤ c0) (h : slices_Index_int_int.f k l0 a1 = some r) :
    Calls Try.prog 77 #[.slice A0 l0.length c0, .int .i64 a1] w fun e w' => e = .returned (.int .i64 r) ∧ Drawn0 w w' := by
  have HR0 := Aside0.mk hr0
  have HC0 := Aside0.mk hc0
  clear hr0 hc0
  have H : (slices_Index_int_int.l0 k l0 a1 (l0.length : Int) 0) = some r := h
  clear h
  have H' := Aside0.mk H
  clear H
  go_enter Try.func77, Try.ntmps77
  go_wp2
  go_loopg [8] k (fun kq v8 w' => ∃ (x8_1 : Int), v8 = .int .i64 x8_1 ∧ Aside0 (slices_Index_int_int.l0 kq l0 a1 (l0.length : Int) x8_1 = some r) ∧ Aside0 (kq ≤ k) ∧ Drawn0 w w')
  case atStart => exact ⟨(0), (by first | rfl | (simp; done) | (simp [*]; done) | (simp [wrap64]; done) | (simp [*, wrap64]; done)), H', ⟨Nat.le_refl _⟩, by repeat (first | exact Drawn0.refl _ | apply Drawn0.step)⟩
  case round =>
    clear H'
    try clear p2
    obtain ⟨x8_1, rfl, HA, HK1, ⟨m1, rfl⟩⟩ := hrel
    cases gk with
    | zero => exact absurd HA.out (by simp [slices_Index_int_int.l0])
    | succ k1 =>
      have H := HA.out
      clear HA
      simp only [slices_Index_int_int.l0] at H
      by_cases c3 : x8_1 < (l0.length : Int)
      · rw [if_pos c3] at H
        have c3b0 : decide (x8_1 < (l0.length : Int)) = true := decide_eq_true c3
        clear c3
        by_cases c4 : 0 ≤ x8_1
        · rw [if_pos c4] at H
          have c4b0 : decide (0 ≤ x8_1) = true := decide_eq_true c4
          clear c4
          by_cases c5 : x8_1 < (l0.length : Int)
          · rw [if_pos c5] at H
            have c5b0 : decide (x8_1 < (l0.length : Int)) = true := decide_eq_true c5
            clear c5
            by_cases c6 : a1 = (rd l0 x8_1)
            · rw [if_pos c6] at H
              have c6b0 : (a1 == (rd l0 x8_1)) = true := beq_iff_eq.mpr c6
              have c6b1 : (a1 != (rd l0 x8_1)) = false := bne_eq_false_iff_eq.mpr c6
              clear c6
              obtain rfl := Option.some.inj H
              have p282 : 0 ≤ (x8_1 : Int) := of_decide_eq_true (by first | (with_reducible assumption) | assumption)
              have q282 : x8_1 < (l0.length : Int) := of_decide_eq_true (by first | (with_reducible assumption) | assumption)
              (try (have qm282 := q282; rw [HMHR0.out] at qm282; replace qm282 := eq_true qm282))
              obtain ⟨ad282, e282, hx282_0⟩ := Kd.at_int HR0.out x8_1 p282 q282
              cases e282
              replace p282 := eq_true p282
              replace q282 := eq_true q282
              go_wp2
              go_ret
              exact ⟨by first | rfl | (simp; done) | (simp [*]; done) | (simp [wrap64]; done) | (simp [*, wrap64]; done), by repeat (first | exact Drawn0.refl _ | apply Drawn0.step)⟩
            · rw [if_neg c6] at H
              have c6b0 : (a1 == (rd l0 x8_1)) = false := beq_eq_false_iff_ne.mpr c6
              have c6b1 : (a1 != (rd l0 x8_1)) = true := bne_iff_ne.mpr c6
              have H' := Aside0.mk H
              clear H
              have p282 : 0 ≤ (x8_1 : Int) := of_decide_eq_true (by first | (with_reducible assumption) | assumption)
              have q282 : x8_1 < (l0.length : Int) := of_decide_eq_true (by first | (with_reducible assumption) | assumption)
              (try (have qm282 := q282; rw [HMHR0.out] at qm282; replace qm282 := eq_true qm282))
              obtain ⟨ad282, e282, hx282_0⟩ := Kd.at_int HR0.out x8_1 p282 q282
              cases e282
              replace p282 := eq_true p282
              replace q282 := eq_true q282
              go_wp2
              go_roundg k1
              case measure => have := HK1.out; omega
              case rel => exact ⟨(wrap64 (x8_1 + 1)), (by first | rfl | (simp; done) | (simp [*]; done) | (simp [wrap64]; done) | (simp [*, wrap64]; done)), H', ⟨by have := HK1.out; omega⟩, by repeat (first | exact Drawn0.refl _ | apply Drawn0.step)⟩
          · rw [if_neg c5] at H
            exact absurd H (by simp)
        · rw [if_neg c4] at H
          exact absurd H (by simp)
      · rw [if_neg c3] at H
        have c3b0 : decide (x8_1 < (l0.length : Int)) = false := decide_eq_false c3
        clear c3
        obtain rfl := Option.some.inj H
        go_wp2
        go_ret
        exact ⟨by first | rfl | (simp; done) | (simp [*]; done) | (simp [wrap64]; done) | (simp [*, wrap64]; done), by repeat (first | exact Drawn0.refl _ | apply Drawn0.step)⟩

/-! ### slices_Contains_int_int: function 59 -/
def slices_Contains_int_int.f (k : Nat) (l0 : List Int) (a1 : Int) : Option (Bool) := (slices_Index_int_int.f k l0 a1).bind fun t283 => (some (decide (t283 ≥ 0)))
theorem slices_Contains_int_int.mono : ∀ a0 a1 k, LeO (slices_Contains_int_int.f k a0 a1) (slices_Contains_int_int.f (k + 1) a0 a1) := by
  intro a0 a1 k
  unfold slices_Contains_int_int.f
  repeat' first
      | (with_reducible exact slices_Index_int_int.mono _ _ _)
      | (with_reducible exact LeO.refl _)
      | (with_reducible exact LeO.none _)
      | (with_reducible refine LeO.ite ?_ ?_)
      | (with_reducible refine LeO.bind ?_ (fun _ => ?_))
      | exact slices_Index_int_int.mono _ _ _
      | exact LeO.none _
      | refine LeO.ite ?_ ?_
      | refine LeO.bind ?_ (fun _ => ?_)
set_option maxHeartbeats 8000000 in
set_option maxRecDepth 100000 in
theorem slices_Contains_int_int.calls (k : Nat) (A0 : Option Addr) (c0 : Nat) (l0 : List Int) (a1 : Int) (r : Bool) (w : World) (hr0 : Kd.C (Kd.int .i64) w A0 l0.length l0) (hc0 : l0.length ≤ c0) (h : slices_Contains_int_int.f k l0 a1 = some r) :
    Calls Try.prog 59 #[.slice A0 l0.length c0, .int .i64 a1] w fun e w' => e = .returned (.bool r) ∧ Drawn0 w w' := by
  have HR0 := Aside0.mk hr0
  have HC0 := Aside0.mk hc0
  clear hr0 hc0
  have H : ((slices_Index_int_int.f k l0 a1).bind fun t283 => (some (decide (t283 ≥ 0)))) = some r := h
  clear h
  replace H := Option.bind_eq_some_iff.mp H
  obtain ⟨t283, A30, H⟩ := H
  replace H : (some (decide (t283 ≥ 0))) = some r := H
  have A3 := Aside0.mk A30
  clear A30
  obtain rfl := Option.some.inj H
  go_enter Try.func59, Try.ntmps59
  go_wp2_with (first | ((with_reducible refine gate_callee (f := 77) rfl ?_); refine goesL_ (some 7) rfl rfl Try.func77 (by kernel_rfl) rfl #[.slice A0 l0.length c0, .int .i64 a1] rfl (by (try simp only [List.map_toArray, List.map_cons, List.map_nil]); first | done | rfl | (simp only [List.length_drop, List.length_take]; rfl)) ?_; (with_reducible refine (slices_Index_int_int.calls k _ _ l0 a1 t283 _ ?side1 ?side2 A3.out).mono ?_); (case side1 => repeat (first | exact HR0.out | (with_reducible refine Kd.C_alloc ?_ _) | (with_reducible refine Kd.C_drewN ?_ _) | (with_reducible refine Kd.C_drew ?_))); (case side2 => exact HC0.out); rintro e w' ⟨rfl, ⟨nd, rfl⟩⟩; refine ⟨_, rfl, ?_⟩))
  go_ret
  exact ⟨by first | rfl | (simp; done) | (simp [*]; done) | (simp [wrap64]; done) | (simp [*, wrap64]; done), by repeat (first | exact Drawn0.refl _ | apply Drawn0.step)⟩

-- not walked yet: impl_enterings

/-! ### impl_CountBest: function 10 -/
set_option linter.unnecessarySimpa false
/-- One number put behind a row of one's own: where what comes of it lies. -/
theorem push_run (B : Nat) (PV : Nat → Prop) (v : Value) (l : List Int) (x : Int) (W : World) (ty : TypeId) (HR : Kd.R (Kd.int .i64) 3 W B PV v l) (hB : B ≤ W.heap.size) (hl : l.length ≤ 1000) :
    ∃ v1 w1, (Builtin.append_ #[25, 25] ty #[v, .slice (some ⟨W.heap.size, 0, none⟩) 1 1]).run Try.prog (W.alloc (.cells #[.int .i64 x] 3)) = .ok v1 w1 ∧
      Kd.R (Kd.int .i64) 3 w1 B (fun k => some k = v1.ownBlock) v1 (l ++ [x]) ∧ W.grownBy w1 v.ownBlock ∧
      (((∃ b, v1.ownBlock = some b ∧ W.heap.size ≤ b) ∧ Below W.heap.size W w1) ∨ ∃ A cap, v = .slice A l.length cap ∧ v1 = .slice A (l.length + 1) cap) := by
  obtain ⟨i0, hi, hzz⟩ := Option.map_eq_some_iff.1 info3
  simp only [Prod.mk.injEq] at hzz
  obtain ⟨hz0, hz1, hz2⟩ := hzz
  obtain ⟨h0, inner, hown, hr⟩ := HR
  have hown0 := hown
  have hsz : (Kd.int .i64).sz = 1 := rfl
  rw [hsz] at hown
  have hbel : Below W.heap.size W (W.alloc (.cells #[.int .i64 x] 3)) := below_alloc (Below.refl _ _) _
  have hown' : (W.alloc (.cells #[.int .i64 x] 3)).ownsRow B 3 1 v l.length inner := own_move hown (fun k hk => hbel.block k (World.ownsRow.lt hown k hk).2)
  have hnews : ∀ j u, [Value.int .i64 x][j]? = some u → (W.alloc (.cells #[.int .i64 x] 3)).cell? ((⟨W.heap.size, 0, none⟩ : Addr).add j) = some u := by
    intro j u hu
    match j, hu with
    | 0, hu =>
      obtain rfl : Value.int .i64 x = u := by simpa using hu
      have h := (blk_cell (heap_alloc_new W (.cells #[.int .i64 x] 3)) 0).trans rfl
      simpa [Addr.add] using h
    | j + 1, hu => simp at hu
  have hgr : ∀ {w1 : World} {row : Option Nat}, (W.alloc (.cells #[.int .i64 x] 3)).grownBy w1 row → W.grownBy w1 row := fun {w1 row} hg =>
    ⟨hg.os.trans hbel.os, hg.tape.trans hbel.tape, hg.output.trans hbel.output, Nat.le_trans hbel.size hg.size, fun k hk hne => (hg.block k (Nat.lt_of_lt_of_le hk hbel.size) hne).trans (hbel.block k hk)⟩
  have fin : ∀ {v1 : Value} {w1 : World}, w1.ownsRow B 3 1 v1 (l.length + 1) (inner ++ [.int .i64 x]) → (W.alloc (.cells #[.int .i64 x] 3)).grownBy w1 v.ownBlock → (v1.ownBlock = v.ownBlock ∨ ∃ b, v1.ownBlock = some b ∧ W.heap.size ≤ b) →
      Kd.R (Kd.int .i64) 3 w1 B (fun k => some k = v1.ownBlock) v1 (l ++ [x]) := fun {v1 w1} ho hg hat => by
    have h := Kd.R_appended (d := Kd.int .i64) (e := 3) (base := B) (ok := fun _ => True) (okp := fun _ => False) (W := W) (w1 := w1) (v := v) (v1 := v1) (xs := l) (p := x) (inner := inner) (cs := [.int .i64 x]) (fun _ _ => trivial)
      (hr.imp_ (fun _ _ hq => hq)) rfl (fun _ hk => hk.elim) (fun _ _ => trivial) ho (hgr hg) hat
    exact Kd.R_tight rfl h
  have hms : l.length + 1 ≤ maxLen := by simp only [maxLen]; omega
  rcases hown'.2 with ⟨rfl, hn⟩ | ⟨g, cap, cur, rfl, hbg, hgg, hnc, hcm, hcs, htake⟩
  · obtain ⟨v1, w1, hrun, ho, hg, hnil, hat⟩ := run_append_own_at (P := Try.prog) (W.alloc (.cells #[.int .i64 x] 3)) B 25 ty 3 i0 _ 1 8 Try.underlying25 hi hz0 hz1 hz2 rfl (by decide) _ l.length inner hown' ⟨W.heap.size, 0, none⟩ 1 1 [.int .i64 x] rfl hnews (by simp [Value.oneCell']) hms (by omega) (Nat.le_trans hB hbel.size)
    have hat' : v1.ownBlock = (Value.slice none 0 0).ownBlock ∨ ∃ b, v1.ownBlock = some b ∧ W.heap.size ≤ b := hat.imp id (fun h => ⟨_, h, hbel.size⟩)
    refine ⟨v1, w1, hrun, fin ho hg hat', hgr hg, .inl ⟨?_, (hgr hg).os, (hgr hg).tape, (hgr hg).output, (hgr hg).size, fun k hk => (hgr hg).block k hk (by simp [Value.ownBlock])⟩⟩
    rcases hat with hat | hat
    · exfalso
      rcases ho.2 with ⟨_, h⟩ | ⟨g1, cap1, cur1, rfl, _⟩
      · omega
      · simp [Value.ownBlock] at hat
    · exact ⟨_, hat, hbel.size⟩
  · by_cases hroom : l.length + 1 ≤ cap
    · obtain ⟨w1, hrun, ho, hg⟩ := run_append_fits (P := Try.prog) (W.alloc (.cells #[.int .i64 x] 3)) B 25 ty 3 i0 1 Try.underlying25 hi hz1 g l.length cap inner hown' ⟨W.heap.size, 0, none⟩ 1 1 [.int .i64 x] rfl hnews (by simp [Value.oneCell']) hroom
      exact ⟨_, w1, hrun, fin ho hg (.inl rfl), hgr hg, .inr ⟨_, _, rfl, rfl⟩⟩
    · obtain ⟨v1, w1, hrun, ho, hg, hnil, hat⟩ := run_append_own_at (P := Try.prog) (W.alloc (.cells #[.int .i64 x] 3)) B 25 ty 3 i0 _ 1 8 Try.underlying25 hi hz0 hz1 hz2 rfl (by decide) _ l.length inner hown' ⟨W.heap.size, 0, none⟩ 1 1 [.int .i64 x] rfl hnews (by simp [Value.oneCell']) hms (by omega) (Nat.le_trans hB hbel.size)
      have hgrow := run_append_grow (P := Try.prog) (W.alloc (.cells #[.int .i64 x] 3)) 25 ty 3 i0 _ Try.underlying25 hi hz0 ⟨g, 0, none⟩ l.length cap inner (by rw [hown.1, hz1]) (fun j u hu => World.ownsRow.cells hown' (g := g) (by simp [Value.ownBlock]) j u hu) ⟨W.heap.size, 0, none⟩ 1 1 [.int .i64 x] (by rw [hz1]; rfl) hnews (by omega) (by omega) (growslice_fits (by omega) (by rw [hz2]; omega))
      have e := hrun.symm.trans hgrow
      injection e with e1 e2
      have hnew : v1.ownBlock = some (W.alloc (.cells #[.int .i64 x] 3)).heap.size := by
        rw [e1]
        rfl
      exact ⟨v1, w1, hrun, fin ho hg (.inr ⟨_, hnew, hbel.size⟩), hgr hg, .inl ⟨⟨_, hnew, hbel.size⟩, by rw [e2]; exact below_alloc (below_drew1 hbel) _⟩⟩
/-- The row that was there before, behind what was done to the longer one. -/
theorem pop_row {B : Nat} {PV PV' : Nat → Prop} {v v1 : Value} {l : List Int} {x : Int} {W w1 w2 : World} (HR : Kd.R (Kd.int .i64) 3 W B PV v l) (h1 : Kd.R (Kd.int .i64) 3 w2 B PV' v1 (l ++ [x]))
    (hat : ((∃ b, v1.ownBlock = some b ∧ W.heap.size ≤ b) ∧ Below W.heap.size W w1) ∨ ∃ A cap, v = .slice A l.length cap ∧ v1 = .slice A (l.length + 1) cap)
    (hk : ∀ k, k < W.heap.size → some k = v.ownBlock → some k ≠ v1.ownBlock → w2.heap[k]? = w1.heap[k]?) : Kd.R (Kd.int .i64) 3 w2 B (fun k => some k = v.ownBlock) v l := by
  rcases hat with ⟨⟨b, hb, hle⟩, hbel⟩ | ⟨A, cap, rfl, rfl⟩
  · have h := Kd.R_tight rfl HR
    refine Kd.R_step h (fun k ho hlt => (hk k hlt ho (fun e => ?_)).trans (hbel.block k hlt))
    rw [hb] at e
    injection e with e
    omega
  · have h := Kd.R_take h1 (m := l.length) (by simp)
    rw [List.take_left' rfl] at h
    exact Kd.R_tight rfl h
/-- What the closure's calls have before them: the row (l, its value v), the count c and the variables. -/
structure Sb (w0 : World) (gN gV gS gF cN cS cC : Nat) (n s : Int) (fV fF v : Value) (l : List Int) (w : World) (c : Int) : Prop where
  bel : Below w0.heap.size w0 w
  bN : w.heap[gN]? = some (.cells #[.int .i64 n] 3 (0, 0))
  bS : w.heap[gS]? = some (.cells #[.int .i64 s] 3 (0, 0))
  bV : w.heap[gV]? = some (.cells #[fV] 50 (0, 0))
  bF : w.heap[gF]? = some (.cells #[fF] 77 (0, 0))
  aN : w.heap[cN]? = some (.cells #[.int .i64 n] 3 (0, 0))
  aS : w.heap[cS]? = some (.cells #[.int .i64 s] 3 (0, 0))
  aC : w.heap[cC]? = some (.cells #[.int .i64 c] 3 (0, 0))
  lo : w0.heap.size ≤ cC
  dn : cC ≠ gN ∧ cC ≠ gS ∧ cC ≠ cN ∧ cC ≠ cS
  row : Kd.R (Kd.int .i64) 3 w w0.heap.size (fun k => some k = v.ownBlock) v l
  vn : ∀ k, some k = v.ownBlock → k ≠ gN ∧ k ≠ gS ∧ k ≠ cN ∧ k ≠ cS ∧ k ≠ cC
section
variable {w0 w W : World} {gN gV gS gF cN cS cC : Nat} {n s c : Int} {fV fF v : Value} {l : List Int}
theorem Sb.ne (h : Sb w0 gN gV gS gF cN cS cC n s fV fF v l w c) : cC ≠ gV ∧ cC ≠ gF ∧ some gV ≠ v.ownBlock ∧ some gF ≠ v.ownBlock := by
  refine ⟨fun e => ?_, fun e => ?_, Kd.R_ne h.row h.bV (by decide), Kd.R_ne h.row h.bF (by decide)⟩
  · subst e; have := h.aC.symm.trans h.bV; simp at this
  · subst e; have := h.aC.symm.trans h.bF; simp at this
theorem Sb.drew (h : Sb w0 gN gV gS gF cN cS cC n s fV fF v l w c) : Sb w0 gN gV gS gF cN cS cC n s fV fF v l w.drew c :=
  ⟨below_drew1 h.bel, h.bN, h.bS, h.bV, h.bF, h.aN, h.aS, h.aC, h.lo, h.dn, Kd.R_drew h.row, h.vn⟩
theorem Sb.step (h : Sb w0 gN gV gS gF cN cS cC n s fV fF v l w c) {w1 : World} (hb : Below w.heap.size w w1) : Sb w0 gN gV gS gF cN cS cC n s fV fF v l w1 c :=
  ⟨below_step h.bel hb, blk_below (o := .cells #[.int .i64 n] 3 (0, 0)) h.bN hb, blk_below (o := .cells #[.int .i64 s] 3 (0, 0)) h.bS hb, blk_below (o := .cells #[fV] 50 (0, 0)) h.bV hb, blk_below (o := .cells #[fF] 77 (0, 0)) h.bF hb,
    blk_below (o := .cells #[.int .i64 n] 3 (0, 0)) h.aN hb, blk_below (o := .cells #[.int .i64 s] 3 (0, 0)) h.aS hb, blk_below (o := .cells #[.int .i64 c] 3 (0, 0)) h.aC hb, h.lo, h.dn, Kd.R_below h.row hb, h.vn⟩
theorem Sb.size (h : Sb w0 gN gV gS gF cN cS cC n s fV fF v l w c) : w0.heap.size ≤ w.heap.size := below_size h.bel
/-- The count anew. -/
theorem Sb.count (h : Sb w0 gN gV gS gF cN cS cC n s fV fF v l w c) (c' : Int) : Sb w0 gN gV gS gF cN cS cC n s fV fF v l (w.setCell ⟨cC, 0, none⟩ (.int .i64 c')) c' := by
  obtain ⟨n1, n2, n3, n4⟩ := h.ne
  obtain ⟨d1, d2, d3, d4⟩ := h.dn
  refine ⟨below_set h.bel h.lo, (Below.heap_setCell _ _ _ _ (by simpa using d1.symm)).trans h.bN, (Below.heap_setCell _ _ _ _ (by simpa using d2.symm)).trans h.bS, (Below.heap_setCell _ _ _ _ (by simpa using n1.symm)).trans h.bV, (Below.heap_setCell _ _ _ _ (by simpa using n2.symm)).trans h.bF,
    (Below.heap_setCell _ _ _ _ (by simpa using d3.symm)).trans h.aN, (Below.heap_setCell _ _ _ _ (by simpa using d4.symm)).trans h.aS, blk_put (cs := #[.int .i64 c]) h.aC 0 _ rfl, h.lo, h.dn, ?_, h.vn⟩
  exact Kd.R_far (p := ⟨cC, 0, none⟩) h.row (fun k hk (e : k = cC) => (h.vn k hk).2.2.2.2 e) _
/-- The row with one number more. -/
theorem Sb.push (h : Sb w0 gN gV gS gF cN cS cC n s fV fF v l W c) {v1 : Value} {w1 : World} {x : Int} (hr : Kd.R (Kd.int .i64) 3 w1 w0.heap.size (fun k => some k = v1.ownBlock) v1 (l ++ [x])) (hg : W.grownBy w1 v.ownBlock)
    (hat : ((∃ b, v1.ownBlock = some b ∧ W.heap.size ≤ b) ∧ Below W.heap.size W w1) ∨ ∃ A cap, v = .slice A l.length cap ∧ v1 = .slice A (l.length + 1) cap) : Sb w0 gN gV gS gF cN cS cC n s fV fF v1 (l ++ [x]) w1 c := by
  obtain ⟨n1, n2, n3, n4⟩ := h.ne
  have own : ∀ k, some k = v1.ownBlock → some k = v.ownBlock ∨ W.heap.size ≤ k := fun k hk => by
    rcases hat with ⟨⟨b, hb, hle⟩, -⟩ | ⟨A, cap, rfl, rfl⟩
    · rw [hb] at hk; injection hk with hk; exact .inr (by omega)
    · exact .inl (by cases A <;> exact hk)
  have a1 := blk_lt h.bN; have a2 := blk_lt h.bS; have a3 := blk_lt h.bV; have a4 := blk_lt h.bF; have a5 := blk_lt h.aN; have a6 := blk_lt h.aS; have a7 := blk_lt h.aC
  refine ⟨h.bel.grown hg h.size (fun k hk => Kd.R_base h.row k hk), (hg.block gN a1 (fun e => (h.vn _ e).1 rfl)).trans h.bN, (hg.block gS a2 (fun e => (h.vn _ e).2.1 rfl)).trans h.bS, (hg.block gV a3 n3).trans h.bV, (hg.block gF a4 n4).trans h.bF,
    (hg.block cN a5 (fun e => (h.vn _ e).2.2.1 rfl)).trans h.aN, (hg.block cS a6 (fun e => (h.vn _ e).2.2.2.1 rfl)).trans h.aS, (hg.block cC a7 (fun e => (h.vn _ e).2.2.2.2 rfl)).trans h.aC, h.lo, h.dn, hr, fun k hk => ?_⟩
  exact (own k hk).elim (h.vn k) (fun h => ⟨by omega, by omega, by omega, by omega, by omega⟩)
/-- Behind the call with the longer row: the row that was there before. -/
theorem Sb.pop (h : Sb w0 gN gV gS gF cN cS cC n s fV fF v l W c) {v1 : Value} {w1 w2 : World} {x c' : Int} (hg : W.grownBy w1 v.ownBlock)
    (hat : ((∃ b, v1.ownBlock = some b ∧ W.heap.size ≤ b) ∧ Below W.heap.size W w1) ∨ ∃ A cap, v = .slice A l.length cap ∧ v1 = .slice A (l.length + 1) cap)
    (h2 : Sb w0 gN gV gS gF cN cS cC n s fV fF v1 (l ++ [x]) w2 c') (hk : Kept w1 w2 (fun k => k = cC ∨ some k = v1.ownBlock)) :
    Sb w0 gN gV gS gF cN cS cC n s fV fF v l w2 c' ∧ Kept W w2 (fun k => k = cC ∨ some k = v.ownBlock) := by
  have hsz := hg.size
  have own : ∀ k, some k = v1.ownBlock → some k = v.ownBlock ∨ W.heap.size ≤ k := fun k hk => by
    rcases hat with ⟨⟨b, hb, hle⟩, -⟩ | ⟨A, cap, rfl, rfl⟩
    · rw [hb] at hk; injection hk with hk; exact .inr (by omega)
    · exact .inl (by cases A <;> exact hk)
  refine ⟨⟨h2.bel, h2.bN, h2.bS, h2.bV, h2.bF, h2.aN, h2.aS, h2.aC, h2.lo, h2.dn, ?_, h.vn⟩, ?_⟩
  · refine pop_row h.row h2.row hat (fun k hlt ho hne => hk.2 k (Nat.lt_of_lt_of_le hlt hsz) ?_)
    rintro (e | e)
    · subst e; exact (h.vn _ ho).2.2.2.2 rfl
    · exact hne e
  · have h1 : Kept W w1 (fun k => k = cC ∨ some k = v.ownBlock) := Kept.of_grown hg (Kept.refl W _) (fun k hk => .inl (.inr hk.symm))
    refine h1.then_ hk (fun k hk => ?_)
    rcases hk with h | h
    · exact .inl (.inl h)
    · exact (own k h).imp (fun h => .inr h) id
end
set_option maxHeartbeats 8000000 in
set_option maxRecDepth 100000 in
theorem visit_calls (w : World) (cN cS cC : Nat) (n s c t : Int) (vv : Value) (hN : w.heap[cN]? = some (.cells #[.int .i64 n] 3 (0, 0))) (hS : w.heap[cS]? = some (.cells #[.int .i64 s] 3 (0, 0))) (hC : w.heap[cC]? = some (.cells #[.int .i64 c] 3 (0, 0))) :
    Calls Try.prog 33 #[vv, .int .i64 t, .pointer (some ⟨cN, 0, none⟩), .pointer (some ⟨cS, 0, none⟩), .pointer (some ⟨cC, 0, none⟩)] w fun e w' => (∃ u, e = .returned u) ∧ ((t = wrap64 (n + s) ∧ w' = w.setCell ⟨cC, 0, none⟩ (.int .i64 (wrap64 (c + 1)))) ∨ (t ≠ wrap64 (n + s) ∧ w' = w)) := by
  have s1 : w.cell? ⟨cN, 0, none⟩ = some (.int .i64 n) := (blk_cell hN 0).trans rfl
  have s2 : w.cell? ⟨cS, 0, none⟩ = some (.int .i64 s) := (blk_cell hS 0).trans rfl
  have s3 : w.cell? ⟨cC, 0, none⟩ = some (.int .i64 c) := (blk_cell hC 0).trans rfl
  have f3 := blk_frozen hC 0
  clear hN hS hC
  obtain ⟨q, hq⟩ : ∃ q, wrap64 (n + s) = q := ⟨_, rfl⟩
  have hq2 : IntKind.i64.wrap (n + s) = q := by rw [← hq, IntKind.wrap_i64]; unfold wrap64; omega
  rw [hq]
  by_cases ht : t = q
  · have c1 : (t == q) = true := beq_iff_eq.mpr ht
    have Ht := Aside0.mk ht
    clear ht
    go_enter Try.func33, Try.ntmps33
    go_wp2
    go_end0
    exact ⟨⟨_, rfl⟩, .inl ⟨Ht.out, rfl⟩⟩
  · have c1 : (t == q) = false := beq_eq_false_iff_ne.mpr ht
    have Ht := Aside0.mk ht
    clear ht
    go_enter Try.func33, Try.ntmps33
    go_wp2
    go_end0
    exact ⟨⟨_, rfl⟩, .inr ⟨Ht.out, rfl⟩⟩
set_option maxHeartbeats 8000000 in
set_option maxRecDepth 100000 in
theorem fill_base (w0 w : World) (gN gV gS gF cN cS cC : Nat) (n s c t : Int) (v : Value) (l r1 r2 r3 : List Int) (r4 : List (List Int)) (k : Nat) (h : Sb w0 gN gV gS gF cN cS cC n s (.func (.func 33) #[] #[.pointer (some ⟨cN, 0, none⟩), .pointer (some ⟨cS, 0, none⟩), .pointer (some ⟨cC, 0, none⟩)]) (.func (.func 56) #[] #[.pointer (some ⟨gN, 0, none⟩), .pointer (some ⟨gV, 0, none⟩), .pointer (some ⟨gS, 0, none⟩), .pointer (some ⟨gF, 0, none⟩)]) v l w c) (hl : (l.length : Int) = n) (hb : impl_board.f k n s l = some (r1, r2, r3, r4)) (ht : impl_boarding_time.f r1 r2 r3 r4 = some t) (cf : Int) (hcf : (if t = wrap64 (n + s) then wrap64 (c + 1) else c) = cf) :
    Calls Try.prog 56 #[v, .pointer (some ⟨gN, 0, none⟩), .pointer (some ⟨gV, 0, none⟩), .pointer (some ⟨gS, 0, none⟩), .pointer (some ⟨gF, 0, none⟩)] w fun e w' => (∃ u, e = .returned u) ∧ Sb w0 gN gV gS gF cN cS cC n s (.func (.func 33) #[] #[.pointer (some ⟨cN, 0, none⟩), .pointer (some ⟨cS, 0, none⟩), .pointer (some ⟨cC, 0, none⟩)]) (.func (.func 56) #[] #[.pointer (some ⟨gN, 0, none⟩), .pointer (some ⟨gV, 0, none⟩), .pointer (some ⟨gS, 0, none⟩), .pointer (some ⟨gF, 0, none⟩)]) v l w' cf ∧ Kept w w' (fun k => k = cC ∨ some k = v.ownBlock) := by
  obtain ⟨Av, cv, ev⟩ := Kd.R_slice h.row
  subst ev
  have cN_ : w.cell? ⟨gN, 0, none⟩ = some (.int .i64 n) := (blk_cell h.bN 0).trans rfl
  have c1 : ((l.length : Int) == n) = true := beq_iff_eq.mpr hl
  have HH := Aside0.mk h
  have Hb := Aside0.mk hb
  have Ht := Aside0.mk ht
  have Hcf := Aside0.mk hcf
  clear h hb ht hl hcf
  go_enter Try.func56, Try.ntmps56
  go_upto_region 1 with fail
  have hd := Aside0.mk HH.out.drew
  have d1 : w.drew.cell? ⟨gV, 0, none⟩ = some (.func (.func 33) #[] #[.pointer (some ⟨cN, 0, none⟩), .pointer (some ⟨cS, 0, none⟩), .pointer (some ⟨cC, 0, none⟩)]) := (blk_cell hd.out.bV 0).trans rfl
  have d2 : w.drew.cell? ⟨gN, 0, none⟩ = some (.int .i64 n) := (blk_cell hd.out.bN 0).trans rfl
  have d3 : w.drew.cell? ⟨gS, 0, none⟩ = some (.int .i64 s) := (blk_cell hd.out.bS 0).trans rfl
  refine start_ (n := 8) (S := fun w' => w'.cell? ⟨gV, 0, none⟩ = some (.func (.func 33) #[] #[.pointer (some ⟨cN, 0, none⟩), .pointer (some ⟨cS, 0, none⟩), .pointer (some ⟨cC, 0, none⟩)]) ∧ w'.cell? ⟨gN, 0, none⟩ = some (.int .i64 n) ∧ w'.cell? ⟨gS, 0, none⟩ = some (.int .i64 s)) (ds := [7]) #[false, false, false, false, false, false, false, false] (by kernel_rfl) rfl rfl ⟨d1, d2, d3⟩ (fun hHeld => ?_)
  have hkd := Aside0.mk (Kept.drew (Kept.refl w (fun k => k = cC ∨ some k = (Value.slice Av l.length cv).ownBlock)))
  clear d1 d2 d3 cN_
  generalize w.drew = wd at hd hHeld hkd ⊢
  refine pure_ (i := 1) (N := some 12) (v := ?_) (a' := ?_) #[false, true, false, false, false, false, false, false] rfl rfl (by kernel_rfl) (fun _ _ _ h => h) (Or.inl ⟨by rfl, ?_⟩) ?_ ?_
  rotate_left
  · intro w'
    go_simp
    with_reducible rfl
  rotate_left
  · simp only [Act.put, List.setIfInBounds_toArray, List.set_cons_zero, List.set_cons_succ, i64_w, i32_w]
    rfl
  refine pure_ (i := 4) (N := some 15) (v := ?_) (a' := ?_) #[false, true, false, false, true, false, false, false] rfl rfl (by kernel_rfl) (fun _ _ _ h => h) (Or.inl ⟨by rfl, ?_⟩) ?_ ?_
  rotate_left
  · intro w'
    go_simp
    with_reducible rfl
  rotate_left
  · simp only [Act.put, List.setIfInBounds_toArray, List.set_cons_zero, List.set_cons_succ, i64_w, i32_w]
    rfl
  refine take_ (i := 0) (N := some 11) (v := ?_) (a' := ?_) #[true, true, false, false, true, false, false, false] rfl rfl (by kernel_rfl) (fun _ _ _ h => h) (Or.inl ⟨by rfl, ?_⟩) hHeld ?_ ?_
  rotate_left
  · intro w' s0
    obtain ⟨s1, s2, s3⟩ := s0
    go_simp
    with_reducible rfl
  rotate_left
  · simp only [Act.put, List.setIfInBounds_toArray, List.set_cons_zero, List.set_cons_succ, i64_w, i32_w]
    rfl
  refine take_ (i := 2) (N := some 13) (v := ?_) (a' := ?_) #[true, true, true, false, true, false, false, false] rfl rfl (by kernel_rfl) (fun _ _ _ h => h) (Or.inl ⟨by rfl, ?_⟩) hHeld ?_ ?_
  rotate_left
  · intro w' s0
    obtain ⟨s1, s2, s3⟩ := s0
    go_simp
    with_reducible rfl
  rotate_left
  · simp only [Act.put, List.setIfInBounds_toArray, List.set_cons_zero, List.set_cons_succ, i64_w, i32_w]
    rfl
  refine take_ (i := 3) (N := some 14) (v := ?_) (a' := ?_) #[true, true, true, true, true, false, false, false] rfl rfl (by kernel_rfl) (fun _ _ _ h => h) (Or.inl ⟨by rfl, ?_⟩) hHeld ?_ ?_
  rotate_left
  · intro w' s0
    obtain ⟨s1, s2, s3⟩ := s0
    go_simp
    with_reducible rfl
  rotate_left
  · simp only [Act.put, List.setIfInBounds_toArray, List.set_cons_zero, List.set_cons_succ, i64_w, i32_w]
    rfl
  refine one_ (i := 5) (N := some 16) #[true, true, true, true, true, true, false, false] rfl rfl (by kernel_rfl) (by decide) (fun K hK => ?_)
  refine goes_ Try.func57 (by kernel_rfl) rfl #[.int .i64 n, .int .i64 s, .slice Av l.length cv] (by rfl) rfl rfl (by (try simp only [List.map_toArray, List.map_cons, List.map_nil]); first | done | rfl) ?_
  refine (impl_board.calls k n s Av cv l r1 r2 r3 r4 wd (Kd.R_reads' hd.out.row).2.2 (Kd.R_reads' hd.out.row).2.1 Hb.out).mono ?_
  rintro e w1 ⟨v1, v2, v3, v4, rfl, hr1, hr2, hr3, hr4, hb1⟩
  obtain ⟨A1, e1, ev1⟩ := Kd.R_slice hr1
  obtain ⟨A2, e2, ev2⟩ := Kd.R_slice hr2
  obtain ⟨A3, e3, ev3⟩ := Kd.R_slice hr3
  obtain ⟨A4, e4, ev4⟩ := Kd.S_slice hr4
  subst ev1 ev2 ev3 ev4
  refine ⟨_, rfl, ?_⟩
  have h1 := Aside0.mk (hd.out.step hb1)
  have hk1 := Aside0.mk (hkd.out.below hb1)
  have R1 := Aside0.mk hr1
  have R2 := Aside0.mk hr2
  have R3 := Aside0.mk hr3
  have R4 := Aside0.mk hr4
  have d1 : w1.cell? ⟨gV, 0, none⟩ = some (.func (.func 33) #[] #[.pointer (some ⟨cN, 0, none⟩), .pointer (some ⟨cS, 0, none⟩), .pointer (some ⟨cC, 0, none⟩)]) := (blk_cell h1.out.bV 0).trans rfl
  have d2 : w1.cell? ⟨gN, 0, none⟩ = some (.int .i64 n) := (blk_cell h1.out.bN 0).trans rfl
  have d3 : w1.cell? ⟨gS, 0, none⟩ = some (.int .i64 s) := (blk_cell h1.out.bS 0).trans rfl
  refine hK.out _ _ ⟨d1, d2, d3⟩ (fun hHeld2 => ?_)
  clear hK K hHeld hb1 hr1 hr2 hr3 hr4 d1 d2 d3
  refine norm_ (a' := ?_) ?_ ?_
  rotate_left
  · show Act.put _ (some 16) _ = _
    simp only [Act.put, List.setIfInBounds_toArray, List.set_cons_zero, List.set_cons_succ, i64_w, i32_w]
    rfl
  refine one_ (i := 6) (N := some 17) #[true, true, true, true, true, true, true, false] rfl rfl (by kernel_rfl) (by decide) (fun K hK => ?_)
  refine goes_ Try.func58 (by kernel_rfl) rfl #[.agg #[.slice A1 r1.length e1, .slice A2 r2.length e2, .slice A3 r3.length e3, .slice A4 r4.length e4]] (by rfl) rfl rfl (by (try simp only [List.map_toArray, List.map_cons, List.map_nil]); first | done | rfl) ?_
  refine (impl_boarding_time.calls A1 e1 r1 A2 e2 r2 A3 e3 r3 A4 e4 r4 t w1 (Kd.R_reads' R1.out).2.2 (Kd.R_reads' R1.out).2.1 (Kd.R_reads' R2.out).2.2 (Kd.R_reads' R2.out).2.1 (Kd.R_reads' R3.out).2.2 (Kd.R_reads' R3.out).2.1 (Kd.S_reads' R4.out).2.2 (Kd.S_reads' R4.out).2.1 Ht.out).mono ?_
  rintro e w2 ⟨rfl, hb2⟩
  refine ⟨_, rfl, ?_⟩
  have h2 := Aside0.mk (h1.out.step hb2)
  have hk2 := Aside0.mk (hk1.out.below hb2)
  have d1 : w2.cell? ⟨gV, 0, none⟩ = some (.func (.func 33) #[] #[.pointer (some ⟨cN, 0, none⟩), .pointer (some ⟨cS, 0, none⟩), .pointer (some ⟨cC, 0, none⟩)]) := (blk_cell h2.out.bV 0).trans rfl
  have d2 : w2.cell? ⟨gN, 0, none⟩ = some (.int .i64 n) := (blk_cell h2.out.bN 0).trans rfl
  have d3 : w2.cell? ⟨gS, 0, none⟩ = some (.int .i64 s) := (blk_cell h2.out.bS 0).trans rfl
  refine hK.out _ _ ⟨d1, d2, d3⟩ (fun hHeld3 => ?_)
  clear hK K hHeld2 hb2 d1 d2 d3
  refine norm_ (a' := ?_) ?_ ?_
  rotate_left
  · show Act.put _ (some 17) _ = _
    simp only [Act.put, List.setIfInBounds_toArray, List.set_cons_zero, List.set_cons_succ, i64_w, i32_w]
    rfl
  refine last_ (i := 7) (N := some 18) #[true, true, true, true, true, true, true, true] rfl rfl (by kernel_rfl) (by decide) (fun K hK => ?_)
  refine call_ 33 #[.slice Av l.length cv, .int .i64 t, .pointer (some ⟨cN, 0, none⟩), .pointer (some ⟨cS, 0, none⟩), .pointer (some ⟨cC, 0, none⟩)] (by rfl) rfl ?_ ?_
  · have he := enters_ (P := Try.prog) Try.func33 (by kernel_rfl) rfl #[.slice Av l.length cv, .int .i64 t, .pointer (some ⟨cN, 0, none⟩), .pointer (some ⟨cS, 0, none⟩), .pointer (some ⟨cC, 0, none⟩)] w2
    unfold execOp
    simp [resolve, Deferred.ofValue, invoke, Act.eval, he]
  refine (visit_calls w2 cN cS cC n s c t _ h2.out.aN h2.out.aS h2.out.aC).mono ?_
  rintro e w3 ⟨⟨u, rfl⟩, hcase⟩
  refine ⟨_, rfl, ?_⟩
  have h3 : Aside0 (Sb w0 gN gV gS gF cN cS cC n s (.func (.func 33) #[] #[.pointer (some ⟨cN, 0, none⟩), .pointer (some ⟨cS, 0, none⟩), .pointer (some ⟨cC, 0, none⟩)]) (.func (.func 56) #[] #[.pointer (some ⟨gN, 0, none⟩), .pointer (some ⟨gV, 0, none⟩), .pointer (some ⟨gS, 0, none⟩), .pointer (some ⟨gF, 0, none⟩)]) (.slice Av l.length cv) l w3 cf ∧ Kept w w3 (fun k => k = cC ∨ some k = (Value.slice Av l.length cv).ownBlock)) := by
    refine ⟨?_⟩
    have hcf := Hcf.out
    rcases hcase with ⟨ht, rfl⟩ | ⟨ht, rfl⟩
    · rw [if_pos ht] at hcf
      subst hcf
      exact ⟨h2.out.count _, hk2.out.setCell (p := ⟨cC, 0, none⟩) (.inl (.inl rfl)) _⟩
    · rw [if_neg ht] at hcf
      subst hcf
      exact ⟨h2.out, hk2.out⟩
  refine hK.out _ _ ?_
  clear hK K hHeld3 hcase
  refine norm_ (a' := ?_) ?_ ?_
  rotate_left
  · show Act.put _ (some 18) _ = _
    simp only [Act.put, List.setIfInBounds_toArray, List.set_cons_zero, List.set_cons_succ, i64_w, i32_w]
    rfl
  refine done_ (by kernel_rfl) ?_
  try go_wp2
  refine bodyPost_ret (results_none (by rfl) _ _ _) rfl ?_
  exact ⟨⟨_, rfl⟩, h3.out.1, h3.out.2⟩
/-- What the closure does with the count: over the rows .. -/
def fillL (F : List Int → Int → Option Int) (kc : Nat) (n : Int) (l : List Int) : Nat → Int → Int → Option Int
  | 0, _, _ => none
  | m + 1, row, c => if row < n then (slices_Contains_int_int.f kc l row).bind fun b => (if b = true then fillL F kc n l m (row + 1) c else (F (l ++ [row]) c).bind fun c' => fillL F kc n l m (row + 1) c') else some c
/-- .. and the closure. -/
def fillC (k : Nat) (n s : Int) : Nat → List Int → Int → Option Int
  | 0, _, _ => none
  | j + 1, l, c => if (l.length : Int) = n then (impl_board.f k n s l).bind fun b => (impl_boarding_time.f b.1 b.2.1 b.2.2.1 b.2.2.2).bind fun t => some (if t = wrap64 (n + s) then wrap64 (c + 1) else c) else fillL (fillC k n s j) k n l k 0 c
set_option maxHeartbeats 8000000 in
set_option maxRecDepth 100000 in
theorem fill_calls (w0 : World) (gN gV gS gF cN cS cC : Nat) (n s : Int) (k : Nat) (hn : n ≤ 1000) : ∀ (j : Nat) (l : List Int) (c cf : Int) (v : Value) (w : World), Sb w0 gN gV gS gF cN cS cC n s (.func (.func 33) #[] #[.pointer (some ⟨cN, 0, none⟩), .pointer (some ⟨cS, 0, none⟩), .pointer (some ⟨cC, 0, none⟩)]) (.func (.func 56) #[] #[.pointer (some ⟨gN, 0, none⟩), .pointer (some ⟨gV, 0, none⟩), .pointer (some ⟨gS, 0, none⟩), .pointer (some ⟨gF, 0, none⟩)]) v l w c → fillC k n s j l c = some cf → (l.length : Int) ≤ n →
    Calls Try.prog 56 #[v, .pointer (some ⟨gN, 0, none⟩), .pointer (some ⟨gV, 0, none⟩), .pointer (some ⟨gS, 0, none⟩), .pointer (some ⟨gF, 0, none⟩)] w fun e w' => (∃ u, e = .returned u) ∧ Sb w0 gN gV gS gF cN cS cC n s (.func (.func 33) #[] #[.pointer (some ⟨cN, 0, none⟩), .pointer (some ⟨cS, 0, none⟩), .pointer (some ⟨cC, 0, none⟩)]) (.func (.func 56) #[] #[.pointer (some ⟨gN, 0, none⟩), .pointer (some ⟨gV, 0, none⟩), .pointer (some ⟨gS, 0, none⟩), .pointer (some ⟨gF, 0, none⟩)]) v l w' cf ∧ Kept w w' (fun k => k = cC ∨ some k = v.ownBlock) := by
  intro j
  induction j with
  | zero => intro l c cf v w h hf; simp [fillC] at hf
  | succ j ih =>
  intro l c cf v w h hf hl
  simp only [fillC] at hf
  by_cases hln : (l.length : Int) = n
  · rw [if_pos hln] at hf
    obtain ⟨⟨r1, r2, r3, r4⟩, hb, hf⟩ := Option.bind_eq_some_iff.mp hf
    obtain ⟨t, ht, hf⟩ := Option.bind_eq_some_iff.mp hf
    exact fill_base w0 w gN gV gS gF cN cS cC n s c t v l r1 r2 r3 r4 k h hln hb ht cf (Option.some.inj hf)
  rw [if_neg hln] at hf
  obtain ⟨Av, cv, ev⟩ := Kd.R_slice h.row
  subst ev
  have cN_ : w.cell? ⟨gN, 0, none⟩ = some (.int .i64 n) := (blk_cell h.bN 0).trans rfl
  have c1 : ((l.length : Int) == n) = false := beq_eq_false_iff_ne.mpr hln
  have HH := Aside0.mk h
  have HF := Aside0.mk hf
  have HI := Aside0.mk ih
  have Hl := Aside0.mk hl
  have Hln := Aside0.mk hln
  have Hn := Aside0.mk hn
  have HK0 := Aside0.mk (Kept.refl w (fun k => k = cC ∨ some k = (Value.slice Av l.length cv).ownBlock))
  clear h hf ih hl hln hn
  go_enter Try.func56, Try.ntmps56
  go_wp2
  go_loopg [20] k (fun kq v20 w' => ∃ (row c' : Int), v20 = .int .i64 row ∧ Aside0 (0 ≤ row) ∧ Aside0 (Sb w0 gN gV gS gF cN cS cC n s (.func (.func 33) #[] #[.pointer (some ⟨cN, 0, none⟩), .pointer (some ⟨cS, 0, none⟩), .pointer (some ⟨cC, 0, none⟩)]) (.func (.func 56) #[] #[.pointer (some ⟨gN, 0, none⟩), .pointer (some ⟨gV, 0, none⟩), .pointer (some ⟨gS, 0, none⟩), .pointer (some ⟨gF, 0, none⟩)]) (.slice Av l.length cv) l w' c') ∧ Aside0 (fillL (fillC k n s j) k n l kq row c' = some cf) ∧ Aside0 (Kept w w' (fun k => k = cC ∨ some k = (Value.slice Av l.length cv).ownBlock)))
  case atStart => exact ⟨0, c, rfl, ⟨by omega⟩, HH, HF, HK0⟩
  case round =>
    clear cN_
    obtain ⟨row, c', rfl, H0, HS, HL, HKp⟩ := hrel
    cases gk with
    | zero => have h_ := HL.out; simp [fillL] at h_
    | succ k1 =>
    have hL := HL.out
    simp only [fillL] at hL
    clear HL
    by_cases hlt : row < n
    · rw [if_pos hlt] at hL
      obtain ⟨b, hb, hL⟩ := Option.bind_eq_some_iff.mp hL
      have Hb := Aside0.mk hb
      have c5 : decide (row < n) = true := decide_eq_true hlt
      have hwr : IntKind.i64.wrap (row + 1) = row + 1 := by rw [IntKind.wrap_i64]; have := H0.out; have := Hn.out; omega
      have Hlt := Aside0.mk hlt
      clear hlt hb
      cases b with
      | true =>
        rw [if_pos rfl] at hL
        have HL := Aside0.mk hL
        clear hL
        go_wp2_with (go_at_call 59; (with_reducible refine (slices_Contains_int_int.calls k Av cv l row true _ ?s1 ?s2 Hb.out).mono ?_); (case s1 => exact (Kd.R_reads' HS.out.row).2.2); (case s2 => exact (Kd.R_reads' HS.out.row).2.1); rintro e w1 ⟨rfl, ⟨nd, rfl⟩⟩; have HS1 := Aside0.mk (HS.out.step (show Below wr.heap.size wr (wr.drewN nd) from pw_below_drewN (Below.refl _ _) _)); have HK1 := Aside0.mk (HKp.out.below (show Below wr.heap.size wr (wr.drewN nd) from pw_below_drewN (Below.refl _ _) _)))
        go_roundg k1
        case measure => omega
        case rel => exact ⟨row + 1, c', rfl, ⟨by have := H0.out; omega⟩, HS1, HL, HK1⟩
      | false =>
        rw [if_neg (by decide)] at hL
        obtain ⟨c2, hc2, hL⟩ := Option.bind_eq_some_iff.mp hL
        have HL := Aside0.mk hL
        have HC2 := Aside0.mk hc2
        clear hL hc2
        go_upto_region 6 with (go_at_call 59; (with_reducible refine (slices_Contains_int_int.calls k Av cv l row false _ ?s1 ?s2 Hb.out).mono ?_); (case s1 => exact (Kd.R_reads' HS.out.row).2.2); (case s2 => exact (Kd.R_reads' HS.out.row).2.1); rintro e w1 ⟨rfl, ⟨nd, rfl⟩⟩; have HS1 := Aside0.mk (HS.out.step (show Below wr.heap.size wr (wr.drewN nd) from pw_below_drewN (Below.refl _ _) _)); have HK1 := Aside0.mk (HKp.out.below (show Below wr.heap.size wr (wr.drewN nd) from pw_below_drewN (Below.refl _ _) _)))
        have hd := Aside0.mk HS1.out.drew
        have hKd := Aside0.mk (Kept.drew HK1.out)
        have hcF : (wr.drewN nd).drew.cell? ⟨gF, 0, none⟩ = some (.func (.func 56) #[] #[.pointer (some ⟨gN, 0, none⟩), .pointer (some ⟨gV, 0, none⟩), .pointer (some ⟨gS, 0, none⟩), .pointer (some ⟨gF, 0, none⟩)]) := (blk_cell hd.out.bF 0).trans rfl
        refine start_ (n := 6) (S := fun w' => w'.cell? ⟨gF, 0, none⟩ = some (.func (.func 56) #[] #[.pointer (some ⟨gN, 0, none⟩), .pointer (some ⟨gV, 0, none⟩), .pointer (some ⟨gS, 0, none⟩), .pointer (some ⟨gF, 0, none⟩)])) (ds := [5]) #[false, false, false, false, false, false] (by kernel_rfl) rfl rfl hcF (fun hHeld => ?_)
        generalize (wr.drewN nd).drew = wd at hd hKd hcF hHeld ⊢
        refine pure_ (i := 1) (N := some 28) (v := ?_) (a' := ?_) #[false, true, false, false, false, false] rfl rfl (by kernel_rfl) (fun _ _ _ h => h) (Or.inl ⟨by rfl, ?_⟩) ?_ ?_
        rotate_left
        · intro w'
          go_simp
          with_reducible rfl
        rotate_left
        · simp only [Act.put, List.setIfInBounds_toArray, List.set_cons_zero, List.set_cons_succ, i64_w, i32_w]
          rfl
        refine pure_ (i := 2) (N := some 29) (v := ?_) (a' := ?_) #[false, true, true, false, false, false] rfl rfl (by kernel_rfl) (fun _ _ _ h => h) (Or.inl ⟨by rfl, ?_⟩) ?_ ?_
        rotate_left
        · intro w'
          go_simp
          with_reducible rfl
        rotate_left
        · simp only [Act.put, List.setIfInBounds_toArray, List.set_cons_zero, List.set_cons_succ, i64_w, i32_w]
          rfl
        refine take_ (i := 0) (N := some 27) (v := ?_) (a' := ?_) #[true, true, true, false, false, false] rfl rfl (by kernel_rfl) (fun _ _ _ h => h) (Or.inl ⟨by rfl, ?_⟩) hHeld ?_ ?_
        rotate_left
        · intro w' s0
          go_simp
          with_reducible rfl
        rotate_left
        · simp only [Act.put, List.setIfInBounds_toArray, List.set_cons_zero, List.set_cons_succ, i64_w, i32_w]
          rfl
        refine one_ (i := 3) (N := some 30) #[true, true, true, true, false, false] rfl rfl (by kernel_rfl) (by decide) (fun K hK => ?_)
        refine value_ (w1 := wd.alloc (.cells #[.int .i64 row] 3)) (v := .slice (some ⟨wd.heap.size, 0, none⟩) 1 1) (by rfl) rfl (by first | (go_simp; done) | (go_simp; rfl)) ?_
        refine hK.out _ _ ((pw_cell_below (below_alloc (Below.refl _ _) _) hcF).trans rfl) (fun hHeld3 => ?_)
        clear hK K hHeld
        refine norm_ (a' := ?_) ?_ ?_
        rotate_left
        · show Act.put _ (some 30) _ = _
          simp only [Act.put, List.setIfInBounds_toArray, List.set_cons_zero, List.set_cons_succ, i64_w, i32_w]
          rfl
        have hl1000 : l.length ≤ 1000 := by have := Hl.out; have := Hn.out; omega
        obtain ⟨v1, w1, hrun, hr1, hg1, hat1⟩ := push_run w0.heap.size _ (.slice Av l.length cv) l row wd 25 hd.out.row hd.out.size hl1000
        have hp := Aside0.mk (hd.out.push hr1 hg1 hat1)
        have G1 := Aside0.mk hg1
        have A1 := Aside0.mk hat1
        have cF1 : w1.cell? ⟨gF, 0, none⟩ = some (.func (.func 56) #[] #[.pointer (some ⟨gN, 0, none⟩), .pointer (some ⟨gV, 0, none⟩), .pointer (some ⟨gS, 0, none⟩), .pointer (some ⟨gF, 0, none⟩)]) := (blk_cell hp.out.bF 0).trans rfl
        refine one_ (i := 4) (N := some 31) #[true, true, true, true, true, false] rfl rfl (by kernel_rfl) (by decide) (fun K hK => ?_)
        refine value_ (w1 := w1) (v := v1) (by rfl) rfl (by unfold execOp; simp only [resolve, invoke, builtin, Sem.run_bind, Sem.run_pure, Result.andThen_ok, List.map_toArray, List.map_cons, List.map_nil]; simp [Act.eval, hrun]) ?_
        refine hK.out _ _ cF1 (fun hHeld4 => ?_)
        clear hK K hHeld3 hrun hr1 hg1 hat1
        refine norm_ (a' := ?_) ?_ ?_
        rotate_left
        · show Act.put _ (some 31) _ = _
          simp only [Act.put, List.setIfInBounds_toArray, List.set_cons_zero, List.set_cons_succ, i64_w, i32_w]
          rfl
        refine last_ (i := 5) (N := some 32) #[true, true, true, true, true, true] rfl rfl (by kernel_rfl) (by decide) (fun K hK => ?_)
        refine call_ 56 #[v1, .pointer (some ⟨gN, 0, none⟩), .pointer (some ⟨gV, 0, none⟩), .pointer (some ⟨gS, 0, none⟩), .pointer (some ⟨gF, 0, none⟩)] (by rfl) rfl ?_ ?_
        · have he := enters_ (P := Try.prog) Try.func56 (by kernel_rfl) rfl #[v1, .pointer (some ⟨gN, 0, none⟩), .pointer (some ⟨gV, 0, none⟩), .pointer (some ⟨gS, 0, none⟩), .pointer (some ⟨gF, 0, none⟩)] w1
          unfold execOp
          simp [resolve, Deferred.ofValue, invoke, Act.eval, he]
        refine (HI.out (l ++ [row]) c' c2 v1 w1 hp.out HC2.out (by have := Hl.out; have := Hln.out; simp; omega)).mono ?_
        rintro e w2 ⟨⟨u, rfl⟩, hS2, hk2⟩
        refine ⟨_, rfl, ?_⟩
        obtain ⟨hS3, hk3⟩ := hd.out.pop G1.out A1.out hS2 hk2
        have S3 := Aside0.mk hS3
        have K3 := Aside0.mk (hKd.out.then_ hk3 (fun k hk => .inl hk))
        refine hK.out _ _ ?_
        clear hK K hS2 hk2 hS3 hk3
        refine norm_ (a' := ?_) ?_ ?_
        rotate_left
        · show Act.put _ (some 32) _ = _
          simp only [Act.put, List.setIfInBounds_toArray, List.set_cons_zero, List.set_cons_succ, i64_w, i32_w]
          rfl
        refine done_ (by kernel_rfl) ?_
        try go_wp2
        go_roundg k1
        case measure => omega
        case rel => exact ⟨row + 1, c2, rfl, ⟨by have := H0.out; omega⟩, S3, HL, K3⟩
    · rw [if_neg hlt] at hL
      have c5 : decide (row < n) = false := decide_eq_false hlt
      obtain rfl := Option.some.inj hL
      clear hlt hL
      go_wp2
      go_end0
      exact ⟨⟨_, rfl⟩, HS.out, HKp.out⟩
theorem ent_start (w : World) (n s : Int) (fV : Value) (nd : Nat) : ∀ w5, (((((w.alloc (.cells #[.int .i64 n] 3)).alloc (.cells #[.int .i64 s] 3)).alloc (.cells #[fV] 50)).drewN nd).alloc (.cells #[.nilFunc] 77)) = w5 → Below w.heap.size w w5 ∧ w5.heap[w.heap.size]? = some (.cells #[.int .i64 n] 3 (0, 0)) ∧ w5.heap[w.heap.size + 1]? = some (.cells #[.int .i64 s] 3 (0, 0)) ∧ w5.heap[w.heap.size + 1 + 1]? = some (.cells #[fV] 50 (0, 0)) ∧ w5.heap[w.heap.size + 1 + 1 + 1]? = some (.cells #[.nilFunc] 77 (0, 0)) := by
  rintro w5 rfl
  refine ⟨below_alloc (pw_below_drewN (below_alloc (below_alloc (below_alloc (Below.refl _ _) _) _) _) _) _, ?_, ?_, ?_, ?_⟩
  · exact blk_alloc (blk_drewN (blk_alloc (blk_alloc (heap_alloc_new w _) _) _) _) _
  · refine blk_alloc (blk_drewN (blk_alloc ?_ _) _) _
    simpa using heap_alloc_new (w.alloc (.cells #[.int .i64 n] 3)) (.cells #[.int .i64 s] 3)
  · refine blk_alloc (blk_drewN ?_ _) _
    simpa using heap_alloc_new ((w.alloc (.cells #[.int .i64 n] 3)).alloc (.cells #[.int .i64 s] 3)) (.cells #[fV] 50)
  · simpa using heap_alloc_new ((((w.alloc (.cells #[.int .i64 n] 3)).alloc (.cells #[.int .i64 s] 3)).alloc (.cells #[fV] 50)).drewN nd) (.cells #[.nilFunc] 77)
set_option maxHeartbeats 8000000 in
set_option maxRecDepth 100000 in
theorem ent_yes (w0 w : World) (cN cS cC : Nat) (n s c cf : Int) (k : Nat) (hb : Below w0.heap.size w0 w) (aN : w.heap[cN]? = some (.cells #[.int .i64 n] 3 (0, 0))) (aS : w.heap[cS]? = some (.cells #[.int .i64 s] 3 (0, 0))) (aC : w.heap[cC]? = some (.cells #[.int .i64 c] 3 (0, 0)))
    (lo : w0.heap.size ≤ cC) (d1 : cC ≠ cN) (d2 : cC ≠ cS) (h1 : impl_within.f n 1 6 = some true) (h2 : impl_within.f s 1 5 = some true) (hn : n ≤ 1000) (h0 : 0 ≤ n) (hf : fillC k n s k [] c = some cf) :
    Calls Try.prog 32 #[.int .i64 n, .int .i64 s, (.func (.func 33) #[] #[.pointer (some ⟨cN, 0, none⟩), .pointer (some ⟨cS, 0, none⟩), .pointer (some ⟨cC, 0, none⟩)])] w fun e w' => e = .returned (.bool true) ∧ Below w0.heap.size w0 w' ∧ w'.heap[cC]? = some (.cells #[.int .i64 cf] 3 (0, 0)) := by
  have hmf : ∀ (fn : Fn) (first cap : Array Value) (w : World), (Instr.makeFunc fn first cap).run Try.prog w = .ok (.func fn first cap) w := fun _ _ _ _ => rfl
  have H1 := Aside0.mk h1
  have H2 := Aside0.mk h2
  have HB := Aside0.mk hb
  have HN := Aside0.mk aN
  have HS := Aside0.mk aS
  have HC := Aside0.mk aC
  have LO := Aside0.mk lo
  have D1 := Aside0.mk d1
  have D2 := Aside0.mk d2
  have Hn := Aside0.mk hn
  have H0 := Aside0.mk h0
  have HF := Aside0.mk hf
  clear hb aN aS aC lo d1 d2 h1 h2 hn h0 hf
  go_enter Try.func32, Try.ntmps32
  go_upto_region 4 with (first
    | (go_at_call 55; (with_reducible refine (impl_within.calls n 1 6 true _ H1.out).mono ?_); rintro e w1 ⟨rfl, ⟨nd2, rfl⟩⟩)
    | (go_at_call 55; (with_reducible refine (impl_within.calls s 1 5 true _ H2.out).mono ?_); rintro e w1 ⟨rfl, ⟨nd, rfl⟩⟩))
  obtain ⟨w5, HW5⟩ : ∃ w5, (((((w.alloc (.cells #[.int .i64 n] 3)).alloc (.cells #[.int .i64 s] 3)).alloc (.cells #[(.func (.func 33) #[] #[.pointer (some ⟨cN, 0, none⟩), .pointer (some ⟨cS, 0, none⟩), .pointer (some ⟨cC, 0, none⟩)])] 50)).drewN (nd2 + nd)).alloc (.cells #[.nilFunc] 77)) = w5 := ⟨_, rfl⟩
  rw [HW5]
  obtain ⟨hbel, hN, hS, hV, hF⟩ := ent_start w n s (.func (.func 33) #[] #[.pointer (some ⟨cN, 0, none⟩), .pointer (some ⟨cS, 0, none⟩), .pointer (some ⟨cC, 0, none⟩)]) _ w5 HW5
  clear HW5
  have B5 := Aside0.mk hbel
  have N5 := Aside0.mk hN
  have S5 := Aside0.mk hS
  have V5 := Aside0.mk hV
  have F5 := Aside0.mk hF
  have hs9 : w5.cell? ⟨w.heap.size + 1 + 1 + 1, 0, none⟩ = some .nilFunc := (blk_cell hF 0).trans rfl
  have hf9 := blk_frozen hF 0
  clear hbel hN hS hV hF
  go_upto_region 5 with fail
  have hst : Sb w0 w.heap.size (w.heap.size + 1 + 1) (w.heap.size + 1) (w.heap.size + 1 + 1 + 1) cN cS cC n s (.func (.func 33) #[] #[.pointer (some ⟨cN, 0, none⟩), .pointer (some ⟨cS, 0, none⟩), .pointer (some ⟨cC, 0, none⟩)]) (.func (.func 56) #[] #[.pointer (some ⟨w.heap.size, 0, none⟩), .pointer (some ⟨w.heap.size + 1 + 1, 0, none⟩), .pointer (some ⟨w.heap.size + 1, 0, none⟩), .pointer (some ⟨w.heap.size + 1 + 1 + 1, 0, none⟩)]) (.slice none 0 0) [] (w5.setCell ⟨w.heap.size + 1 + 1 + 1, 0, none⟩ (.func (.func 56) #[] #[.pointer (some ⟨w.heap.size, 0, none⟩), .pointer (some ⟨w.heap.size + 1 + 1, 0, none⟩), .pointer (some ⟨w.heap.size + 1, 0, none⟩), .pointer (some ⟨w.heap.size + 1 + 1 + 1, 0, none⟩)])) c :=
    ⟨below_set (below_step HB.out B5.out) (by have := below_size HB.out; omega), (Below.heap_setCell _ _ _ _ (by simp <;> omega)).trans N5.out, (Below.heap_setCell _ _ _ _ (by simp <;> omega)).trans S5.out, (Below.heap_setCell _ _ _ _ (by simp <;> omega)).trans V5.out, blk_put (cs := #[.nilFunc]) F5.out 0 _ rfl,
      (Below.heap_setCell _ _ _ _ (by have := blk_lt HN.out; simp <;> omega)).trans ((B5.out.block _ (blk_lt HN.out)).trans HN.out), (Below.heap_setCell _ _ _ _ (by have := blk_lt HS.out; simp <;> omega)).trans ((B5.out.block _ (blk_lt HS.out)).trans HS.out), (Below.heap_setCell _ _ _ _ (by have := blk_lt HC.out; simp <;> omega)).trans ((B5.out.block _ (blk_lt HC.out)).trans HC.out),
      LO.out, ⟨by have := blk_lt HC.out; omega, by have := blk_lt HC.out; omega, D1.out, D2.out⟩, Kd.R_nil _ _ _ _ _, fun k hk => by simp [Value.ownBlock] at hk⟩
  have HST := Aside0.mk hst
  clear hst
  generalize w5.setCell ⟨w.heap.size + 1 + 1 + 1, 0, none⟩ (.func (.func 56) #[] #[.pointer (some ⟨w.heap.size, 0, none⟩), .pointer (some ⟨w.heap.size + 1 + 1, 0, none⟩), .pointer (some ⟨w.heap.size + 1, 0, none⟩), .pointer (some ⟨w.heap.size + 1 + 1 + 1, 0, none⟩)]) = w6 at HST ⊢
  clear hs9 hf9
  have cF : w6.cell? ⟨w.heap.size + 1 + 1 + 1, 0, none⟩ = some (.func (.func 56) #[] #[.pointer (some ⟨w.heap.size, 0, none⟩), .pointer (some ⟨w.heap.size + 1 + 1, 0, none⟩), .pointer (some ⟨w.heap.size + 1, 0, none⟩), .pointer (some ⟨w.heap.size + 1 + 1 + 1, 0, none⟩)]) := (blk_cell HST.out.bF 0).trans rfl
  go_wp2_with (go_at_call 56; (with_reducible refine (fill_calls w0 _ _ _ _ cN cS cC n s k Hn.out k [] c cf _ w6 HST.out HF.out (by simpa using H0.out)).mono ?_); rintro e w2 ⟨⟨u, rfl⟩, hS2, hk2⟩)
  go_ret
  exact ⟨rfl, hS2.bel, hS2.aC⟩
set_option maxHeartbeats 8000000 in
set_option maxRecDepth 100000 in
theorem ent_bad (w : World) (n s : Int) (cN cS cC : Nat) (h : impl_within.f n 1 6 = some false ∨ (impl_within.f n 1 6 = some true ∧ impl_within.f s 1 5 = some false)) :
    Calls Try.prog 32 #[.int .i64 n, .int .i64 s, (.func (.func 33) #[] #[.pointer (some ⟨cN, 0, none⟩), .pointer (some ⟨cS, 0, none⟩), .pointer (some ⟨cC, 0, none⟩)])] w fun e w' => e = .returned (.bool false) ∧ Below w.heap.size w w' := by
  rcases h with h1 | ⟨h1, h2⟩
  · have H1 := Aside0.mk h1
    clear h1
    go_enter Try.func32, Try.ntmps32
    go_wp2_with (go_at_call 55; (with_reducible refine (impl_within.calls n 1 6 false _ H1.out).mono ?_); rintro e w1 ⟨rfl, ⟨nd2, rfl⟩⟩)
    go_ret
    exact ⟨rfl, by repeat (first | exact Below.refl _ _ | apply below_alloc | apply pw_below_drewN)⟩
  · have H1 := Aside0.mk h1
    have H2 := Aside0.mk h2
    clear h1 h2
    go_enter Try.func32, Try.ntmps32
    go_wp2_with (first
      | (go_at_call 55; (with_reducible refine (impl_within.calls n 1 6 true _ H1.out).mono ?_); rintro e w1 ⟨rfl, ⟨nd2, rfl⟩⟩)
      | (go_at_call 55; (with_reducible refine (impl_within.calls s 1 5 false _ H2.out).mono ?_); rintro e w1 ⟨rfl, ⟨nd, rfl⟩⟩))
    go_ret
    exact ⟨rfl, by repeat (first | exact Below.refl _ _ | apply below_alloc | apply pw_below_drewN)⟩
theorem cb_start (w : World) (n s : Int) : ∀ w5, (((w.alloc (.cells #[.int .i64 n] 3)).alloc (.cells #[.int .i64 s] 3)).alloc (.cells #[.int .i64 0] 3)) = w5 → Below w.heap.size w w5 ∧ w5.heap[w.heap.size]? = some (.cells #[.int .i64 n] 3 (0, 0)) ∧ w5.heap[w.heap.size + 1]? = some (.cells #[.int .i64 s] 3 (0, 0)) ∧ w5.heap[w.heap.size + 1 + 1]? = some (.cells #[.int .i64 0] 3 (0, 0)) := by
  rintro w5 rfl
  refine ⟨below_alloc (below_alloc (below_alloc (Below.refl _ _) _) _) _, ?_, ?_, ?_⟩
  · exact blk_alloc (blk_alloc (heap_alloc_new w _) _) _
  · refine blk_alloc ?_ _
    simpa using heap_alloc_new (w.alloc (.cells #[.int .i64 n] 3)) (.cells #[.int .i64 s] 3)
  · simpa using heap_alloc_new ((w.alloc (.cells #[.int .i64 n] 3)).alloc (.cells #[.int .i64 s] 3)) (.cells #[.int .i64 0] 3)
set_option maxHeartbeats 8000000 in
set_option maxRecDepth 100000 in
theorem cb_yes (w : World) (n s cf : Int) (k : Nat) (h1 : impl_within.f n 1 6 = some true) (h2 : impl_within.f s 1 5 = some true) (hn : n ≤ 1000) (h0 : 0 ≤ n) (hf : fillC k n s k [] 0 = some cf) :
    Calls Try.prog 10 #[.int .i64 n, .int .i64 s] w fun e w' => e = .returned (.tuple #[.int .i64 cf, .bool true]) ∧ Below w.heap.size w w' := by
  have hmf : ∀ (fn : Fn) (first cap : Array Value) (w : World), (Instr.makeFunc fn first cap).run Try.prog w = .ok (.func fn first cap) w := fun _ _ _ _ => rfl
  have H1 := Aside0.mk h1
  have H2 := Aside0.mk h2
  have Hn := Aside0.mk hn
  have H0 := Aside0.mk h0
  have HF := Aside0.mk hf
  clear h1 h2 hn h0 hf
  go_enter Try.func10, Try.ntmps10
  go_upto_region 2 with fail
  obtain ⟨w5, e5⟩ : ∃ w5, (((w.alloc (.cells #[.int .i64 n] 3)).alloc (.cells #[.int .i64 s] 3)).alloc (.cells #[.int .i64 0] 3)) = w5 := ⟨_, rfl⟩
  rw [e5]
  obtain ⟨hbel, hN, hS, hC⟩ := cb_start w n s w5 e5
  clear e5
  have B5 := Aside0.mk hbel
  have N5 := Aside0.mk hN
  have S5 := Aside0.mk hS
  have C5 := Aside0.mk hC
  have s1 : w5.cell? ⟨w.heap.size, 0, none⟩ = some (.int .i64 n) := (blk_cell hN 0).trans rfl
  have s2 : w5.cell? ⟨w.heap.size + 1, 0, none⟩ = some (.int .i64 s) := (blk_cell hS 0).trans rfl
  have s4 : w5.cell? ⟨w.heap.size + 1 + 1, 0, none⟩ = some (.int .i64 0) := (blk_cell hC 0).trans rfl
  clear hbel hN hS hC
  go_upto_region 3 with (go_at_call 32; (with_reducible refine (ent_yes w w5 _ _ _ n s 0 cf k B5.out N5.out S5.out C5.out (by omega) (by omega) (by omega) H1.out H2.out Hn.out H0.out HF.out).mono ?_); rintro e w6 ⟨rfl, hb6, hc6⟩; have B6 := Aside0.mk hb6; have s3 : w6.cell? ⟨w.heap.size + 1 + 1, 0, none⟩ = some (.int .i64 cf) := (blk_cell hc6 0).trans rfl; clear s1 s2 hb6 hc6)
  go_wp2
  go_ret2
  exact ⟨rfl, B6.out⟩
set_option maxHeartbeats 8000000 in
set_option maxRecDepth 100000 in
theorem cb_no (w : World) (n s : Int) (h1 : impl_within.f n 1 6 = some false ∨ (impl_within.f n 1 6 = some true ∧ impl_within.f s 1 5 = some false)) :
    Calls Try.prog 10 #[.int .i64 n, .int .i64 s] w fun e w' => e = .returned (.tuple #[.int .i64 0, .bool false]) ∧ Below w.heap.size w w' := by
  have hmf : ∀ (fn : Fn) (first cap : Array Value) (w : World), (Instr.makeFunc fn first cap).run Try.prog w = .ok (.func fn first cap) w := fun _ _ _ _ => rfl
  have H1 := Aside0.mk h1
  clear h1
  go_enter Try.func10, Try.ntmps10
  go_upto_region 2 with fail
  obtain ⟨w5, e5⟩ : ∃ w5, (((w.alloc (.cells #[.int .i64 n] 3)).alloc (.cells #[.int .i64 s] 3)).alloc (.cells #[.int .i64 0] 3)) = w5 := ⟨_, rfl⟩
  rw [e5]
  obtain ⟨hbel, hN, hS, hC⟩ := cb_start w n s w5 e5
  clear e5
  have B5 := Aside0.mk hbel
  have N5 := Aside0.mk hN
  have S5 := Aside0.mk hS
  have C5 := Aside0.mk hC
  have s1 : w5.cell? ⟨w.heap.size, 0, none⟩ = some (.int .i64 n) := (blk_cell hN 0).trans rfl
  have s2 : w5.cell? ⟨w.heap.size + 1, 0, none⟩ = some (.int .i64 s) := (blk_cell hS 0).trans rfl
  have s4 : w5.cell? ⟨w.heap.size + 1 + 1, 0, none⟩ = some (.int .i64 0) := (blk_cell hC 0).trans rfl
  clear hbel hN hS hC
  go_upto_region 3 with (go_at_call 32; (with_reducible refine (ent_bad w5 n s _ _ _ H1.out).mono ?_); rintro e w6 ⟨rfl, hb6⟩; have B6 := Aside0.mk (below_step B5.out hb6); have s3 : w6.cell? ⟨w.heap.size + 1 + 1, 0, none⟩ = some (.int .i64 0) := (blk_cell (blk_below (o := .cells #[.int .i64 0] 3 (0, 0)) C5.out hb6) 0).trans rfl; clear s1 s2 s4 hb6)
  go_wp2
  go_ret2
  exact ⟨rfl, B6.out⟩
def impl_CountBest.f (k : Nat) (a0 a1 : Int) : Option (Int × Bool) := (impl_within.f a0 1 6).bind fun t => (if t = true then ((impl_within.f a1 1 5).bind fun u => (if u = true then ((fillC k a0 a1 k [] 0).bind fun c => (some (c, true))) else (some (0, false)))) else (some (0, false)))
theorem impl_CountBest.calls (k : Nat) (a0 : Int) (a1 : Int) (r1 : Int) (r2 : Bool) (w : World) (h : impl_CountBest.f k a0 a1 = some (r1, r2)) :
    Calls Try.prog 10 #[.int .i64 a0, .int .i64 a1] w fun e w' => e = .returned (.tuple #[.int .i64 r1, .bool r2]) ∧ Below w.heap.size w w' := by
  unfold impl_CountBest.f at h
  obtain ⟨t, h1, h⟩ := Option.bind_eq_some_iff.mp h
  cases t with
  | false =>
    rw [if_neg (by decide)] at h
    simp only [Option.some.injEq, Prod.mk.injEq] at h
    obtain ⟨rfl, rfl⟩ := h
    exact cb_no w a0 a1 (.inl h1)
  | true =>
    rw [if_pos rfl] at h
    obtain ⟨u, h2, h⟩ := Option.bind_eq_some_iff.mp h
    cases u with
    | false =>
      rw [if_neg (by decide)] at h
      simp only [Option.some.injEq, Prod.mk.injEq] at h
      obtain ⟨rfl, rfl⟩ := h
      exact cb_no w a0 a1 (.inr ⟨h1, h2⟩)
    | true =>
      rw [if_pos rfl] at h
      obtain ⟨c, hf, h⟩ := Option.bind_eq_some_iff.mp h
      simp only [Option.some.injEq, Prod.mk.injEq] at h
      obtain ⟨rfl, rfl⟩ := h
      have h6 : 1 ≤ a0 ∧ a0 ≤ 6 := by
        unfold impl_within.f at h1
        by_cases c : a0 ≥ 1
        · rw [if_pos c] at h1
          simp only [Option.some.injEq, decide_eq_true_eq] at h1
          omega
        · rw [if_neg c] at h1; simp at h1
      exact cb_yes w a0 a1 _ k h1 h2 (by omega) (by omega) hf
theorem fillL_mono {F G : List Int → Int → Option Int} (kc : Nat) (n : Int) (l : List Int) (hF : ∀ l c, LeO (F l c) (G l c)) : ∀ (m : Nat) (row c : Int), LeO (fillL F kc n l m row c) (fillL G (kc + 1) n l (m + 1) row c)
  | 0, _, _ => LeO.none _
  | m + 1, row, c => by
    simp only [fillL]
    refine LeO.ite (LeO.bind (slices_Contains_int_int.mono _ _ _) fun b => ?_) (LeO.refl _)
    exact LeO.ite (fillL_mono kc n l hF m _ _) (LeO.bind (hF _ _) fun c' => fillL_mono kc n l hF m _ _)
theorem fillC_mono (k : Nat) (n s : Int) : ∀ (j : Nat) (l : List Int) (c : Int), LeO (fillC k n s j l c) (fillC (k + 1) n s (j + 1) l c)
  | 0, _, _ => LeO.none _
  | j + 1, l, c => by
    simp only [fillC]
    exact LeO.ite (LeO.bind (impl_board.mono _ _ _ _) fun b => LeO.refl _) (fillL_mono k n l (fillC_mono k n s j) k 0 c)
theorem impl_CountBest.mono : ∀ a0 a1 k, LeO (impl_CountBest.f k a0 a1) (impl_CountBest.f (k + 1) a0 a1) := by
  intro a0 a1 k
  unfold impl_CountBest.f
  refine LeO.bind (LeO.refl _) fun t => LeO.ite (LeO.bind (LeO.refl _) fun u => LeO.ite (LeO.bind (fillC_mono k a0 a1 k [] 0) fun c => LeO.refl _) (LeO.refl _)) (LeO.refl _)

/-! ### laws_FnExactCountBest: function 3 -/
def laws_FnExactCountBest.f (k : Nat) (a0 : Int) (a1 : Int) : Option (Bool) := (spec_CountBest.f k a0 a1).bind fun bt284 => ((impl_CountBest.f k a0 a1).bind fun bt286 => (if bt286.1 = bt284.1 then (if (bt286.2 != bt284.2) = true then (some false) else (some true)) else (some false)))
theorem laws_FnExactCountBest.mono : ∀ a0 a1 k, LeO (laws_FnExactCountBest.f k a0 a1) (laws_FnExactCountBest.f (k + 1) a0 a1) := by
  intro a0 a1 k
  unfold laws_FnExactCountBest.f
  repeat' first
      | (with_reducible exact impl_CountBest.mono _ _ _)
      | (with_reducible exact spec_CountBest.mono _ _ _)
      | (with_reducible exact LeO.refl _)
      | (with_reducible exact LeO.none _)
      | (with_reducible refine LeO.ite ?_ ?_)
      | (with_reducible refine LeO.bind ?_ (fun _ => ?_))
      | exact impl_CountBest.mono _ _ _
      | exact spec_CountBest.mono _ _ _
      | exact LeO.none _
      | refine LeO.ite ?_ ?_
      | refine LeO.bind ?_ (fun _ => ?_)
set_option maxHeartbeats 8000000 in
set_option maxRecDepth 100000 in
theorem laws_FnExactCountBest.calls (k : Nat) (a0 : Int) (a1 : Int) (w : World) (h : laws_FnExactCountBest.f k a0 a1 = some true) :
    Calls Try.prog 3 #[.int .i64 a0, .int .i64 a1] w fun e w' => e = .returned (.bool true) ∧ Below w.heap.size w w' := by
  have HB := Aside0.mk (Below.refl w.heap.size w)
  have H : ((spec_CountBest.f k a0 a1).bind fun bt284 => ((impl_CountBest.f k a0 a1).bind fun bt286 => (if bt286.1 = bt284.1 then (if (bt286.2 != bt284.2) = true then (some false) else (some true)) else (some false)))) = some true := h
  clear h
  replace H := Option.bind_eq_some_iff.mp H
  obtain ⟨⟨t284, t285⟩, A30, H⟩ := H
  replace H : ((impl_CountBest.f k a0 a1).bind fun bt286 => (if bt286.1 = t284 then (if (bt286.2 != t285) = true then (some false) else (some true)) else (some false))) = some true := H
  have A3 := Aside0.mk A30
  clear A30
  replace H := Option.bind_eq_some_iff.mp H
  obtain ⟨⟨t286, t287⟩, A40, H⟩ := H
  replace H : (if t286 = t284 then (if (t287 != t285) = true then (some false) else (some true)) else (some false)) = some true := H
  have A4 := Aside0.mk A40
  clear A40
  by_cases c5 : t286 = t284
  · rw [if_pos c5] at H
    have c5b0 : (t286 == t284) = true := beq_iff_eq.mpr c5
    have c5b1 : (t286 != t284) = false := bne_eq_false_iff_eq.mpr c5
    clear c5
    by_cases c6 : (t287 != t285) = true
    · rw [if_pos c6] at H
      have c6b0 : (t287 != t285) = true := c6
      (try (have c6b1 : decide (t287 = t285) = false := by simpa using c6))
      (try (have c6b2 : (t287 == t285) = false := by simpa using c6))
      (try (have c6b3 : ¬ (t287 = t285) := by simpa using c6))
      clear c6
      exact absurd (Option.some.inj H) (by decide)
    · rw [if_neg c6] at H
      have c6b0 : (t287 != t285) = false := by simpa using c6
      (try (have c6b1 : decide (t287 = t285) = true := by simpa using c6))
      (try (have c6b2 : (t287 == t285) = true := by simpa using c6))
      clear c6
      clear H
      go_enter Try.func3, Try.ntmps3
      go_wp2_with (first | ((with_reducible refine gate_callee (f := 9) rfl ?_); refine goesL_ (some 12) rfl rfl Try.func9 (by kernel_rfl) rfl #[.int .i64 a0, .int .i64 a1] rfl (by (try simp only [List.map_toArray, List.map_cons, List.map_nil]); first | done | rfl | (simp only [List.length_drop, List.length_take]; rfl)) ?_; (with_reducible refine (spec_CountBest.calls k a0 a1 t284 t285 _ A3.out).mono ?_); rintro e w7 ⟨rfl, hb⟩; refine ⟨_, rfl, ?_⟩; have n0_ := Aside0.mk (below_step (by repeat (first | (with_reducible first | exact HB.out | apply below_alloc | apply pw_below_drewN | apply below_drew1) | exact HB.out)) hb); clear HB; have HB := n0_; clear n0_; (try clear hb); (try clear hb2); (try clear hk); (try clear hi)) | ((with_reducible refine gate_callee (f := 10) rfl ?_); refine goesL_ (some 18) rfl rfl Try.func10 (by kernel_rfl) rfl #[.int .i64 a0, .int .i64 a1] rfl (by (try simp only [List.map_toArray, List.map_cons, List.map_nil]); first | done | rfl | (simp only [List.length_drop, List.length_take]; rfl)) ?_; (with_reducible refine (impl_CountBest.calls k a0 a1 t286 t287 _ A4.out).mono ?_); rintro e w8 ⟨rfl, hb⟩; refine ⟨_, rfl, ?_⟩; have n0_ := Aside0.mk (below_step (by repeat (first | (with_reducible first | exact HB.out | apply below_alloc | apply pw_below_drewN | apply below_drew1) | exact HB.out)) hb); clear HB; have HB := n0_; clear n0_; (try clear hb); (try clear hb2); (try clear hk); (try clear hi)))
      go_ret
      exact ⟨by first | rfl | (simp [errW_none, errW_some] <;> rfl) | (simp [*, errW_none, errW_some] <;> rfl), by repeat (first | (with_reducible first | exact HB.out | apply below_alloc | apply pw_below_drewN | apply below_drew1) | exact HB.out)⟩
  · rw [if_neg c5] at H
    have c5b0 : (t286 == t284) = false := beq_eq_false_iff_ne.mpr c5
    have c5b1 : (t286 != t284) = true := bne_iff_ne.mpr c5
    exact absurd (Option.some.inj H) (by decide)

/-- THE ONE PURE STATEMENT of laws_FnExactCountBest: yours. -/
def laws_FnExactCountBest.Pure : Prop := ∀ (a0 : Int) (a1 : Int), (Lit.int .i64 a0).wf = true → (Lit.int .i64 a1).wf = true → ∃ k, laws_FnExactCountBest.f k a0 a1 = some true
theorem laws_FnExactCountBest.walk (P : laws_FnExactCountBest.Pure) (a0 : Int) (a1 : Int) (w : World) (w0 : (Lit.int .i64 a0).wf = true) (w1 : (Lit.int .i64 a1).wf = true) :
    Calls Try.prog 3 #[.int .i64 a0, .int .i64 a1] w fun e w' => e = .returned (.bool true) ∧ Below w.heap.size w w' := by
  obtain ⟨k, h⟩ := P a0 a1 w0 w1
  refine (laws_FnExactCountBest.calls k a0 a1 w h).mono ?_
  rintro e w' ⟨rfl, hd⟩
  exact ⟨rfl, hd⟩

end Go.Proofs.Ytoodiahlofeikaa.PFnExactCountBest
