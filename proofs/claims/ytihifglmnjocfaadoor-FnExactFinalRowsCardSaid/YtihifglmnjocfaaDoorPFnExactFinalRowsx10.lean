/- Given functions as plain Lean functions, and that their calls answer these. -/
import Derived.Test.YtihifglmnjocfaaDoorPFnExactFinalRowsx0
import Derived.Test.YtihifglmnjocfaaDoorPFnExactFinalRowsx1
import Derived.Test.YtihifglmnjocfaaDoorPFnExactFinalRowsx8
import Derived.Test.YtihifglmnjocfaaDoorPFnExactFinalRowsx9
namespace Go.Proofs.YtihifglmnjocfaaDoor.PFnExactFinalRows
open Go.RowKit Go.Proofs.YtihifglmnjocfaaDoorW.PrintWords Go.Proofs.YtihifglmnjocfaaDoorW.PrintLast Go.Proofs.YtihifglmnjocfaaDoorW.PrintMore
attribute [local go_sem] max2_int min2_int max_two min_two max_three min_three max_four min_four
set_option maxHeartbeats 8000000
set_option maxRecDepth 100000
set_option linter.unusedVariables false
set_option linter.unusedSimpArgs false

/-! ### spec_FinalRows: function 13 -/
set_option linter.unnecessarySimpa false
/-! The reference's FinalRows: each row laid in its place. -/
theorem inf29 : (Tryd.prog.info? 29).map (fun i => (i.zero, i.size, i.bytes)) = some (some (.agg #[(.int .i64 0), (.bool false), (.slice none 0 0)]), 3, 40) := by kernel_rfl
theorem zero29 : ((Value.agg #[(.int .i64 0), (.bool false), (.slice none 0 0)] : Value).cells).size = 3 := by kernel_rfl
/-- A row whose elements are read in one world. -/
def fx29 (w4 : World) : Kd S29 where
 sz := 3
 E := []
 K := fun _ x cs => k29.K w4 x cs
 M := fun _ _ _ x cs => k29.K w4 x cs
 K_len := fun h => k29.K_len h
 K_one := fun h => k29.K_one h
 K_below := fun _ h => h
 K_of_M := fun h => h
 M_mono := fun _ h => h
 M_bound := fun h => h
 M_move := fun _ h => h
 M_lower := fun _ h => h
theorem fx_C {w4 w' : World} {A : Option Addr} {n : Nat} {S : List S29} (h : (fx29 w4).C w' A n S) (hb : Below w4.heap.size w4 w') : k29.C w' A n S := ReadsRow.imp_ h (Below.refl _ _) (fun _ _ hp => k29.K_below hb hp)
def insK (k : Nat) (x : List Int) (S : List S29) : Nat → Option Nat
 | 0 => some 0
 | j + 1 => (spec_l4Before.f k x (S.getD j z29).f2).bind fun b => if b = true then insK k x S j else some (j + 1)
def insAll (k : Nat) (n : Int) (ring : Bool) : List (List Int) → List S29 → Option (List S29)
 | [], S => some S
 | x :: xs, S => (insK k x S S.length).bind fun j => insAll k n ring xs ((S.take j ++ [⟨n, ring, x⟩]) ++ S.drop j)
theorem insK_le {k : Nat} {x : List Int} {S : List S29} {r : Nat} : ∀ {j : Nat}, insK k x S j = some r → r ≤ j
 | 0, h => by simp only [insK, Option.some.injEq] at h; omega
 | j + 1, h => by
  simp only [insK] at h
  obtain ⟨b, -, h⟩ := Option.bind_eq_some_iff.mp h
  cases b with
  | true => rw [if_pos rfl] at h; have := insK_le h; omega
  | false => rw [if_neg (by decide)] at h; have := Option.some.inj h; omega
def spec_FinalRows.f (k : Nat) (n : Int) (ring : Bool) (l : List Int) : Option (List S29 × Bool) :=
 (spec_l4Row.f k n ring l).bind fun b => if b = true then (spec_l4Finals.f k n ring l).bind fun p => if p.1.length ≤ 100000 then (insAll k n ring p.1 []).bind fun S => some (S, true) else none else some ([], false)
theorem made_calls (n : Int) (ring : Bool) (A A1 : Option Addr) (a c m c1 : Nat) (w : World) :
  Calls Tryd.prog 35 #[.agg #[.int .i64 n, .bool ring, .slice A a c], .slice A1 m c1] w fun e w' => e = .returned (.agg #[.int .i64 n, .bool ring, .slice A1 m c1]) ∧ Below w.heap.size w w' := by
 have hu29 := Tryd.underlying29
 have HB := A_.mk (Below.refl w.heap.size w)
 go_enter Tryd.func35, Tryd.ntmps35
 go_wp2_with (first
  | ((with_reducible refine gate_dst (N := 2) rfl ?_); refine box_event ?hg (N := 2) ?hd (cs := #[.int .i64 n, .bool ring, .slice A a c]) (t := 29) ?hr ?_; (case hd => rfl); (case hg => rfl); (case hr => (go_simp; done)); intro ga hg w1 hbox hb; have BA := A_.mk hbox; have B1 := A_.mk (below_step HB.out hb); clear hg hbox hb)
  | ((with_reducible refine gate_dst (N := 4) rfl ?_); refine box_event ?hg (N := 4) ?hd (cs := #[.int .i64 0, .bool false, .slice none 0 0]) (t := 29) ?hr ?_; (case hd => rfl); (case hg => rfl); (case hr => (go_simp; done)); intro gc hg w2 hbox hb; have BC := A_.mk hbox; have BA2 := A_.mk (blk_below (g := ga) (o := .cells #[.int .i64 n, .bool ring, .slice A a c] 29 (0, 0)) BA.out hb); have B2 := A_.mk (below_step B1.out hb); have GC := A_.mk (show w.heap.size ≤ gc by rw [hg]; exact below_size B1.out); clear hg hbox hb; have s0 : w2.cell? ⟨ga, 0, none⟩ = some (.int .i64 n) := (blk_cell BA2.out 0).trans rfl; have s1 : w2.cell? ⟨ga, 1, none⟩ = some (.bool ring) := (blk_cell BA2.out 1).trans rfl; have z0 : w2.cell? ⟨gc, 0, none⟩ = some (.int .i64 0) := (blk_cell BC.out 0).trans rfl; have z1 : w2.cell? ⟨gc, 1, none⟩ = some (.bool false) := (blk_cell BC.out 1).trans rfl; have z2 : w2.cell? ⟨gc, 2, none⟩ = some (.slice none 0 0) := (blk_cell BC.out 2).trans rfl; have f0 := blk_frozen BC.out 0; have f1 := blk_frozen BC.out 1; have f2 := blk_frozen BC.out 2))
 refine bodyPost_ret (results_cell_row rfl _ _ gc 29 #[.int .i64 n, .bool ring, .slice A1 m c1] (0, 0) _ rfl (by (with_reducible repeat (refine blk_drewN ?_ _)); refine blk_put (cs := #[.int .i64 n, .bool ring, .slice none 0 0]) ?_ 2 _ rfl; (with_reducible repeat (refine blk_drewN ?_ _)); refine blk_put (cs := #[.int .i64 n, .bool false, .slice none 0 0]) ?_ 1 _ rfl; (with_reducible repeat (refine blk_drewN ?_ _)); refine blk_put (cs := #[.int .i64 0, .bool false, .slice none 0 0]) ?_ 0 _ rfl; (with_reducible repeat (refine blk_drewN ?_ _)); exact BC.out) Tryd.underlying29 rfl (by kernel_rfl)) rfl ?_
 exact ⟨rfl, by repeat ((with_reducible first | exact B2.out | refine below_set ?_ GC.out))⟩
theorem emptyR (d : Kd S29) (hd : d.sz = 3) (w : World) (base g : Nat) (hb : base ≤ g) (h : w.heap[g]? = some (.cells #[] 29 (0, 0))) : d.R 29 w base (fun b => b = g) (.slice (some ⟨g, 0, none⟩) 0 0) [] :=
 ⟨fun b hb => by simp only [Value.ownBlock, Option.some.injEq] at hb; exact hb.symm, [], ⟨by simp, .inr ⟨g, 0, #[], rfl, hb, h, Nat.le_refl _, Nat.zero_le _, by simp, by simp⟩⟩, Reps.none _ _⟩
theorem fin_at {w4 : World} {base : Nat} {ok : Nat → Prop} {AF : Option Addr} {cF : Nat} {F : List (List Int)} (h : Kd.R (Kd.slice 3 (Kd.int .i64)) 22 w4 base ok (.slice AF F.length cF) F) (hp : 0 < F.length) :
  ∃ gF, AF = some ⟨gF, 0, none⟩ ∧ ∀ i (hi : i < F.length), ∃ Ax cx, F[i].length ≤ cx ∧ (Kd.int .i64).C w4 Ax F[i].length F[i] ∧ ∀ w', Below w4.heap.size w4 w' → w'.cell? ⟨gF, i, none⟩ = some (.slice Ax F[i].length cx) := by
 obtain ⟨gF, cap, ev, -, -, -⟩ := Kd.R_form h hp
 injection ev with e1 _ _
 subst e1
 refine ⟨gF, rfl, fun i hi => ?_⟩
 obtain ⟨ad, Ax, cx, ea, hc, hl, hr⟩ := at_L2 (Kd.R_reads' h).2.2 (i : Int) (by omega) (by omega)
 injection ea with ea
 subst ea
 have hg : rd_L2 F (i : Int) = F[i] := by unfold rd_L2; rw [Int.toNat_natCast, List.getD_eq_getElem?_getD, List.getElem?_eq_getElem hi]; rfl
 rw [hg] at hc hl hr
 rw [Int.toNat_natCast, add_plain] at hc
 exact ⟨Ax, cx, hl, hr, fun w' hb => (pw_cell_below hb hc).trans rfl⟩
theorem specFin_yes (k : Nat) (n : Int) (ring : Bool) (A : Option Addr) (c : Nat) (l : List Int) (F : List (List Int)) (CC : List S26) (S : List S29) (w : World) (hr : Kd.C (Kd.int .i64) w A l.length l) (hc : l.length ≤ c) (hi : spec_l4Row.f k n ring l = some true) (hf : spec_l4Finals.f k n ring l = some (F, CC)) (hlen : F.length ≤ 100000) (hS : insAll k n ring F [] = some S) :
  Calls Tryd.prog 13 #[.agg #[.int .i64 n, .bool ring, .slice A l.length c]] w fun e w' => ∃ A1 c1, e = .returned (.tuple #[.slice A1 S.length c1, .bool true]) ∧ S.length ≤ c1 ∧ Kd.C k29 w' A1 S.length S ∧ Below w.heap.size w w' := by
 have hu29 := Tryd.underlying29
 have hu34 := Tryd.underlying34
 have HR := A_.mk hr
 have HC := A_.mk hc
 have HI := A_.mk hi
 have HF := A_.mk hf
 have HS := A_.mk hS
 have HLEN := A_.mk hlen
 have HBw := A_.mk (Below.refl w.heap.size w)
 clear hr hc hi hf hS hlen
 go_enter Tryd.func13, Tryd.ntmps13
 go_upto_region 1 with (first
  | ((with_reducible refine gate_dst (N := 1) rfl ?_); refine box_event ?hg (N := 1) ?hd (cs := #[.int .i64 n, .bool ring, .slice A l.length c]) (t := 29) ?hr ?_; (case hd => rfl); (case hg => rfl); (case hr => (go_simp; done)); intro ga hg w1 hbox hb; have BA1 := A_.mk hbox; have B1 := A_.mk (below_step HBw.out hb); have GA := A_.mk (show w.heap.size ≤ ga by rw [hg]; exact below_size HBw.out); clear hg hbox hb))
 have E2 := A_.mk (show (w1.alloc (.cells #[] 29)).heap[w1.heap.size]? = some (.cells #[] 29 (0, 0)) from blk_new w1 _)
 have B2 := A_.mk (below_alloc B1.out (.cells #[] 29))
 have BA2 := A_.mk (blk_alloc BA1.out (.cells #[] 29))
 have G0 := A_.mk (below_size B1.out)
 obtain ⟨g0, hg0⟩ : ∃ g, g = w1.heap.size := ⟨_, rfl⟩
 go_upto_region 2 with fail
 rw [← hg0] at E2 G0 ⊢
 clear hg0 B1 BA1
 generalize w1.alloc (.cells #[] 29) = w2 at E2 B2 BA2 ⊢
 have s0 : w2.cell? ⟨ga, 0, none⟩ = some (.int .i64 n) := (blk_cell BA2.out 0).trans rfl
 have s1 : w2.cell? ⟨ga, 1, none⟩ = some (.bool ring) := (blk_cell BA2.out 1).trans rfl
 have s2 : w2.cell? ⟨ga, 2, none⟩ = some (.slice A l.length c) := (blk_cell BA2.out 2).trans rfl
 go_upto_region 4 with (go_at_call 33; (with_reducible refine (spec_l4Row.calls k n ring A c l true _ (Kd.C_below HR.out B2.out) HC.out HI.out).mono ?_); rintro e w3 ⟨rfl, hb⟩; have B3 := A_.mk (below_step B2.out hb); have BA3 := A_.mk (blk_below (g := ga) (o := .cells #[.int .i64 n, .bool ring, .slice A l.length c] 29 (0, 0)) BA2.out hb); have E3 := A_.mk (blk_below (g := g0) (o := .cells #[] 29 (0, 0)) E2.out hb); clear hb s0 s1 s2)
 clear B2 BA2 E2
 have s0 : w3.cell? ⟨ga, 0, none⟩ = some (.int .i64 n) := (blk_cell BA3.out 0).trans rfl
 have s1 : w3.cell? ⟨ga, 1, none⟩ = some (.bool ring) := (blk_cell BA3.out 1).trans rfl
 have s2 : w3.cell? ⟨ga, 2, none⟩ = some (.slice A l.length c) := (blk_cell BA3.out 2).trans rfl
 go_wp2_with (go_at_call 25; (with_reducible refine (spec_l4Finals.calls k n ring A c l F CC _ (Kd.C_below HR.out B3.out) HC.out HF.out).mono ?_); rintro e w4 ⟨vF, vC, rfl, hrF, -, hb⟩; obtain ⟨AF, cF, rfl⟩ := Kd.R_slice hrF; have B4 := A_.mk (below_step B3.out hb); have BA4 := A_.mk (blk_below (g := ga) (o := .cells #[.int .i64 n, .bool ring, .slice A l.length c] 29 (0, 0)) BA3.out hb); have E4 := A_.mk (blk_below (g := g0) (o := .cells #[] 29 (0, 0)) E3.out hb); have FAT := A_.mk (fin_at hrF); clear hb s0 s1 s2 hrF)
 clear B3 BA3 E3
 have R4 := A_.mk (emptyR (fx29 w4) rfl w4 w.heap.size g0 G0.out E4.out)
 have W4 := A_.mk (Below.refl w4.heap.size w4)

 go_loopg [4, 7] (F.length + 1) (fun kq v4 v7 w' => ∃ (i : Nat) (Si : List S29), v7 = .int .i64 (i : Int) ∧ i + kq = F.length + 1 ∧ i ≤ F.length ∧ Si.length = i ∧ A_ (insAll k n ring (F.drop i) Si = some S) ∧ A_ ((fx29 w4).R 29 w' w.heap.size (fun _ => True) v4 Si) ∧ A_ (Below w4.heap.size w4 w'))
 case atStart => exact ⟨0, [], rfl, by omega, by omega, rfl, ⟨by rw [List.drop_zero]; exact HS.out⟩, ⟨Kd.R_mono R4.out fun _ _ => trivial⟩, W4⟩
 case round =>
  clear R4 W4
  obtain ⟨i, Si, rfl, hik, hi, hSi, HMi, RSi, HBi⟩ := hrel
  obtain ⟨A4, c4, e4⟩ := Kd.R_slice RSi.out
  subst e4
  cases gk with
  | zero => omega
  | succ k1 =>
  by_cases hlt : i < F.length
  ·have c5 : decide ((i : Int) < (F.length : Int)) = true := decide_eq_true (by omega)
   have hM := HMi.out
   rw [List.drop_eq_getElem_cons hlt] at hM
   simp only [insAll] at hM
   obtain ⟨jf, hj, hrest⟩ := Option.bind_eq_some_iff.mp hM
   have hjle := insK_le hj
   obtain ⟨gF, hgF, hat⟩ := FAT.out (by omega)
   subst hgF
   obtain ⟨Ax, cx, hxl, hxr, hxc⟩ := hat i hlt
   have HJ := A_.mk hj
   have HREST := A_.mk hrest
   have HJL := A_.mk hjle
   have XC := A_.mk hxc
   have XL := A_.mk hxl
   have XR := A_.mk hxr
   have HSL := A_.mk hSi
   clear hM hj hrest hjle hxc hxl hxr HMi hat hSi
   go_upto_block 2 with fail
   go_cut [8] (fun v8 wc => v8 = .int .i64 (jf : Int) ∧ A_ ((fx29 w4).R 29 wc w.heap.size (fun _ => True) (.slice A4 Si.length c4) Si) ∧ A_ (Below w4.heap.size w4 wc))
   case first =>
    go_wp2_with fail
    go_loopg [8] (Si.length + 1) (fun kq v8 w' => ∃ j : Nat, v8 = .int .i64 (j : Int) ∧ j ≤ Si.length ∧ kq = j + 1 ∧ A_ (insK k F[i] Si j = some jf) ∧ A_ ((fx29 w4).R 29 w' w.heap.size (fun _ => True) (.slice A4 Si.length c4) Si) ∧ A_ (Below w4.heap.size w4 w'))
    case atStart => exact ⟨Si.length, rfl, Nat.le_refl _, rfl, HJ, RSi, HBi⟩
    case round =>
     clear RSi HBi
     obtain ⟨j, rfl, hjl, hkj, HJj, RSj, HBj⟩ := hrel
     cases j with
     | zero =>
      have hz := HJj.out
      simp only [insK, Option.some.injEq] at hz
      subst hz
      have c0 : decide ((0 : Int) < ((0 : Nat) : Int)) = false := rfl
      go_upto_region 9 with fail
      have R9 := A_.mk (Kd.R_drew RSj.out)
      have B9 := A_.mk (below_drew1 HBj.out)
      refine start_ (n := 15) (S := fun w' => True) (ds := []) (m_ 15 0) (by kernel_rfl) rfl rfl trivial (fun hHeld => ?_)
      generalize World.drew _ = wd at *
      refine pure_ (i := 0) (N := some 27) (v := ?_) (a' := ?_) (m_ 15 1) rfl rfl (by kernel_rfl) (fun _ _ _ h => h) (Or.inl ⟨by rfl, ?_⟩) ?_ ?_
      rotate_left
      ·intro w'
       go_simp
       with_reducible rfl
      rotate_left
      ·simp only [Act.put, sI_, s0_, s1_, i64_w, i32_w]
       rfl
      refine pure_ (i := 1) (N := some 28) (v := ?_) (a' := ?_) (m_ 15 3) rfl rfl (by kernel_rfl) (fun _ _ _ h => h) (Or.inl ⟨by rfl, ?_⟩) ?_ ?_
      rotate_left
      ·intro w'
       go_simp
       with_reducible rfl
      rotate_left
      ·simp only [Act.put, sI_, s0_, s1_, i64_w, i32_w]
       rfl
      refine pure_ (i := 2) (N := some 29) (v := ?_) (a' := ?_) (m_ 15 7) rfl rfl (by kernel_rfl) (fun _ _ _ h => h) (Or.inl ⟨by rfl, ?_⟩) ?_ ?_
      rotate_left
      ·intro w'
       go_simp
       with_reducible rfl
      rotate_left
      ·simp only [Act.put, sI_, s0_, s1_, i64_w, i32_w]
       rfl
      refine pure_ (i := 3) (N := some 30) (v := undef) (a' := ?_) (m_ 15 15) rfl rfl (by kernel_rfl) (fun _ _ _ h => h) (Or.inr ⟨by rfl, rfl⟩) ?_ ?_
      rotate_left
      ·simp only [Act.put, sI_, s0_, s1_, i64_w, i32_w]
       rfl
      refine pure_ (i := 4) (N := some 31) (v := undef) (a' := ?_) (m_ 15 31) rfl rfl (by kernel_rfl) (fun _ _ _ h => h) (Or.inr ⟨by rfl, rfl⟩) ?_ ?_
      rotate_left
      ·simp only [Act.put, sI_, s0_, s1_, i64_w, i32_w]
       rfl
      refine pure_ (i := 5) (N := some 32) (v := undef) (a' := ?_) (m_ 15 63) rfl rfl (by kernel_rfl) (fun _ _ _ h => h) (Or.inr ⟨by rfl, rfl⟩) ?_ ?_
      rotate_left
      ·simp only [Act.put, sI_, s0_, s1_, i64_w, i32_w]
       rfl
      refine pure_ (i := 6) (N := some 33) (v := undef) (a' := ?_) (m_ 15 127) rfl rfl (by kernel_rfl) (fun _ _ _ h => h) (Or.inr ⟨by rfl, rfl⟩) ?_ ?_
      rotate_left
      ·simp only [Act.put, sI_, s0_, s1_, i64_w, i32_w]
       rfl
      refine pure_ (i := 7) (N := some 34) (v := undef) (a' := ?_) (m_ 15 255) rfl rfl (by kernel_rfl) (fun _ _ _ h => h) (Or.inr ⟨by rfl, rfl⟩) ?_ ?_
      rotate_left
      ·simp only [Act.put, sI_, s0_, s1_, i64_w, i32_w]
       rfl
      refine pure_ (i := 8) (N := some 35) (v := undef) (a' := ?_) (m_ 15 511) rfl rfl (by kernel_rfl) (fun _ _ _ h => h) (Or.inr ⟨by rfl, rfl⟩) ?_ ?_
      rotate_left
      ·simp only [Act.put, sI_, s0_, s1_, i64_w, i32_w]
       rfl
      refine pure_ (i := 9) (N := some 36) (v := undef) (a' := ?_) (m_ 15 1023) rfl rfl (by kernel_rfl) (fun _ _ _ h => h) (Or.inr ⟨by rfl, rfl⟩) ?_ ?_
      rotate_left
      ·simp only [Act.put, sI_, s0_, s1_, i64_w, i32_w]
       rfl
      refine pure_ (i := 10) (N := some 37) (v := undef) (a' := ?_) (m_ 15 2047) rfl rfl (by kernel_rfl) (fun _ _ _ h => h) (Or.inr ⟨by rfl, rfl⟩) ?_ ?_
      rotate_left
      ·simp only [Act.put, sI_, s0_, s1_, i64_w, i32_w]
       rfl
      refine pure_ (i := 11) (N := some 38) (v := undef) (a' := ?_) (m_ 15 4095) rfl rfl (by kernel_rfl) (fun _ _ _ h => h) (Or.inr ⟨by rfl, rfl⟩) ?_ ?_
      rotate_left
      ·simp only [Act.put, sI_, s0_, s1_, i64_w, i32_w]
       rfl
      refine pure_ (i := 12) (N := some 39) (v := undef) (a' := ?_) (m_ 15 8191) rfl rfl (by kernel_rfl) (fun _ _ _ h => h) (Or.inr ⟨by rfl, rfl⟩) ?_ ?_
      rotate_left
      ·simp only [Act.put, sI_, s0_, s1_, i64_w, i32_w]
       rfl
      refine pure_ (i := 13) (N := some 40) (v := undef) (a' := ?_) (m_ 15 16383) rfl rfl (by kernel_rfl) (fun _ _ _ h => h) (Or.inr ⟨by rfl, rfl⟩) ?_ ?_
      rotate_left
      ·simp only [Act.put, sI_, s0_, s1_, i64_w, i32_w]
       rfl
      refine pure_ (i := 14) (N := some 41) (v := ?_) (a' := ?_) (m_ 15 32767) rfl rfl (by kernel_rfl) (fun _ _ _ h => h) (Or.inl ⟨by rfl, ?_⟩) ?_ ?_
      rotate_left
      ·intro w'
       go_simp
       with_reducible rfl
      rotate_left
      ·simp only [Act.put, sI_, s0_, s1_, i64_w, i32_w]
       rfl
      refine done_ (by kernel_rfl) ?_
      go_wp2
      go_meet
      case rel => exact ⟨rfl, R9, B9⟩
     | succ j =>
      have hz := HJj.out
      simp only [insK] at hz
      obtain ⟨b, hb, hz⟩ := Option.bind_eq_some_iff.mp hz
      have c0 : decide ((0 : Int) < ((j + 1 : Nat) : Int)) = true := decide_eq_true (by omega)
      have c0b : decide (((j + 1 : Nat) : Int) > 0) = true := decide_eq_true (by omega)
      have hjw : wrap64 (((j + 1 : Nat) : Int) - 1) = (j : Int) := by have := HSL.out; have := HLEN.out; unfold wrap64; omega
      have hjw2 : wrap64 (j : Int) = (j : Int) := by have := HSL.out; have := HLEN.out; unfold wrap64; omega
      have hjs : j < Si.length := by omega
      have cj : decide ((j : Int) < (Si.length : Int)) = true := decide_eq_true (by omega)
      obtain ⟨g, cap, ev, -, -, -⟩ := Kd.R_form RSj.out (by omega)
      injection ev with ev1 ev2 ev3
      subst ev1
      obtain ⟨ad, Ay, cy, ead, -, -, hy2, hyl, hyr⟩ := at_T29 (fx_C (Kd.R_reads' RSj.out).2.2 HBj.out) (j : Int) (by omega) (by omega)
      injection ead with ead
      subst ead
      rw [Int.toNat_natCast, add_plain] at hy2
      have hyget : rd_T29 Si (j : Int) = Si.getD j z29 := by unfold rd_T29; rw [Int.toNat_natCast]
      obtain ⟨sj, hsj⟩ : ∃ s, Si.getD j z29 = s := ⟨_, rfl⟩
      rw [hyget, hsj] at hy2 hyl hyr
      rw [hsj] at hb
      clear hyget hsj
      have hx2 := (XC.out _ HBj.out)
      have YL := A_.mk hyl
      have YR := A_.mk hyr
      have HBB := A_.mk hb
      have HZ := A_.mk hz
      have R9 := A_.mk (Kd.R_drew RSj.out)
      have B9 := A_.mk (below_drew1 HBj.out)
      have X9 := A_.mk (Kd.C_below XR.out HBj.out)
      clear hb hz hyl hyr ev2 ev3
      go_upto_region 9 with fail
      refine start_ (n := 15) (S := fun w' => w'.cell? ⟨gF, i, none⟩ = some (.slice Ax F[i].length cx) ∧ w'.cell? ⟨g, j * 3 + 2, none⟩ = some (.slice Ay sj.f2.length cy)) (ds := [13]) (m_ 15 0) (by kernel_rfl) rfl rfl ⟨hx2, hy2⟩ (fun hHeld => ?_)
      have X10 := A_.mk (Kd.C_drew X9.out)
      have Y10 := A_.mk (Kd.C_drew YR.out)
      clear X9 YR
      generalize World.drew _ = wd at *
      refine pure_ (i := 0) (N := some 27) (v := ?_) (a' := ?_) (m_ 15 1) rfl rfl (by kernel_rfl) (fun _ _ _ h => h) (Or.inl ⟨by rfl, ?_⟩) ?_ ?_
      rotate_left
      ·intro w'
       go_simp
       with_reducible rfl
      rotate_left
      ·simp only [Act.put, sI_, s0_, s1_, i64_w, i32_w]
       rfl
      refine pure_ (i := 1) (N := some 28) (v := ?_) (a' := ?_) (m_ 15 3) rfl rfl (by kernel_rfl) (fun _ _ _ h => h) (Or.inl ⟨by rfl, ?_⟩) ?_ ?_
      rotate_left
      ·intro w'
       go_simp
       with_reducible rfl
      rotate_left
      ·simp only [Act.put, sI_, s0_, s1_, i64_w, i32_w]
       rfl
      refine pure_ (i := 2) (N := some 29) (v := ?_) (a' := ?_) (m_ 15 7) rfl rfl (by kernel_rfl) (fun _ _ _ h => h) (Or.inl ⟨by rfl, ?_⟩) ?_ ?_
      rotate_left
      ·intro w'
       go_simp
       with_reducible rfl
      rotate_left
      ·simp only [Act.put, sI_, s0_, s1_, i64_w, i32_w]
       rfl
      refine pure_ (i := 3) (N := some 30) (v := ?_) (a' := ?_) (m_ 15 15) rfl rfl (by kernel_rfl) (fun _ _ _ h => h) (Or.inl ⟨by rfl, ?_⟩) ?_ ?_
      rotate_left
      ·intro w'
       go_simp
       with_reducible rfl
      rotate_left
      ·simp only [Act.put, sI_, s0_, s1_, i64_w, i32_w]
       rfl
      refine pure_ (i := 4) (N := some 31) (v := ?_) (a' := ?_) (m_ 15 31) rfl rfl (by kernel_rfl) (fun _ _ _ h => h) (Or.inl ⟨by rfl, ?_⟩) ?_ ?_
      rotate_left
      ·intro w'
       go_simp
       with_reducible rfl
      rotate_left
      ·simp only [Act.put, sI_, s0_, s1_, i64_w, i32_w]
       rfl
      refine pure_ (i := 5) (N := some 32) (v := ?_) (a' := ?_) (m_ 15 63) rfl rfl (by kernel_rfl) (fun _ _ _ h => h) (Or.inl ⟨by rfl, ?_⟩) ?_ ?_
      rotate_left
      ·intro w'
       go_simp
       with_reducible rfl
      rotate_left
      ·simp only [Act.put, sI_, s0_, s1_, i64_w, i32_w]
       rfl
      refine take_ (i := 6) (N := some 33) (v := ?_) (a' := ?_) (m_ 15 127) rfl rfl (by kernel_rfl) (fun _ _ _ h => h) (Or.inl ⟨by rfl, ?_⟩) hHeld ?_ ?_
      rotate_left
      ·intro w' sh
       obtain ⟨s0, s1⟩ := sh
       go_simp
       with_reducible rfl
      rotate_left
      ·simp only [Act.put, sI_, s0_, s1_, i64_w, i32_w]
       rfl
      refine pure_ (i := 7) (N := some 34) (v := ?_) (a' := ?_) (m_ 15 255) rfl rfl (by kernel_rfl) (fun _ _ _ h => h) (Or.inl ⟨by rfl, ?_⟩) ?_ ?_
      rotate_left
      ·intro w'
       go_simp
       with_reducible rfl
      rotate_left
      ·simp only [Act.put, sI_, s0_, s1_, i64_w, i32_w]
       rfl
      refine pure_ (i := 8) (N := some 35) (v := ?_) (a' := ?_) (m_ 15 511) rfl rfl (by kernel_rfl) (fun _ _ _ h => h) (Or.inl ⟨by rfl, ?_⟩) ?_ ?_
      rotate_left
      ·intro w'
       go_simp
       with_reducible rfl
      rotate_left
      ·simp only [Act.put, sI_, s0_, s1_, i64_w, i32_w]
       rfl
      refine pure_ (i := 9) (N := some 36) (v := ?_) (a' := ?_) (m_ 15 1023) rfl rfl (by kernel_rfl) (fun _ _ _ h => h) (Or.inl ⟨by rfl, ?_⟩) ?_ ?_
      rotate_left
      ·intro w'
       go_simp
       with_reducible rfl
      rotate_left
      ·simp only [Act.put, sI_, s0_, s1_, i64_w, i32_w]
       rfl
      refine pure_ (i := 10) (N := some 37) (v := ?_) (a' := ?_) (m_ 15 2047) rfl rfl (by kernel_rfl) (fun _ _ _ h => h) (Or.inl ⟨by rfl, ?_⟩) ?_ ?_
      rotate_left
      ·intro w'
       go_simp
       with_reducible rfl
      rotate_left
      ·simp only [Act.put, sI_, s0_, s1_, i64_w, i32_w]
       rfl
      refine pure_ (i := 11) (N := some 38) (v := ?_) (a' := ?_) (m_ 15 4095) rfl rfl (by kernel_rfl) (fun _ _ _ h => h) (Or.inl ⟨by rfl, ?_⟩) ?_ ?_
      rotate_left
      ·intro w'
       go_simp
       with_reducible rfl
      rotate_left
      ·simp only [Act.put, sI_, s0_, s1_, i64_w, i32_w]
       rfl
      refine take_ (i := 12) (N := some 39) (v := ?_) (a' := ?_) (m_ 15 8191) rfl rfl (by kernel_rfl) (fun _ _ _ h => h) (Or.inl ⟨by rfl, ?_⟩) hHeld ?_ ?_
      rotate_left
      ·intro w' sh
       obtain ⟨s0, s1⟩ := sh
       go_simp
       with_reducible rfl
      rotate_left
      ·simp only [Act.put, sI_, s0_, s1_, i64_w, i32_w]
       rfl
      refine last_ (i := 13) (N := some 40) (m_ 15 16383) rfl rfl (by kernel_rfl) (by decide) (fun K hK => ?_)
      refine goes_ Tryd.func34 (by kernel_rfl) rfl #[.slice Ax F[i].length cx, .slice Ay sj.f2.length cy] (by rfl) rfl rfl (by (try simp only [List.map_toArray, List.map_cons, List.map_nil]); (rfl)) ?_
      refine (spec_l4Before.calls k Ax cx F[i] Ay cy sj.f2 b wd X10.out XL.out Y10.out YL.out HBB.out).mono ?_
      rintro e w5 ⟨rfl, hb⟩
      refine ⟨_, rfl, ?_⟩
      have R5 := A_.mk (Kd.R_below R9.out hb.below)
      have B5 := A_.mk (B9.out.trans (hb.below.mono (below_size B9.out)))
      refine hK.out _ _ ?_
      clear hK K hb R9 B9 hHeld
      refine norm_ (a' := ?_) ?_ ?_
      rotate_left
      ·show Act.put _ (some 40) _ = _
       simp only [Act.put, sI_, s0_, s1_, i64_w, i32_w]
       rfl
      refine pure_ (i := 14) (N := some 41) (v := ?_) (a' := ?_) (m_ 15 32767) rfl rfl (by kernel_rfl) (fun _ _ _ h => h) (Or.inl ⟨by rfl, ?_⟩) ?_ ?_
      rotate_left
      ·intro w'
       go_simp
       with_reducible rfl
      rotate_left
      ·simp only [Act.put, sI_, s0_, s1_, i64_w, i32_w]
       rfl
      refine done_ (by kernel_rfl) ?_
      have hz := HZ.out
      cases b with
      | true =>
       rw [if_pos rfl] at hz
       have HZ2 := A_.mk hz
       clear hz HZ
       go_wp2
       go_roundg (j + 1)
       case measure => omega
       case rel => exact ⟨j, rfl, by omega, rfl, HZ2, R5, B5⟩
      | false =>
       rw [if_neg (by decide)] at hz
       obtain rfl := Option.some.inj hz
       clear hz HZ
       go_wp2
       go_meet
       case rel => exact ⟨rfl, R5, B5⟩
   case rest =>
    clear RSi HBi HJ
    obtain ⟨rfl, RSc, HBc⟩ := hcut
    have hrl := Kd.R_reads' RSc.out
    have ROOM := A_.mk hrl.2.1
    obtain ⟨i0, hi0, _, hsz0, _⟩ := info_parts inf29
    have hcut1 := cut_to (P := Tryd.prog) 34 29 .i64 Tryd.underlying34 hi0 A4 Si.length c4 (jf : Int) (by omega) (by have := HJL.out; omega) hrl.2.1
    have hcut2 := cut_from (P := Tryd.prog) 34 29 .i64 Tryd.underlying34 hi0 3 hsz0 A4 Si.length c4 (jf : Int) (by omega) (by have := HJL.out; omega)
    rw [Int.toNat_natCast] at hcut1 hcut2
    obtain ⟨A5, hA5⟩ : ∃ A5, A5 = (if c4 = jf then A4 else A4.map (·.add (jf * 3))) := ⟨_, rfl⟩
    obtain ⟨m5, hm5⟩ : ∃ m5, m5 = Si.length - jf := ⟨_, rfl⟩
    obtain ⟨c6, hc6⟩ : ∃ c6, c6 = c4 - jf := ⟨_, rfl⟩
    rw [← hA5, ← hm5, ← hc6] at hcut2
    have hC1 : (fx29 w4).C wc A4 jf (Si.take jf) := by
     have h := Kd.C_take hrl.2.2 HJL.out
     rwa [List.length_take, Nat.min_eq_left HJL.out] at h
    have hC2 : (fx29 w4).C wc A5 m5 (Si.drop jf) := by
     have h := Kd.C_drop (c := c4) hrl.2.2 HJL.out hrl.2.1
     rw [List.length_drop] at h
     rw [hA5, hm5]
     exact h
    have C1 := A_.mk hC1
    have C2 := A_.mk hC2
    have M5 := A_.mk hm5
    have qj0 := eq_true (show (0 : Int) ≤ (jf : Int) by omega)
    have hxf := XC.out _ HBc.out
    have hbx := blk_below (g := ga) (o := .cells #[.int .i64 n, .bool ring, .slice A l.length c] 29 (0, 0)) BA4.out HBc.out
    have s0 : wc.cell? ⟨ga, 0, none⟩ = some (.int .i64 n) := (blk_cell hbx 0).trans rfl
    have s1 : wc.cell? ⟨ga, 1, none⟩ = some (.bool ring) := (blk_cell hbx 1).trans rfl
    have s2 : wc.cell? ⟨ga, 2, none⟩ = some (.slice A l.length c) := (blk_cell hbx 2).trans rfl
    have IW := A_.mk (show wrap64 ((i : Int) + 1) = ((i + 1 : Nat) : Int) from by have := HLEN.out; unfold wrap64; omega)
    clear hrl hC1 hC2 hi0 hsz0 hA5 hc6 hbx hm5
    go_upto_region 11 with fail
    have hd0 : wc.drew.cell? ⟨ga, 0, none⟩ = some (.int .i64 n) := s0
    have B0 := A_.mk (below_drew1 HBc.out)
    have D1 := A_.mk (Kd.C_drew C1.out)
    have D2 := A_.mk (Kd.C_drew C2.out)
    clear RSc HBc C1 C2 hd0
    have SA := A_.mk (show ∀ w', Below w4.heap.size w4 w' → (w'.cell? ⟨ga, 0, none⟩ = some (.int .i64 n) ∧ w'.cell? ⟨ga, 1, none⟩ = some (.bool ring) ∧ w'.cell? ⟨ga, 2, none⟩ = some (.slice A l.length c) ∧ w'.cell? ⟨gF, i, none⟩ = some (.slice Ax F[i].length cx)) from fun w' hb => ⟨(blk_cell (blk_below (g := ga) (o := .cells #[.int .i64 n, .bool ring, .slice A l.length c] 29 (0, 0)) BA4.out hb) 0).trans rfl, (blk_cell (blk_below (g := ga) (o := .cells #[.int .i64 n, .bool ring, .slice A l.length c] 29 (0, 0)) BA4.out hb) 1).trans rfl, (blk_cell (blk_below (g := ga) (o := .cells #[.int .i64 n, .bool ring, .slice A l.length c] 29 (0, 0)) BA4.out hb) 2).trans rfl, XC.out w' hb⟩)
    refine start_ (n := 18) (S := fun w' => w'.cell? ⟨ga, 0, none⟩ = some (.int .i64 n) ∧ w'.cell? ⟨ga, 1, none⟩ = some (.bool ring) ∧ w'.cell? ⟨ga, 2, none⟩ = some (.slice A l.length c) ∧ w'.cell? ⟨gF, i, none⟩ = some (.slice Ax F[i].length cx)) (ds := [10, 11, 12, 16]) (m_ 18 0) (by kernel_rfl) rfl rfl ⟨s0, s1, s2, hxf⟩ (fun hHeld => ?_)
    generalize wc.drew = wd at *
    clear s0 s1 s2 hxf
    refine pure_ (i := 1) (N := some 45) (v := ?_) (a' := ?_) (m_ 18 2) rfl rfl (by kernel_rfl) (fun _ _ _ h => h) (Or.inl ⟨by rfl, ?_⟩) ?_ ?_
    rotate_left
    ·intro w'
     go_simp
     with_reducible rfl
    rotate_left
    ·simp only [Act.put, sI_, s0_, s1_, i64_w, i32_w]
     rfl
    refine pure_ (i := 2) (N := some 46) (v := ?_) (a' := ?_) (m_ 18 6) rfl rfl (by kernel_rfl) (fun _ _ _ h => h) (Or.inl ⟨by rfl, ?_⟩) ?_ ?_
    rotate_left
    ·intro w'
     go_simp
     with_reducible rfl
    rotate_left
    ·simp only [Act.put, sI_, s0_, s1_, i64_w, i32_w]
     rfl
    refine pure_ (i := 3) (N := some 47) (v := ?_) (a' := ?_) (m_ 18 14) rfl rfl (by kernel_rfl) (fun _ _ _ h => h) (Or.inl ⟨by rfl, ?_⟩) ?_ ?_
    rotate_left
    ·intro w'
     go_simp
     with_reducible rfl
    rotate_left
    ·simp only [Act.put, sI_, s0_, s1_, i64_w, i32_w]
     rfl
    refine pure_ (i := 6) (N := some 50) (v := ?_) (a' := ?_) (m_ 18 78) rfl rfl (by kernel_rfl) (fun _ _ _ h => h) (Or.inl ⟨by rfl, ?_⟩) ?_ ?_
    rotate_left
    ·intro w'
     go_simp
     with_reducible rfl
    rotate_left
    ·simp only [Act.put, sI_, s0_, s1_, i64_w, i32_w]
     rfl
    refine pure_ (i := 7) (N := some 51) (v := ?_) (a' := ?_) (m_ 18 206) rfl rfl (by kernel_rfl) (fun _ _ _ h => h) (Or.inl ⟨by rfl, ?_⟩) ?_ ?_
    rotate_left
    ·intro w'
     go_simp
     with_reducible rfl
    rotate_left
    ·simp only [Act.put, sI_, s0_, s1_, i64_w, i32_w]
     rfl
    refine pure_ (i := 8) (N := some 52) (v := ?_) (a' := ?_) (m_ 18 462) rfl rfl (by kernel_rfl) (fun _ _ _ h => h) (Or.inl ⟨by rfl, ?_⟩) ?_ ?_
    rotate_left
    ·intro w'
     go_simp
     with_reducible rfl
    rotate_left
    ·simp only [Act.put, sI_, s0_, s1_, i64_w, i32_w]
     rfl
    refine pure_ (i := 13) (N := some 57) (v := ?_) (a' := ?_) (m_ 18 8654) rfl rfl (by kernel_rfl) (fun _ _ _ h => h) (Or.inl ⟨by rfl, ?_⟩) ?_ ?_
    rotate_left
    ·intro w'
     go_simp
     with_reducible rfl
    rotate_left
    ·simp only [Act.put, sI_, s0_, s1_, i64_w, i32_w]
     rfl
    refine pure_ (i := 14) (N := some 58) (v := ?_) (a' := ?_) (m_ 18 25038) rfl rfl (by kernel_rfl) (fun _ _ _ h => h) (Or.inl ⟨by rfl, ?_⟩) ?_ ?_
    rotate_left
    ·intro w'
     go_simp
     with_reducible rfl
    rotate_left
    ·simp only [Act.put, sI_, s0_, s1_, i64_w, i32_w]
     rfl
    refine pure_ (i := 15) (N := some 59) (v := ?_) (a' := ?_) (m_ 18 57806) rfl rfl (by kernel_rfl) (fun _ _ _ h => h) (Or.inl ⟨by rfl, ?_⟩) ?_ ?_
    rotate_left
    ·intro w'
     go_simp
     with_reducible rfl
    rotate_left
    ·simp only [Act.put, sI_, s0_, s1_, i64_w, i32_w]
     rfl
    refine take_ (i := 5) (N := some 49) (v := ?_) (a' := ?_) (m_ 18 57838) rfl rfl (by kernel_rfl) (fun _ _ _ h => h) (Or.inl ⟨by rfl, ?_⟩) hHeld ?_ ?_
    rotate_left
    ·intro w' sh
     obtain ⟨s0, s1, s2, s3⟩ := sh
     go_simp
     with_reducible rfl
    rotate_left
    ·simp only [Act.put, sI_, s0_, s1_, i64_w, i32_w]
     rfl
    refine take_ (i := 9) (N := some 53) (v := ?_) (a' := ?_) (m_ 18 58350) rfl rfl (by kernel_rfl) (fun _ _ _ h => h) (Or.inl ⟨by rfl, ?_⟩) hHeld ?_ ?_
    rotate_left
    ·intro w' sh
     obtain ⟨s0, s1, s2, s3⟩ := sh
     go_simp
     with_reducible rfl
    rotate_left
    ·simp only [Act.put, sI_, s0_, s1_, i64_w, i32_w]
     rfl
    refine one_ (i := 0) (N := some 44) (m_ 18 58351) rfl rfl (by kernel_rfl) (by decide) (fun K hK => ?_)
    refine value_ (w1 := wd.alloc (.cells #[] 29)) (v := .slice (some ⟨wd.heap.size, 0, none⟩) 0 0) (by rfl) rfl (by (go_simp; done)) ?_
    have h_ := emptyR (fx29 w4) rfl (wd.alloc (.cells #[] 29)) w4.heap.size wd.heap.size (below_size B0.out) (blk_new wd _)
    have hb_ := below_alloc B0.out (.cells #[] 29)
    have hd_ := below_alloc (Below.refl wd.heap.size wd) (.cells #[] 29)
    obtain ⟨g44, hg44⟩ : ∃ g, g = wd.heap.size := ⟨_, rfl⟩
    have O44 := A_.mk (show wd.heap.size ≤ g44 by omega)
    rw [← hg44] at h_ ⊢
    generalize wd.alloc (.cells #[] 29) = w5 at h_ hb_ hd_ ⊢
    have R5 := A_.mk (Kd.R_mono (ok' := fun b => w4.heap.size ≤ b) h_ (fun b hb => by rw [hb, hg44]; exact below_size B0.out))
    have B5 := A_.mk hb_
    have BD5 := A_.mk hd_
    refine hK.out _ _ (SA.out _ hb_) (fun hHeld5 => ?_)
    clear hK K h_ hb_ hd_ hg44
    refine norm_ (a' := ?_) ?_ ?_
    rotate_left
    ·show Act.put _ (some 44) _ = _
     simp only [Act.put, sI_, s0_, s1_, i64_w, i32_w]
     rfl
    refine one_ (i := 4) (N := some 48) (m_ 18 58367) rfl rfl (by kernel_rfl) (by decide) (fun K hK => ?_)
    refine Kd.R_append_rows_step (fx29 w4) (w0 := w4) w4.heap.size (by rfl) (.tmp 44) (.tmp 47) 34 29 (.agg #[(.int .i64 0), (.bool false), (.slice none 0 0)]) 40 rfl Tryd.underlying34 inf29 zero29 (show 0 < 3 by omega) (by omega) (.slice (some ⟨g44, 0, none⟩) 0 0) [] (Si.take jf) A4 jf c4 (fun b => w4.heap.size ≤ b) (fun _ => False) rfl rfl ?aO ?aR (fun _ _ h => h) (fun _ h => h.elim) ?aF ?aB ?aS ?aL ?_
    (case aR => exact Kd.C_below D1.out BD5.out)
    (case aB => exact B5.out)
    (case aF => exact fun b hb => Nat.le_trans (below_size B5.out) hb)
    (case aO => exact R5.out)
    (case aS => exact below_size B5.out)
    (case aL => have := HJL.out; have := HSL.out; have := HLEN.out; simp only [List.length_nil]; omega)
    intro v48 w6 ho hb hg hat
    have R6 := A_.mk ho
    have B6 := A_.mk hb
    have BD6 := A_.mk (BD5.out.grown hg (below_size BD5.out) (fun j hj => Nat.le_trans O44.out (Nat.le_of_eq (by simpa [Value.ownBlock] using hj))))
    have O48 := A_.mk (show ∀ j, v48.ownBlock = some j → wd.heap.size ≤ j from fun j hj => by
     rcases hat with h | ⟨b, h, h2⟩
     ·rw [h] at hj; exact Nat.le_trans O44.out (Nat.le_of_eq (by simpa [Value.ownBlock] using hj))
     ·rw [h] at hj; have := below_size BD5.out; have := Option.some.inj hj; omega)
    refine hK.out _ _ (SA.out _ hb) (fun hHeld6 => ?_)
    clear hK K ho hb hg hat R5 B5 BD5
    refine norm_ (a' := ?_) ?_ ?_
    rotate_left
    ·show Act.put _ (some 48) _ = _
     simp only [Act.put, sI_, s0_, s1_, i64_w, i32_w]
     rfl
    refine last_ (i := 10) (N := some 54) (m_ 18 59391) rfl rfl (by kernel_rfl) (by decide) (fun K hK => ?_)
    refine goes_ Tryd.func35 (by kernel_rfl) rfl #[.agg #[.int .i64 n, .bool ring, .slice A l.length c], .slice Ax F[i].length cx] (by rfl) rfl rfl (by (try simp only [List.map_toArray, List.map_cons, List.map_nil]); (rfl)) ?_
    refine (made_calls n ring A Ax l.length c F[i].length cx w6).mono ?_
    rintro e w7 ⟨rfl, hb⟩
    refine ⟨_, rfl, ?_⟩
    have R7 := A_.mk (Kd.R_below R6.out hb)
    have B7 := A_.mk (below_step B6.out hb)
    have BD7 := A_.mk (below_step BD6.out hb)
    refine hK.out _ _ ?_
    clear hK K hb R6 B6 BD6
    refine norm_ (a' := ?_) ?_ ?_
    rotate_left
    ·show Act.put _ (some 54) _ = _
     simp only [Act.put, sI_, s0_, s1_, i64_w, i32_w]
     rfl
    refine last_ (i := 11) (N := some 55) (m_ 18 61439) rfl rfl (by kernel_rfl) (by decide) (fun K hK => ?_)
    refine value_ (w1 := w7.alloc (.cells #[.int .i64 n, .bool ring, .slice Ax F[i].length cx] 29)) (v := .slice (some ⟨w7.heap.size, 0, none⟩) 1 1) (by rfl) rfl (by (go_simp; done)) ?_
    refine hK.out _ _ ?_
    clear hK K
    refine norm_ (a' := ?_) ?_ ?_
    rotate_left
    ·show Act.put _ (some 55) _ = _
     simp only [Act.put, sI_, s0_, s1_, i64_w, i32_w]
     rfl
    refine last_ (i := 12) (N := some 56) (m_ 18 65535) rfl rfl (by kernel_rfl) (by decide) (fun K hK => ?_)
    refine Kd.R_append_step (fx29 w4) (w0 := w4) (W := w7) w4.heap.size (by rfl) (.tmp 48) (.tmp 55) 34 29 (.agg #[(.int .i64 0), (.bool false), (.slice none 0 0)]) 40 rfl Tryd.underlying34 inf29 zero29 (show 0 < 3 by omega) (by omega) v48 ([] ++ Si.take jf) (⟨n, ring, F[i]⟩ : S29) [.int .i64 n, .bool ring, .slice Ax F[i].length cx] (fun b => w4.heap.size ≤ b) (fun _ => False) rfl rfl ?aP (fun _ h => h.elim) ?aF ?aO ?aB ?aS ?aL ?_
    (case aP => exact k29_mk w4 (⟨n, ring, F[i]⟩ : S29) XL.out XR.out)
    (case aB => exact B7.out)
    (case aF => exact fun b hb => Nat.le_trans (below_size B7.out) hb)
    (case aO => exact R7.out)
    (case aS => exact below_size B7.out)
    (case aL => have := HJL.out; have := HSL.out; have := HLEN.out; simp only [List.nil_append, List.length_take]; omega)
    intro v56 w9 ho hb hg hat
    have R9 := A_.mk ho
    have B9 := A_.mk hb
    have BD9 := A_.mk (BD7.out.grown hg (below_size BD7.out) (fun j hj => O48.out j hj))
    refine hK.out _ _ ?_
    clear hK K ho hb hg hat R7 B7 BD7 O48
    refine norm_ (a' := ?_) ?_ ?_
    rotate_left
    ·show Act.put _ (some 56) _ = _
     simp only [Act.put, sI_, s0_, s1_, i64_w, i32_w]
     rfl
    refine last_ (i := 16) (N := some 60) (m_ 18 131071) rfl rfl (by kernel_rfl) (by decide) (fun K hK => ?_)
    refine Kd.R_append_rows_step (fx29 w4) (w0 := w4) w4.heap.size (by rfl) (.tmp 56) (.tmp 59) 34 29 (.agg #[(.int .i64 0), (.bool false), (.slice none 0 0)]) 40 rfl Tryd.underlying34 inf29 zero29 (show 0 < 3 by omega) (by omega) v56 (([] ++ Si.take jf) ++ [(⟨n, ring, F[i]⟩ : S29)]) (Si.drop jf) A5 m5 c6 (fun b => w4.heap.size ≤ b) (fun _ => False) rfl rfl ?aO ?aR (fun _ _ h => h) (fun _ h => h.elim) ?aF ?aB ?aS ?aL ?_
    (case aR => exact Kd.C_below D2.out BD9.out)
    (case aB => exact B9.out)
    (case aF => exact fun b hb => Nat.le_trans (below_size B9.out) hb)
    (case aO => exact R9.out)
    (case aS => exact below_size B9.out)
    (case aL => have := HJL.out; have := HSL.out; have := HLEN.out; have := M5.out; simp only [List.nil_append, List.length_append, List.length_take, List.length_cons, List.length_nil]; omega)
    intro v60 w10 ho hb hg hat
    have R10 := A_.mk (show (fx29 w4).R 29 w10 w.heap.size (fun _ => True) v60 ((Si.take jf ++ [⟨n, ring, F[i]⟩]) ++ Si.drop jf) from Kd.R_mono (Kd.R_lower ho (below_size B4.out)) fun _ _ => trivial)
    have B10 := A_.mk hb
    refine hK.out _ _ ?_
    clear hK K ho hb hg hat R9 B9 BD9 D1 D2
    refine norm_ (a' := ?_) ?_ ?_
    rotate_left
    ·show Act.put _ (some 60) _ = _
     simp only [Act.put, sI_, s0_, s1_, i64_w, i32_w]
     rfl
    refine pure_ (i := 17) (N := some 4) (v := ?_) (a' := ?_) (m_ 18 262143) rfl rfl (by kernel_rfl) (fun _ _ _ h => h) (Or.inl ⟨by rfl, ?_⟩) ?_ ?_
    rotate_left
    ·intro w'
     go_simp
     with_reducible rfl
    rotate_left
    ·simp only [Act.put, sI_, s0_, s1_, i64_w, i32_w]
     rfl
    refine done_ (by kernel_rfl) ?_
    have hw := IW.out
    go_wp2
    go_roundg k1
    case measure => omega
    case rel => exact ⟨i + 1, (Si.take jf ++ [⟨n, ring, F[i]⟩]) ++ Si.drop jf, by rw [hw], by omega, by omega, by have := HJL.out; have := HSL.out; simp only [List.length_append, List.length_take, List.length_drop, List.length_cons, List.length_nil]; omega, HREST, R10, B10⟩
  ·obtain rfl : i = F.length := by omega
   have c5 : decide ((F.length : Int) < (F.length : Int)) = false := decide_eq_false (by omega)
   have hM := HMi.out
   rw [List.drop_length] at hM
   simp only [insAll, Option.some.injEq] at hM
   subst hM
   have RR := A_.mk (Kd.R_reads' RSi.out)
   clear hSi hik hi RSi HMi
   go_wp2
   go_ret2
   exact ⟨A4, c4, rfl, RR.out.2.1, fx_C RR.out.2.2 HBi.out, B4.out.trans (HBi.out.mono (below_size B4.out))⟩
theorem specFin_no (k : Nat) (n : Int) (ring : Bool) (A : Option Addr) (c : Nat) (l : List Int) (w : World) (hr : Kd.C (Kd.int .i64) w A l.length l) (hc : l.length ≤ c) (hi : spec_l4Row.f k n ring l = some false) :
  Calls Tryd.prog 13 #[.agg #[.int .i64 n, .bool ring, .slice A l.length c]] w fun e w' => ∃ A1, e = .returned (.tuple #[.slice A1 0 0, .bool false]) ∧ Below w.heap.size w w' := by
 have HR := A_.mk hr
 have HC := A_.mk hc
 have HI := A_.mk hi
 have HBw := A_.mk (Below.refl w.heap.size w)
 clear hr hc hi
 go_enter Tryd.func13, Tryd.ntmps13
 go_upto_region 1 with (first
  | ((with_reducible refine gate_dst (N := 1) rfl ?_); refine box_event ?hg (N := 1) ?hd (cs := #[.int .i64 n, .bool ring, .slice A l.length c]) (t := 29) ?hr ?_; (case hd => rfl); (case hg => rfl); (case hr => (go_simp; done)); intro ga hg w1 hbox hb; have BA1 := A_.mk hbox; have B1 := A_.mk (below_step HBw.out hb); clear hg hbox hb))
 have B2 := A_.mk (below_alloc B1.out (.cells #[] 29))
 have BA2 := A_.mk (blk_alloc BA1.out (.cells #[] 29))
 obtain ⟨g0, hg0⟩ : ∃ g, g = w1.heap.size := ⟨_, rfl⟩
 go_upto_region 2 with fail
 rw [← hg0]
 clear hg0 B1 BA1
 generalize w1.alloc (.cells #[] 29) = w2 at B2 BA2 ⊢
 have s0 : w2.cell? ⟨ga, 0, none⟩ = some (.int .i64 n) := (blk_cell BA2.out 0).trans rfl
 have s1 : w2.cell? ⟨ga, 1, none⟩ = some (.bool ring) := (blk_cell BA2.out 1).trans rfl
 have s2 : w2.cell? ⟨ga, 2, none⟩ = some (.slice A l.length c) := (blk_cell BA2.out 2).trans rfl
 go_wp2_with (go_at_call 33; (with_reducible refine (spec_l4Row.calls k n ring A c l false _ (Kd.C_below HR.out B2.out) HC.out HI.out).mono ?_); rintro e w3 ⟨rfl, hb⟩; have B3 := A_.mk (below_step B2.out hb); clear hb s0 s1 s2)
 go_ret2
 exact ⟨_, rfl, B3.out⟩
theorem spec_FinalRows.calls (k : Nat) (n : Int) (ring : Bool) (A : Option Addr) (c : Nat) (l : List Int) (S : List S29) (b : Bool) (w : World) (hr : Kd.C (Kd.int .i64) w A l.length l) (hc : l.length ≤ c) (h : spec_FinalRows.f k n ring l = some (S, b)) :
  Calls Tryd.prog 13 #[.agg #[.int .i64 n, .bool ring, .slice A l.length c]] w fun e w' => ∃ A1 c1, e = .returned (.tuple #[.slice A1 S.length c1, .bool b]) ∧ S.length ≤ c1 ∧ Kd.C k29 w' A1 S.length S ∧ Below w.heap.size w w' := by
 unfold spec_FinalRows.f at h
 obtain ⟨b0, hi, h⟩ := Option.bind_eq_some_iff.mp h
 cases b0 with
 | false =>
  rw [if_neg (by decide)] at h
  simp only [Option.some.injEq, Prod.mk.injEq] at h
  obtain ⟨rfl, rfl⟩ := h
  refine (specFin_no k n ring A c l w hr hc hi).mono ?_
  rintro e w' ⟨A1, rfl, hb⟩
  exact ⟨A1, 0, rfl, Nat.le_refl _, ⟨rfl, by simp, fun h => absurd h (Nat.lt_irrefl 0)⟩, hb⟩
 | true =>
  rw [if_pos rfl] at h
  obtain ⟨⟨F, CC⟩, hf, h⟩ := Option.bind_eq_some_iff.mp h
  by_cases hl : F.length ≤ 100000
  ·rw [if_pos hl] at h
   obtain ⟨S', hS, h⟩ := Option.bind_eq_some_iff.mp h
   simp only [Option.some.injEq, Prod.mk.injEq] at h
   obtain ⟨rfl, rfl⟩ := h
   exact specFin_yes k n ring A c l F CC S' w hr hc hi hf hl hS
  ·rw [if_neg hl] at h; cases h

/-! ### laws_toIntS: function 27 -/
def laws_toIntS.l0 : Nat → List Int → List Int → Int → Option (List Int)
 | 0, _, _, _ => none
 | k + 1, x0, x3, x4 => if x4 < (x0.length : Int) then (if 0 ≤ x4 then (if x4 < (x3.length : Int) then (laws_toIntS.l0 k x0 (x3.set (x4 : Int).toNat (rd x0 x4)) (wrap64 (x4 + 1))) else (none)) else (none)) else (some x3)
def laws_toIntS.f (k : Nat) (l0 : List Int) : Option (List Int) := if 0 ≤ (l0.length : Int) then (if ((l0.length : Int) : Int).toNat ≤ 35184372088832 then (laws_toIntS.l0 k l0 (List.replicate ((l0.length : Int) : Int).toNat 0) 0) else (none)) else (none)
theorem laws_toIntS.mono_l : ∀ k, (∀ y0 y1 y2, LeO (laws_toIntS.l0 k y0 y1 y2) (laws_toIntS.l0 (k + 1) y0 y1 y2))
 | 0 => fun _ _ _ r h => by simp [laws_toIntS.l0] at h
 | k + 1 => by
  have ih0 := laws_toIntS.mono_l k
  ·intro y0 y1 y2
   unfold laws_toIntS.l0
   repeat' first
   | (with_reducible exact ih0 _ _ _)
   | (with_reducible exact LeO.refl _)
   | (with_reducible exact LeO.none _)
   | (with_reducible refine LeO.ite ?_ ?_)
   | (with_reducible refine LeO.bind ?_ (fun _ => ?_))
   | exact ih0 _ _ _
   | exact LeO.none _
   | refine LeO.ite ?_ ?_
   | refine LeO.bind ?_ (fun _ => ?_)
theorem laws_toIntS.mono : ∀ a0 k, LeO (laws_toIntS.f k a0) (laws_toIntS.f (k + 1) a0) := by
 intro a0 k
 have ih0 := laws_toIntS.mono_l k
 unfold laws_toIntS.f
 repeat' first
   | (with_reducible exact ih0 _ _ _)
   | (with_reducible exact LeO.refl _)
   | (with_reducible exact LeO.none _)
   | (with_reducible refine LeO.ite ?_ ?_)
   | (with_reducible refine LeO.bind ?_ (fun _ => ?_))
   | exact ih0 _ _ _
   | exact LeO.none _
   | refine LeO.ite ?_ ?_
   | refine LeO.bind ?_ (fun _ => ?_)
theorem laws_toIntS.calls (k : Nat) (A0 : Option Addr) (c0 : Nat) (l0 : List Int) (r : List Int) (w : World) (hr0 : Kd.C (Kd.int .i64) w A0 l0.length l0) (hc0 : l0.length ≤ c0) (h : laws_toIntS.f k l0 = some r) :
  Calls Tryd.prog 27 #[.slice A0 l0.length c0] w fun e w' => ∃ v0_ : Value, e = .returned (v0_) ∧ Kd.R (Kd.int .i64) 3 w' w.heap.size (fun _ => True) v0_ r ∧ Below w.heap.size w w' := by
 have HR0 := A_.mk hr0
 have HC0 := A_.mk hc0
 clear hr0 hc0
 have HB := A_.mk (Below.refl w.heap.size w)
 have H : (if 0 ≤ (l0.length : Int) then (if ((l0.length : Int) : Int).toNat ≤ 35184372088832 then (laws_toIntS.l0 k l0 (List.replicate ((l0.length : Int) : Int).toNat 0) 0) else (none)) else (none)) = some r := h
 clear h
 by_cases c2 : 0 ≤ (l0.length : Int)
 ·rw [if_pos c2] at H
  have c2b0 := eq_true c2
  have c2b1 : decide (0 ≤ (l0.length : Int)) = true := decide_eq_true c2
  clear c2
  by_cases c3 : ((l0.length : Int) : Int).toNat ≤ 35184372088832
  ·rw [if_pos c3] at H
   have c3b0 := eq_true c3
   have c3b1 : decide (((l0.length : Int) : Int).toNat ≤ 35184372088832) = true := decide_eq_true c3
   clear c3
   obtain ⟨y271, hy271⟩ : ∃ y_ : List Int, y_ = (List.replicate ((l0.length : Int) : Int).toNat 0) := ⟨_, rfl⟩
   replace H : (laws_toIntS.l0 k l0 y271 0) = some r := by (rw [hy271]; with_reducible exact H)
   have Ny271 := A_.mk hy271
   clear hy271
   have H' := A_.mk H
   clear H
   go_enter Tryd.func27, Tryd.ntmps27
   go_wp2_with ((with_reducible refine gate_dst (N := 7) rfl ?_); refine Kd.R_make (Kd.int .i64) _ 3 rfl (N := 7) rfl 22 _ _ rfl (l0.length : Int) rfl rfl Tryd.underlying22 (.int .i64 0) 8 info3 rfl (by decide) (by omega) 0 (ok := fun _ => True) (okp := fun _ => True) rfl (fun _ hk => hk) trivial (of_decide_eq_true (by (with_reducible assumption))) (Nat.le_trans (Nat.mul_le_mul_right _ (of_decide_eq_true (by (with_reducible assumption)) : (l0.length : Int).toNat ≤ 35184372088832)) (by omega)) (Below.refl _ _) (Nat.le_refl _) ?_; intro v272 w4 ho5 hb hg_ hnew_; clear hg_ hnew_; (rw [← Ny271.out] at ho5); have HO273 := A_.mk (Kd.R_lower ho5 (below_size HB.out)); replace HB := A_.mk (below_step HB.out hb); clear hb ho5)
   go_loopg [4] k (fun kq v4 w' => ∃ (x3_1 : List Int) (x4_1 : Int), v4 = .int .i64 x4_1 ∧ A_ (laws_toIntS.l0 kq l0 x3_1 x4_1 = some r) ∧ A_ (kq ≤ k) ∧ A_ (Kd.R (Kd.int .i64) 3 w' w.heap.size (fun _ => True) v272 x3_1) ∧ A_ (Below w.heap.size w w'))
   case atStart => exact ⟨(y271), (0), (by rfl), H', ⟨Nat.le_refl _⟩, ⟨by (with_reducible repeat (apply Kd.R_alloc)); exact HO273.out⟩, ⟨by repeat ((with_reducible (exact HB.out)))⟩⟩
   case round =>
    clear H'
    try clear c2
    try clear c2b0
    try clear c2b1
    try clear p2
    try clear c3
    try clear c3b0
    try clear c3b1
    obtain ⟨x3_1, x4_1, rfl, HA, HK1, HO_3, HB⟩ := hrel
    cases gk with
    | zero => exact absurd HA.out (by simp [laws_toIntS.l0])
    | succ k1 =>
     have H := HA.out
     clear HA
     simp only [laws_toIntS.l0] at H
     by_cases c6 : x4_1 < (l0.length : Int)
     ·rw [if_pos c6] at H
      have c6b0 : decide (x4_1 < (l0.length : Int)) = true := decide_eq_true c6
      clear c6
      by_cases c7 : 0 ≤ x4_1
      ·rw [if_pos c7] at H
       have c7b0 : decide (0 ≤ x4_1) = true := decide_eq_true c7
       clear c7
       by_cases c8 : x4_1 < (x3_1.length : Int)
       ·rw [if_pos c8] at H
        have c8b0 : decide (x4_1 < (x3_1.length : Int)) = true := decide_eq_true c8
        clear c8
        obtain ⟨y275, hy275⟩ : ∃ y_ : List Int, y_ = (x3_1.set (x4_1 : Int).toNat (rd l0 x4_1)) := ⟨_, rfl⟩
        replace H : (laws_toIntS.l0 k1 l0 y275 (wrap64 (x4_1 + 1))) = some r := by (rw [hy275]; with_reducible exact H)
        have Ny275 := A_.mk hy275
        clear hy275
        have H' := A_.mk H
        clear H
        have p274 : 0 ≤ (x4_1 : Int) := of_decide_eq_true (by (with_reducible assumption))
        have q274 : x4_1 < (l0.length : Int) := of_decide_eq_true (by (with_reducible assumption))
        skip
        obtain ⟨ad274, e274, hx274_0⟩ := Kd.at_int HR0.out x4_1 p274 q274
        cases e274
        replace hx274_0 := (HB.out.cell (World.block_lt_of_cell? w _ hx274_0)).trans hx274_0
        replace p274 := eq_true p274
        replace q274 := eq_true q274
        have p9 : 0 ≤ (x4_1 : Int) := of_decide_eq_true (by (with_reducible assumption))
        have q9 : (x4_1 : Int) < ((x3_1.length : Int) : Int) := of_decide_eq_true (by (with_reducible assumption))
        obtain ⟨go9, co9, eo9, gb9, gl9, cl9, HG9⟩ := Kd.R_form HO_3.out (by omega)
        (cases eo9)
        have GB9 := A_.mk gb9
        have GG9 := A_.mk HG9
        clear gb9 gl9 HG9
        obtain ⟨hx9_0, hf9_0⟩ := Kd.R_celln 0 HO_3.out (x4_1 : Int) p9 q9
        replace p9 := eq_true p9
        replace q9 := eq_true q9
        have HP10 := Kd.R_putg HO_3.out (x4_1 : Int) (rd l0 x4_1)
        go_wp2_with ((with_reducible refine gate_store (t := 3) (p := 20) rfl ?_); refine store_event (t := 3) (p := 20) (v := ?vo_w11) (w1 := (wr.setCell ⟨go9, (x4_1 : Int).toNat, none⟩ (.int .i64 (rd l0 x4_1)))) ?hg ?ho ?hn ?hr ?_; (case ho => rfl); (case hg => rfl); (case hn => rfl); (case hr => (go_simp; done)); intro w11 hw; have hg : wr.grownBy w11 (some go9) := (by rw [hw]; exact HP10.2); have hp_ : Kd.R (Kd.int .i64) 3 w11 w.heap.size (fun _ => True) (.slice (some ⟨go9, 0, none⟩) x3_1.length co9) y275 := (by rw [hw, Ny275.out]; exact HP10.1); clear HP10; replace HO_3 := A_.mk (hp_); replace HB := A_.mk ((by rw [hw]; exact below_set (HB.out) GB9.out : Below w.heap.size w w11)); clear hg hw hp_)
        go_roundg k1
        case measure => have := HK1.out; omega
        case rel => exact ⟨(y275), (wrap64 (x4_1 + 1)), (by rfl), H', ⟨by have := HK1.out; omega⟩, ⟨by (with_reducible repeat (apply Kd.R_alloc)); exact HO_3.out⟩, ⟨by repeat ((with_reducible (exact HB.out)))⟩⟩
       ·rw [if_neg c8] at H
        exact absurd H (by simp)
      ·rw [if_neg c7] at H
       exact absurd H (by simp)
     ·rw [if_neg c6] at H
      have c6b0 : decide (x4_1 < (l0.length : Int)) = false := decide_eq_false c6
      clear c6
      obtain rfl := Option.some.inj H
      go_wp2
      go_ret
      exact ⟨_, by rfl, by (with_reducible repeat (apply Kd.R_alloc)); exact HO_3.out, by repeat ((with_reducible (exact HB.out)))⟩
  ·rw [if_neg c3] at H
   exact absurd H (by simp)
 ·rw [if_neg c2] at H
  exact absurd H (by simp)

/-! ### laws_toRow: function 9 -/
def laws_toRow.f (k : Nat) (a0_0 : Int) (a0_1 : Bool) (l0_2 : List Int) : Option (Int × Bool × List Int) := (laws_toIntS.f k l0_2).bind fun t279 => (some (a0_0, a0_1, t279))
theorem laws_toRow.mono : ∀ a0 a1 a2 k, LeO (laws_toRow.f k a0 a1 a2) (laws_toRow.f (k + 1) a0 a1 a2) := by
 intro a0 a1 a2 k
 unfold laws_toRow.f
 repeat' first
   | (with_reducible exact laws_toIntS.mono _ _)
   | (with_reducible exact LeO.refl _)
   | (with_reducible exact LeO.none _)
   | (with_reducible refine LeO.ite ?_ ?_)
   | (with_reducible refine LeO.bind ?_ (fun _ => ?_))
   | exact laws_toIntS.mono _ _
   | exact LeO.none _
   | refine LeO.ite ?_ ?_
   | refine LeO.bind ?_ (fun _ => ?_)
theorem laws_toRow.calls (k : Nat) (a0_0 : Int) (a0_1 : Bool) (A0_2 : Option Addr) (c0_2 : Nat) (l0_2 : List Int) (r1 : Int) (r2 : Bool) (r3 : List Int) (w : World) (hr0_2 : Kd.C (Kd.int .i64) w A0_2 l0_2.length l0_2) (hc0_2 : l0_2.length ≤ c0_2) (h : laws_toRow.f k a0_0 a0_1 l0_2 = some (r1, r2, r3)) :
  Calls Tryd.prog 9 #[.agg #[.int .i64 a0_0, .bool a0_1, .slice A0_2 l0_2.length c0_2]] w fun e w' => ∃ v2_ : Value, e = .returned (.agg #[.int .i64 r1, .bool r2, v2_]) ∧ Kd.R (Kd.int .i64) 3 w' w.heap.size (fun _ => True) v2_ r3 ∧ Below w.heap.size w w' := by
 have hu24 := Tryd.underlying24
 have hu29 := Tryd.underlying29
 have HR0_2 := A_.mk hr0_2
 have HC0_2 := A_.mk hc0_2
 clear hr0_2 hc0_2
 have HB := A_.mk (Below.refl w.heap.size w)
 have H : ((laws_toIntS.f k l0_2).bind fun t279 => (some (a0_0, a0_1, t279))) = some (r1, r2, r3) := h
 clear h
 replace H := Option.bind_eq_some_iff.mp H
 obtain ⟨t279, A20, H⟩ := H
 replace H : (some (a0_0, a0_1, t279)) = some (r1, r2, r3) := H
 have A2 := A_.mk A20
 clear A20
 simp only [Option.some.injEq, Prod.mk.injEq] at H
 obtain ⟨rfl, rfl, rfl⟩ := H
 go_enter Tryd.func9, Tryd.ntmps9
 go_wp2_with (first | ((with_reducible refine gate_dst (N := 1) rfl ?_); refine box_event ?hg (N := 1) ?hd (cs := #[.int .i64 a0_0, .bool a0_1, .slice A0_2 l0_2.length c0_2]) (t := 24) ?hr ?_; (case hd => rfl); (case hg => rfl); (case hr => (go_simp; done)); intro gb276 hg w3 hbox hb; replace HB := A_.mk (below_step HB.out hb); have BK276 := A_.mk (hbox); clear hb hbox hg) | ((with_reducible refine gate_dst (N := 2) rfl ?_); refine box_event ?hg (N := 2) ?hd (cs := #[.int .i64 0, .bool false, .slice none 0 0]) (t := 29) ?hr ?_; (case hd => rfl); (case hg => rfl); (case hr => (go_simp; done)); intro gb277 hg w4 hbox hb; have BK277 := A_.mk (hbox); have GE277 := A_.mk ((by rw [hg]; exact (below_size HB.out) : w.heap.size ≤ gb277)); replace HB := A_.mk (below_step HB.out hb); have NB276_277 := A_.mk ((by rw [hg]; exact Nat.ne_of_lt (blk_lt BK276.out) : gb276 ≠ gb277)); have NB277_276 := A_.mk ((by rw [hg]; exact Nat.ne_of_gt (blk_lt BK276.out) : gb277 ≠ gb276)); replace BK276 := A_.mk (blk_below BK276.out hb); clear hb hbox hg) | ((with_reducible refine gate_dst (N := 3) rfl ?_); refine box_event ?hg (N := 3) ?hd (cs := #[.int .i64 0, .bool false, .slice none 0 0]) (t := 29) ?hr ?_; (case hd => rfl); (case hg => rfl); (case hr => (go_simp; done)); intro gb278 hg w5 hbox hb; have BK278 := A_.mk (hbox); have GE278 := A_.mk ((by rw [hg]; exact (below_size HB.out) : w.heap.size ≤ gb278)); replace HB := A_.mk (below_step HB.out hb); have NB276_278 := A_.mk ((by rw [hg]; exact Nat.ne_of_lt (blk_lt BK276.out) : gb276 ≠ gb278)); have NB278_276 := A_.mk ((by rw [hg]; exact Nat.ne_of_gt (blk_lt BK276.out) : gb278 ≠ gb276)); replace BK276 := A_.mk (blk_below BK276.out hb); have NB277_278 := A_.mk ((by rw [hg]; exact Nat.ne_of_lt (blk_lt BK277.out) : gb277 ≠ gb278)); have NB278_277 := A_.mk ((by rw [hg]; exact Nat.ne_of_gt (blk_lt BK277.out) : gb278 ≠ gb277)); replace BK277 := A_.mk (blk_below BK277.out hb); clear hb hbox hg; have hnb6 := NB276_277.out; have hnc6 := NB277_276.out; have hnb7 := NB276_278.out; have hnc7 := NB278_276.out; have hcz8_0 : w5.cell? ⟨gb276, 0, none⟩ = some (.int .i64 a0_0) := (blk_cell BK276.out 0).trans rfl; have hcz8_1 : w5.cell? ⟨gb276, 1, none⟩ = some (.bool a0_1) := (blk_cell BK276.out 1).trans rfl; have hcz8_2 : w5.cell? ⟨gb276, 2, none⟩ = some (.slice A0_2 l0_2.length c0_2) := (blk_cell BK276.out 2).trans rfl; have hfz8_0 := blk_frozen BK276.out 0; have hfz8_1 := blk_frozen BK276.out 1; have hfz8_2 := blk_frozen BK276.out 2; have hnb9 := NB278_277.out; have hnc9 := NB277_278.out; have hcz10_0 : w5.cell? ⟨gb278, 0, none⟩ = some (.int .i64 0) := (blk_cell BK278.out 0).trans rfl; have hcz10_1 : w5.cell? ⟨gb278, 1, none⟩ = some (.bool false) := (blk_cell BK278.out 1).trans rfl; have hcz10_2 : w5.cell? ⟨gb278, 2, none⟩ = some (.slice none 0 0) := (blk_cell BK278.out 2).trans rfl; have hfz10_0 := blk_frozen BK278.out 0; have hfz10_1 := blk_frozen BK278.out 1; have hfz10_2 := blk_frozen BK278.out 2) | ((with_reducible refine gate_callee (f := 27) rfl ?_); refine goesL_ (some 12) rfl rfl Tryd.func27 (by kernel_rfl) rfl #[.slice A0_2 l0_2.length c0_2] rfl (by (try simp only [List.map_toArray, List.map_cons, List.map_nil]); (rfl)) ?_; (with_reducible refine (laws_toIntS.calls k _ _ l0_2 t279 _ ?side1 ?side2 A2.out).mono ?_); (case side1 => exact Kd.C_below HR0_2.out (by repeat ((with_reducible first | exact HB.out | refine below_set ?_ GE278.out)))); (case side2 => exact HC0_2.out); rintro e w11 ⟨v280, rfl, ho0, hb⟩; refine ⟨_, rfl, ?_⟩; have HO281 := A_.mk (Kd.R_lower ho0 (below_size (by repeat ((with_reducible first | exact HB.out | refine below_set ?_ GE278.out))))); replace BK276 := A_.mk (blk_below (g := gb276) (o := .cells #[.int .i64 a0_0, .bool a0_1, .slice A0_2 l0_2.length c0_2] 24 (0, 0)) (by (with_reducible repeat (refine blk_drewN ?_ _)); refine blk_far ?_ NB276_278.out _; (with_reducible repeat (refine blk_drewN ?_ _)); refine blk_far ?_ NB276_278.out _; (with_reducible repeat (refine blk_drewN ?_ _)); exact BK276.out) hb); replace BK277 := A_.mk (blk_below (g := gb277) (o := .cells #[.int .i64 0, .bool false, .slice none 0 0] 29 (0, 0)) (by (with_reducible repeat (refine blk_drewN ?_ _)); refine blk_far ?_ NB277_278.out _; (with_reducible repeat (refine blk_drewN ?_ _)); refine blk_far ?_ NB277_278.out _; (with_reducible repeat (refine blk_drewN ?_ _)); exact BK277.out) hb); replace BK278 := A_.mk (blk_below (g := gb278) (o := .cells #[.int .i64 a0_0, .bool a0_1, .slice none 0 0] 29 (0, 0)) (by (with_reducible repeat (refine blk_drewN ?_ _)); refine blk_put (cs := #[.int .i64 a0_0, .bool false, .slice none 0 0]) ?_ 1 _ rfl; (with_reducible repeat (refine blk_drewN ?_ _)); refine blk_put (cs := #[.int .i64 0, .bool false, .slice none 0 0]) ?_ 0 _ rfl; (with_reducible repeat (refine blk_drewN ?_ _)); exact BK278.out) hb); replace HB := A_.mk (below_step (by repeat ((with_reducible first | exact HB.out | refine below_set ?_ GE278.out))) hb); (try clear hb); (try clear ho0); obtain ⟨Ao12, co12, eo12⟩ := Kd.R_slice HO281.out; subst eo12; have hcz13_0 : w11.cell? ⟨gb278, 0, none⟩ = some (.int .i64 a0_0) := (blk_cell BK278.out 0).trans rfl; have hcz13_1 : w11.cell? ⟨gb278, 1, none⟩ = some (.bool a0_1) := (blk_cell BK278.out 1).trans rfl; have hcz13_2 : w11.cell? ⟨gb278, 2, none⟩ = some (.slice none 0 0) := (blk_cell BK278.out 2).trans rfl; have hfz13_0 := blk_frozen BK278.out 0; have hfz13_1 := blk_frozen BK278.out 1; have hfz13_2 := blk_frozen BK278.out 2; have hcz14_0 : w11.cell? ⟨gb277, 0, none⟩ = some (.int .i64 0) := (blk_cell BK277.out 0).trans rfl; have hcz14_1 : w11.cell? ⟨gb277, 1, none⟩ = some (.bool false) := (blk_cell BK277.out 1).trans rfl; have hcz14_2 : w11.cell? ⟨gb277, 2, none⟩ = some (.slice none 0 0) := (blk_cell BK277.out 2).trans rfl; have hfz14_0 := blk_frozen BK277.out 0; have hfz14_1 := blk_frozen BK277.out 1; have hfz14_2 := blk_frozen BK277.out 2))
 refine bodyPost_ret (results_cell_row rfl _ _ gb277 29 #[.int .i64 a0_0, .bool a0_1, .slice Ao12 t279.length co12] (0, 0) _ rfl (by (with_reducible repeat (refine blk_drewN ?_ _)); refine blk_put (cs := #[.int .i64 a0_0, .bool a0_1, .slice none 0 0]) ?_ 2 _ rfl; (with_reducible repeat (refine blk_drewN ?_ _)); refine blk_put (cs := #[.int .i64 a0_0, .bool false, .slice none 0 0]) ?_ 1 _ rfl; (with_reducible repeat (refine blk_drewN ?_ _)); refine blk_put (cs := #[.int .i64 0, .bool false, .slice none 0 0]) ?_ 0 _ rfl; (with_reducible repeat (refine blk_drewN ?_ _)); refine blk_far ?_ NB277_278.out _; (with_reducible repeat (refine blk_drewN ?_ _)); exact BK277.out) Tryd.underlying29 rfl (by kernel_rfl)) rfl ?_
 exact ⟨_, by rfl, by (with_reducible repeat (apply Kd.R_alloc)); exact Kd.R_mono (Kd.R_far (p := ⟨gb277, 2, none⟩) (Kd.R_far (p := ⟨gb277, 1, none⟩) (Kd.R_far (p := ⟨gb277, 0, none⟩) (Kd.R_far (p := ⟨gb278, 2, none⟩) (Kd.R_types (Kd.R_types HO281.out BK278.out (by decide)) BK277.out (by decide)) (fun _ hk => hk.1.2) (.slice Ao12 t279.length co12)) (fun _ hk => hk.2) (.int .i64 a0_0)) (fun _ hk => hk.2) (.bool a0_1)) (fun _ hk => hk.2) (.slice Ao12 t279.length co12)) (fun _ hk => trivial), by repeat ((with_reducible first | exact HB.out | refine below_set ?_ GE277.out | refine below_set ?_ GE278.out))⟩

end Go.Proofs.YtihifglmnjocfaaDoor.PFnExactFinalRows
