/- Written by a program of this session (wip/xprint) out of Lean's own print of the given functions: each function as a plain Lean function, and the proof that the call answers it. -/
import Derived.Test.YtdbdmdegnmoblaaDoorPFnExactAllSeatingsx0
import Derived.Test.YtdbdmdegnmoblaaDoorPFnExactAllSeatingsx2
import Derived.Test.YtdbdmdegnmoblaaDoorPFnExactAllSeatingsx3
import Derived.Test.YtdbdmdegnmoblaaDoorPFnExactAllSeatingsx4
namespace Go.Proofs.YtdbdmdegnmoblaaDoor.PFnExactAllSeatings
open Go.RowKit Go.Proofs.YtdbdmdegnmoblaaDoorW.PrintWords Go.Proofs.YtdbdmdegnmoblaaDoorW.PrintLast Go.Proofs.YtdbdmdegnmoblaaDoorW.PrintMore
attribute [local go_sem] max2_int min2_int max_two min_two max_three min_three max_four min_four   -- for this text's walks alone
set_option linter.unusedVariables false
set_option linter.unusedSimpArgs false

/-! ### laws_markIntSS: function 14 -/
set_option linter.unnecessarySimpa false
/-- Rows in rows, marked one after the other. -/
def markR (k : Nat) : List (List Int) → Int → Option (Int × List (List Int))
  | [], m => some (m, [])
  | l :: ls, m => (laws_markIntS.f k l m).bind fun p => (markR k ls p.1).bind fun q => some (q.1, p.2 :: q.2)
theorem grown_of {w0 W w1 : World} {row : Option Nat} (h0 : Below w0.heap.size w0 W) (h1 : Below w0.heap.size w0 w1) (hk : Kept W w1 (fun k => some k = row)) : W.grownBy w1 row :=
  ⟨h1.os.trans h0.os.symm, h1.tape.trans h0.tape.symm, h1.output.trans h0.output.symm, hk.1, fun k hk' hne => hk.2 k hk' hne⟩
set_option maxHeartbeats 8000000 in
set_option maxRecDepth 100000 in
theorem mark_calls (k : Nat) (P : Nat → Prop) (v : Value) (L : List (List Int)) (m mf : Int) (L' : List (List Int)) (w0 w : World) (hB : Below w0.heap.size w0 w) (hs : Kd.S (Kd.slice 3 (Kd.int .i64)) 30 w w0.heap.size P v L) (hl : L.length ≤ 1000000) (h : markR k L m = some (mf, L')) :
    Calls Tryd.prog 14 #[v, .int .i64 m] w fun e w' => e = .returned (.int .i64 mf) ∧ Kd.S (Kd.slice 3 (Kd.int .i64)) 30 w' w0.heap.size P v L' ∧ Below w0.heap.size w0 w' ∧ Kept w w' P := by
  obtain ⟨A, c, ev⟩ := Kd.S_slice hs
  subst ev
  have HS := Aside0.mk hs
  have HB := Aside0.mk hB
  have HH := Aside0.mk h
  have HL := Aside0.mk hl
  have HK := Aside0.mk (Kept.refl w P)
  clear hs hB h hl
  go_enter Tryd.func14, Tryd.ntmps14
  go_wp2
  go_loopg [1, 5] (L.length + 1) (fun kq v1 v5 w' => ∃ (i : Nat) (mi : Int) (D Rf : List (List Int)), v5 = .int .i64 (i : Int) ∧ v1 = .int .i64 mi ∧ D.length = i ∧ i + kq = L.length + 1 ∧ i ≤ L.length ∧ Aside0 (markR k (L.drop i) mi = some (mf, Rf)) ∧ Aside0 (D ++ Rf = L') ∧ Aside0 (Kd.S (Kd.slice 3 (Kd.int .i64)) 30 w' w0.heap.size P (.slice A L.length c) (D ++ L.drop i)) ∧ Aside0 (Below w0.heap.size w0 w') ∧ Aside0 (Kept w w' P))
  case atStart => exact ⟨0, m, [], L', rfl, rfl, rfl, by omega, by omega, ⟨by rw [List.drop_zero]; exact HH.out⟩, ⟨rfl⟩, ⟨by rw [List.drop_zero]; exact HS.out⟩, HB, HK⟩
  case round =>
    obtain ⟨i, mi, D, Rf, rfl, rfl, hD, hik, hi, HMi, HEi, HSi, HBi, HKi⟩ := hrel
    cases gk with
    | zero => omega
    | succ k1 =>
    by_cases hlt : i < L.length
    · have c5 : decide ((i : Int) < (L.length : Int)) = true := decide_eq_true (by omega)
      have hM := HMi.out
      rw [List.drop_eq_getElem_cons hlt] at hM
      simp only [markR] at hM
      obtain ⟨⟨m1, l1⟩, h1, hM⟩ := Option.bind_eq_some_iff.mp hM
      obtain ⟨⟨m2, R2⟩, h2, hM⟩ := Option.bind_eq_some_iff.mp hM
      simp only [Option.some.injEq, Prod.mk.injEq] at hM
      obtain ⟨rfl, rfl⟩ := hM
      have hlen : (D ++ L.drop i).length = L.length := by simp; omega
      obtain ⟨g, cap, ev, -, -, -⟩ := Kd.S_form HSi.out (by omega)
      injection ev with ev1 ev2 ev3
      subst ev1
      obtain ⟨oki, cs, hcl, hMi, hcc, hoki, hback⟩ := Kd.S_borrow HSi.out [] (i : Int) (by omega) (by omega)
      have hget : (D ++ L.drop i).getD (i : Int).toNat [] = L[i] := by
        rw [Int.toNat_natCast, List.getD_eq_getElem?_getD, List.getElem?_append_right (by omega), hD, Nat.sub_self, List.getElem?_drop]
        simp [hlt]
      rw [hget] at hMi
      obtain ⟨u, rfl, hu⟩ := hMi
      obtain ⟨Au, cu, eu⟩ := Kd.R_slice hu
      subst eu
      have hcell : wr.cell? ⟨g, i, none⟩ = some (.slice Au L[i].length cu) := by
        have h := hcc 0 _ rfl
        rw [show (Kd.slice 3 (Kd.int .i64)).sz = 1 from rfl, Int.toNat_natCast] at h
        rcases Nat.eq_zero_or_pos i with h0 | h0
        · subst h0; simpa [Addr.add] using h
        · have : i ≠ 0 := by omega
          simpa [Addr.add, this] using h
      have hu0 := hu.1
      have hut := Aside0.mk (Kd.R_tight rfl hu)
      have HBk := Aside0.mk (@hback)
      have H1 := Aside0.mk h1
      have H2 := Aside0.mk h2
      have Hok := Aside0.mk hoki
      have Hu0 := Aside0.mk hu0
      have HD := Aside0.mk hD
      clear hback hoki hcc hu hu0 h1 h2 hget ev2 ev3 hlen hM hD HMi
      go_wp2_with (go_at_call 28; go_loud ((with_reducible refine (laws_markIntS.calls k (fun k_ => some k_ = (Value.slice Au L[i].length cu).ownBlock) (.slice Au L[i].length cu) L[i] mi m1 l1 w0 _ HBi.out hut.out H1.out).mono ?_); rintro e w2 ⟨rfl, hr2, hb2, hk2⟩; have S2 := Aside0.mk (HBk.out (x' := l1) (grown_of HBi.out hb2 hk2) (fun k hk => Hu0.out k hk) ⟨_, rfl, Kd.R_mono (Kd.R_tight rfl hr2) (fun k hk => Hu0.out k hk.symm)⟩); have K2 := Aside0.mk (HKi.out.then_ hk2 (fun k hk => .inl (Hok.out k (Hu0.out k hk.symm)).1)); have B2 := Aside0.mk hb2; clear hr2 hb2 hk2))
      have hset : (D ++ L.drop i).set (i : Int).toNat l1 = (D ++ [l1]) ++ L.drop (i + 1) := by
        rw [Int.toNat_natCast, List.drop_eq_getElem_cons hlt, List.set_append_right _ _ (by have := HD.out; omega), HD.out, Nat.sub_self, List.set_cons_zero, List.append_assoc]
        rfl
      rw [hset] at S2
      go_roundg k1
      case measure => omega
      case rel => exact ⟨i + 1, m1, D ++ [l1], R2, by have := HL.out; rw [show wrap64 ((i : Int) + 1) = ((i + 1 : Nat) : Int) by unfold wrap64; omega], rfl, by have := HD.out; simp [this], by omega, by omega, H2, ⟨by rw [List.append_assoc]; exact HEi.out⟩, S2, B2, K2⟩
    · obtain rfl : i = L.length := by omega
      have c5 : decide ((L.length : Int) < (L.length : Int)) = false := decide_eq_false (by omega)
      have hM := HMi.out
      rw [List.drop_length] at hM
      simp only [markR, Option.some.injEq, Prod.mk.injEq] at hM
      obtain ⟨rfl, rfl⟩ := hM
      have e1 := HEi.out
      rw [List.append_nil] at e1
      subst e1
      have S1 := HSi.out
      rw [List.drop_length, List.append_nil] at S1
      have S2 := Aside0.mk S1
      clear S1
      go_wp2
      go_ret
      exact ⟨rfl, S2.out, HBi.out, HKi.out⟩

/-! ### laws_FnExactAllSeatings: function 4 -/
set_option linter.unnecessarySimpa false
def laws_markIntSS.f (k : Nat) (l0 : List (List Int)) (a1 : Int) : Option (Int × List (List Int)) := markR k l0 a1
def laws_FnExactAllSeatings.f (k : Nat) (a0 a1 : Int) : Option Bool :=
  (spec_AllSeatings.f k a0 a1).bind fun s => (impl_AllSeatings.f k a0 a1).bind fun g => (laws_eqIntSS.f k g.1 s.1).bind fun t => if (t = true ∧ g.2 = s.2) ∧ g.1.length ≤ 1000000 then
    (laws_markIntSS.f k g.1 1).bind fun m => (laws_heldIntSS.f k m.2 1).bind fun q => if 0 ≤ q ∧ q = m.1 ∧ m.2.length = g.1.length then some true else none else none
set_option maxHeartbeats 8000000 in
set_option maxRecDepth 100000 in
theorem law_walk (k : Nat) (a0 a1 : Int) (S G M : List (List Int)) (b : Bool) (q : Int) (w : World) (hT : XTab w) (hS : spec_AllSeatings.f k a0 a1 = some (S, b)) (hG : impl_AllSeatings.f k a0 a1 = some (G, b)) (hE : laws_eqIntSS.f k G S = some true) (hl : G.length ≤ 1000000) (hM : markR k G 1 = some (q, M)) (hH : laws_heldIntSS.f k M 1 = some q) (hq : 0 ≤ q) (hlen : M.length = G.length) :
    Calls Tryd.prog 4 #[.int .i64 a0, .int .i64 a1] w fun e w' => e = .returned (.bool true) ∧ Below w.heap.size w w' := by
  have HT := Aside0.mk hT
  have HS := Aside0.mk hS
  have HG := Aside0.mk hG
  have HE := Aside0.mk hE
  have HL := Aside0.mk hl
  have HM := Aside0.mk hM
  have HH := Aside0.mk hH
  have HN := Aside0.mk hlen
  have c9 : decide (q < 0) = false := decide_eq_false (by omega)
  clear hT hS hG hE hl hM hH hlen hq
  go_enter Tryd.func4, Tryd.ntmps4
  go_upto_region 9 with (first
    | (go_at_call 11; (with_reducible refine (spec_AllSeatings.calls k a0 a1 S b _ HS.out).mono ?_); rintro e w1 ⟨v0, rfl, hn, hb1⟩; obtain ⟨A0, c0, e0⟩ := Kd.N_slice hn; subst e0; have N1 := Aside0.mk hn; have B1 := Aside0.mk hb1; have T1 := Aside0.mk (HT.out.below hb1); clear hn hb1)
    | (go_at_call 12; (with_reducible refine (impl_AllSeatings.calls k a0 a1 G b _ T1.out HG.out).mono ?_); rintro e w2 ⟨vg, rfl, hs, hb2⟩; obtain ⟨Ag, cg, eg⟩ := Kd.S_slice hs; subst eg; have S2 := Aside0.mk hs; have B2 := Aside0.mk hb2; clear hs hb2)
    | (go_at_call 13; (with_reducible refine (laws_eqIntSS.calls k _ _ G _ _ S true _ ?a1 ?a2 ?a3 ?a4 HE.out).mono ?_); (case a1 => exact (Kd.S_reads' S2.out).2.2); (case a2 => exact (Kd.S_reads' S2.out).2.1); (case a3 => exact Kd.C_below (Kd.N_reads' N1.out).2.2 B2.out); (case a4 => exact (Kd.N_reads' N1.out).2.1); rintro e w3 ⟨rfl, hd3⟩; have S3 := Aside0.mk (Kd.S_below S2.out hd3.below); have B3 := Aside0.mk (below_step B2.out hd3.below); clear hd3)
    | (go_at_call 14; (with_reducible refine (mark_calls k (fun k_ => w1.heap.size ≤ k_) _ G 1 q M w1 _ B3.out S3.out HL.out HM.out).mono ?_); rintro e w4 ⟨rfl, hs4, hb4, hk4⟩; have S4 := Aside0.mk hs4; have B4 := Aside0.mk hb4; clear hs4 hb4 hk4)
    | (go_at_call 15; (have h15 := laws_heldIntSS.calls k _ cg M 1 q _ (Kd.S_reads' S4.out).2.2 (by rw [HN.out]; exact (Kd.S_reads' S4.out).2.1) HH.out); rw [HN.out] at h15; refine h15.mono ?_; rintro e w5 ⟨rfl, hd5⟩; have S5 := Aside0.mk (Kd.S_below S4.out hd5.below); have B5 := Aside0.mk (below_step B4.out hd5.below); have T5 := Aside0.mk (XTab.below T1.out (below_step B4.out hd5.below)); clear hd5 h15))
  go_wp2_with (first
    | (go_at_call 12; (with_reducible refine (impl_AllSeatings.calls k a0 a1 G b _ T5.out HG.out).mono ?_); rintro e w6 ⟨vh, rfl, hs6, hb6⟩; obtain ⟨Ah, ch, eh⟩ := Kd.S_slice hs6; subst eh; have S6 := Aside0.mk hs6; have G6 := Aside0.mk (Kd.S_below S5.out hb6); have B6 := Aside0.mk (below_step B5.out hb6); clear hs6 hb6)
    | (go_at_call 13; (with_reducible refine (laws_eqIntSS.calls k _ _ G _ _ S true _ ?a1 ?a2 ?a3 ?a4 HE.out).mono ?_); (case a1 => exact (Kd.S_reads' S6.out).2.2); (case a2 => exact (Kd.S_reads' S6.out).2.1); (case a3 => exact Kd.C_below (Kd.N_reads' N1.out).2.2 B6.out); (case a4 => exact (Kd.N_reads' N1.out).2.1); rintro e w7 ⟨rfl, hd7⟩; have G7 := Aside0.mk (Kd.S_below G6.out hd7.below); have B7 := Aside0.mk (below_step B6.out hd7.below); clear hd7)
    | (go_at_call 15; (have h15 := laws_heldIntSS.calls k _ cg M 1 q _ (Kd.S_reads' G7.out).2.2 (by rw [HN.out]; exact (Kd.S_reads' G7.out).2.1) HH.out); rw [HN.out] at h15; refine h15.mono ?_; rintro e w8 ⟨rfl, hd8⟩; have B8 := Aside0.mk (below_step B7.out hd8.below); clear hd8 h15))
  go_ret
  exact ⟨rfl, below_step B1.out B8.out⟩
theorem laws_FnExactAllSeatings.calls (k : Nat) (a0 a1 : Int) (w : World) (hT : XTab w) (h : laws_FnExactAllSeatings.f k a0 a1 = some true) :
    Calls Tryd.prog 4 #[.int .i64 a0, .int .i64 a1] w fun e w' => e = .returned (.bool true) ∧ Below w.heap.size w w' := by
  unfold laws_FnExactAllSeatings.f at h
  obtain ⟨⟨S, b⟩, hS, h⟩ := Option.bind_eq_some_iff.mp h
  obtain ⟨⟨G, b2⟩, hG, h⟩ := Option.bind_eq_some_iff.mp h
  obtain ⟨t, hE, h⟩ := Option.bind_eq_some_iff.mp h
  by_cases c : (t = true ∧ b2 = b) ∧ G.length ≤ 1000000
  · rw [if_pos c] at h
    obtain ⟨⟨m, M⟩, hM, h⟩ := Option.bind_eq_some_iff.mp h
    obtain ⟨q, hH, h⟩ := Option.bind_eq_some_iff.mp h
    by_cases c2 : 0 ≤ q ∧ q = m ∧ M.length = G.length
    · obtain ⟨⟨rfl, rfl⟩, hl⟩ := c
      obtain ⟨hq, rfl, hlen⟩ := c2
      exact law_walk k a0 a1 S G M b2 q w hT hS hG hE hl hM hH hq hlen
    · rw [if_neg c2] at h; simp at h
  · rw [if_neg c] at h; simp at h

/-- THE ONE PURE STATEMENT of laws_FnExactAllSeatings: yours. -/
def laws_FnExactAllSeatings.Pure : Prop := ∀ (a0 : Int) (a1 : Int), (Lit.int .i64 a0).wf = true → (Lit.int .i64 a1).wf = true → ∃ k, laws_FnExactAllSeatings.f k a0 a1 = some true
theorem laws_FnExactAllSeatings.walk (P : laws_FnExactAllSeatings.Pure) (a0 : Int) (a1 : Int) (w : World) (w0 : (Lit.int .i64 a0).wf = true) (w1 : (Lit.int .i64 a1).wf = true) (hT : XTab w) :
    Calls Tryd.prog 4 #[.int .i64 a0, .int .i64 a1] w fun e w' => e = .returned (.bool true) ∧ Below w.heap.size w w' := by
  obtain ⟨k, h⟩ := P a0 a1 w0 w1
  refine (laws_FnExactAllSeatings.calls k a0 a1 w hT h).mono ?_
  rintro e w' ⟨rfl, hd⟩
  exact ⟨rfl, hd⟩

end Go.Proofs.YtdbdmdegnmoblaaDoor.PFnExactAllSeatings
