/- Written by a program of this session (wip/xprint) out of Lean's own print of the given functions: each function as a plain Lean function, and the proof that the call answers it. -/
import Derived.Test.YtdbdmdegnmoblaaDoorPFnExactAllSeatingsx0
import Derived.Test.YtdbdmdegnmoblaaDoorPFnExactAllSeatingsx3
namespace Go.Proofs.YtdbdmdegnmoblaaDoor.PFnExactAllSeatings
open Go.RowKit Go.Proofs.YtdbdmdegnmoblaaDoorW.PrintWords Go.Proofs.YtdbdmdegnmoblaaDoorW.PrintLast Go.Proofs.YtdbdmdegnmoblaaDoorW.PrintMore
attribute [local go_sem] max2_int min2_int max_two min_two max_three min_three max_four min_four   -- for this text's walks alone
set_option linter.unusedVariables false
set_option linter.unusedSimpArgs false

/-! ### impl_AllSeatings: function 12 -/
set_option linter.unnecessarySimpa false
set_option maxHeartbeats 8000000 in
set_option maxRecDepth 100000 in
theorem clone_calls (g c : Nat) (l : List Int) (w : World) (hr : Kd.C (Kd.int .i64) w (some ⟨g, 0, none⟩) l.length l) (hl : l.length ≤ 1000) (hc : l.length ≤ c) :
    Calls Tryd.prog 40 #[.slice (some ⟨g, 0, none⟩) l.length c] w fun e w' => ∃ v0_ : Value, e = .returned v0_ ∧ Kd.R (Kd.int .i64) 3 w' w.heap.size (fun _ => True) v0_ l ∧ Below w.heap.size w w' := by
  have HR0 := Aside0.mk hr
  have HB := Aside0.mk (Below.refl w.heap.size w)
  have HL := Aside0.mk hl
  clear hr hc hl
  have heq : ∀ W : World, Sem.run Tryd.prog (binOp BinOp.eql 30 (Value.slice (some ⟨g, 0, none⟩) l.length c) (Value.slice none 0 0)) W = .ok (.bool false) W := fun W => by
    have hu := Tryd.underlying30
    first | rfl | (go_simp; done) | (simp [binOp, hu]; done)
  go_enter Tryd.func40, Tryd.ntmps40
  go_wp2_with (first
    | ((with_reducible refine gate_dst (N := 5) rfl ?_); refine Kd.R_lit (Kd.int .i64) _ 3 ?hg (N := 5) ?hd (xs := ([] : List Int)) (inner := []) (ok := fun _ => True) (okp := fun _ => True) ?hr ?hp (fun _ hk => hk) trivial (Below.refl _ _) (Nat.le_refl _) (by simp) ?_; (case hd => rfl); (case hg => rfl); (case hr => first | (go_simp; done) | (go_simp; rfl)); (case hp => exact (Reps.none _ _)); intro v104 w3 ho4 hb hg_ hnew_; clear hg_ hnew_; have n0_ := Aside0.mk (Kd.R_lower ho4 (below_size HB.out)); have n1_ := Aside0.mk (below_step HB.out hb); clear HB; have HO105 := n0_; have HB := n1_; clear n0_ n1_; clear hb ho4)
    | ((with_reducible refine gate_builtin (b := .append) (xs := #[.tmp 5, .tmp 6]) rfl ?_); at_builtin; refine Kd.R_append_rows (Kd.int .i64) (w0 := w) w.heap.size rfl (.tmp 5) (.tmp 6) 30 3 (.int .i64 0) 8 rfl Tryd.underlying30 info3 rfl (by decide) (by omega) v104 ([] : List Int) l _ _ _ (fun _ => True) (fun _ => False) rfl rfl ?aO ?aR (fun _ _ h => h) (fun _ h => h.elim) ?aF ?aB ?aS ?aL ?_; (case aR => exact Kd.C_below HR0.out HB.out); (case aB => exact HB.out); (case aF => exact (fun _ _ => trivial)); (case aO => exact HO105.out); (case aS => exact below_size HB.out); (case aL => have := HL.out; simp; omega); intro v107 w5 ho hb hg hat; rw [List.nil_append] at ho; have n0_ := Aside0.mk (hb); have n1_ := Aside0.mk (ho); clear HB; clear HO105; have HB := n0_; have HO108 := n1_; clear n0_ n1_; clear ho hb hg hat))
  go_ret
  exact ⟨_, rfl, HO108.out, HB.out⟩
/-- One number put behind a row of one's own: where what comes of it lies. -/
theorem push_run (B : Nat) (PV : Nat → Prop) (v : Value) (l : List Int) (x : Int) (W : World) (ty : TypeId) (HR : Kd.R (Kd.int .i64) 3 W B PV v l) (hB : B ≤ W.heap.size) (hl : l.length ≤ 1000) :
    ∃ v1 w1, (Builtin.append_ #[30, 30] ty #[v, .slice (some ⟨W.heap.size, 0, none⟩) 1 1]).run Tryd.prog (W.alloc (.cells #[.int .i64 x] 3)) = .ok v1 w1 ∧
      Kd.R (Kd.int .i64) 3 w1 B (fun k => some k = v1.ownBlock) v1 (l ++ [x]) ∧ W.grownBy w1 v.ownBlock ∧
      (((∃ b, v1.ownBlock = some b ∧ W.heap.size ≤ b) ∧ Below W.heap.size W w1) ∨ ∃ A cap, v = .slice A l.length cap ∧ v1 = .slice A (l.length + 1) cap) := by
  obtain ⟨i0, hi, hzz⟩ := Option.map_eq_some_iff.1 info3
  simp only [Prod.mk.injEq] at hzz
  obtain ⟨hz0, hz1, hz2⟩ := hzz
  obtain ⟨h0, inner, hown, hr⟩ := HR
  have hown0 := hown
  have hsz : (Kd.int .i64).sz = 1 := rfl
  rw [hsz] at hown
  have hbel : Below W.heap.size W (W.alloc (.cells #[.int .i64 x] 3)) := below_alloc (Below.refl _ _) _
  have hown' : (W.alloc (.cells #[.int .i64 x] 3)).ownsRow B 3 1 v l.length inner := own_move hown (fun k hk => hbel.block k (World.ownsRow.lt hown k hk).2)
  have hnews : ∀ j u, [Value.int .i64 x][j]? = some u → (W.alloc (.cells #[.int .i64 x] 3)).cell? ((⟨W.heap.size, 0, none⟩ : Addr).add j) = some u := by
    intro j u hu
    match j, hu with
    | 0, hu =>
      obtain rfl : Value.int .i64 x = u := by simpa using hu
      have h := (blk_cell (heap_alloc_new W (.cells #[.int .i64 x] 3)) 0).trans rfl
      simpa [Addr.add] using h
    | j + 1, hu => simp at hu
  have hgr : ∀ {w1 : World} {row : Option Nat}, (W.alloc (.cells #[.int .i64 x] 3)).grownBy w1 row → W.grownBy w1 row := fun {w1 row} hg =>
    ⟨hg.os.trans hbel.os, hg.tape.trans hbel.tape, hg.output.trans hbel.output, Nat.le_trans hbel.size hg.size, fun k hk hne => (hg.block k (Nat.lt_of_lt_of_le hk hbel.size) hne).trans (hbel.block k hk)⟩
  have fin : ∀ {v1 : Value} {w1 : World}, w1.ownsRow B 3 1 v1 (l.length + 1) (inner ++ [.int .i64 x]) → (W.alloc (.cells #[.int .i64 x] 3)).grownBy w1 v.ownBlock → (v1.ownBlock = v.ownBlock ∨ ∃ b, v1.ownBlock = some b ∧ W.heap.size ≤ b) →
      Kd.R (Kd.int .i64) 3 w1 B (fun k => some k = v1.ownBlock) v1 (l ++ [x]) := fun {v1 w1} ho hg hat => by
    have h := Kd.R_appended (d := Kd.int .i64) (e := 3) (base := B) (ok := fun _ => True) (okp := fun _ => False) (W := W) (w1 := w1) (v := v) (v1 := v1) (xs := l) (p := x) (inner := inner) (cs := [.int .i64 x]) (fun _ _ => trivial)
      (hr.imp_ (fun _ _ hq => hq)) rfl (fun _ hk => hk.elim) (fun _ _ => trivial) ho (hgr hg) hat
    exact Kd.R_tight rfl h
  have hms : l.length + 1 ≤ maxLen := by simp only [maxLen]; omega
  rcases hown'.2 with ⟨rfl, hn⟩ | ⟨g, cap, cur, rfl, hbg, hgg, hnc, hcm, hcs, htake⟩
  · obtain ⟨v1, w1, hrun, ho, hg, hnil, hat⟩ := run_append_own_at (P := Tryd.prog) (W.alloc (.cells #[.int .i64 x] 3)) B 30 ty 3 i0 _ 1 8 Tryd.underlying30 hi hz0 hz1 hz2 rfl (by decide) _ l.length inner hown' ⟨W.heap.size, 0, none⟩ 1 1 [.int .i64 x] rfl hnews (by simp [Value.oneCell']) hms (by omega) (Nat.le_trans hB hbel.size)
    have hat' : v1.ownBlock = (Value.slice none 0 0).ownBlock ∨ ∃ b, v1.ownBlock = some b ∧ W.heap.size ≤ b := hat.imp id (fun h => ⟨_, h, hbel.size⟩)
    refine ⟨v1, w1, hrun, fin ho hg hat', hgr hg, .inl ⟨?_, (hgr hg).os, (hgr hg).tape, (hgr hg).output, (hgr hg).size, fun k hk => (hgr hg).block k hk (by simp [Value.ownBlock])⟩⟩
    rcases hat with hat | hat
    · exfalso
      rcases ho.2 with ⟨_, h⟩ | ⟨g1, cap1, cur1, rfl, _⟩
      · omega
      · simp [Value.ownBlock] at hat
    · exact ⟨_, hat, hbel.size⟩
  · by_cases hroom : l.length + 1 ≤ cap
    · obtain ⟨w1, hrun, ho, hg⟩ := run_append_fits (P := Tryd.prog) (W.alloc (.cells #[.int .i64 x] 3)) B 30 ty 3 i0 1 Tryd.underlying30 hi hz1 g l.length cap inner hown' ⟨W.heap.size, 0, none⟩ 1 1 [.int .i64 x] rfl hnews (by simp [Value.oneCell']) hroom
      exact ⟨_, w1, hrun, fin ho hg (.inl rfl), hgr hg, .inr ⟨_, _, rfl, rfl⟩⟩
    · obtain ⟨v1, w1, hrun, ho, hg, hnil, hat⟩ := run_append_own_at (P := Tryd.prog) (W.alloc (.cells #[.int .i64 x] 3)) B 30 ty 3 i0 _ 1 8 Tryd.underlying30 hi hz0 hz1 hz2 rfl (by decide) _ l.length inner hown' ⟨W.heap.size, 0, none⟩ 1 1 [.int .i64 x] rfl hnews (by simp [Value.oneCell']) hms (by omega) (Nat.le_trans hB hbel.size)
      have hgrow := run_append_grow (P := Tryd.prog) (W.alloc (.cells #[.int .i64 x] 3)) 30 ty 3 i0 _ Tryd.underlying30 hi hz0 ⟨g, 0, none⟩ l.length cap inner (by rw [hown.1, hz1]) (fun j u hu => World.ownsRow.cells hown' (g := g) (by simp [Value.ownBlock]) j u hu) ⟨W.heap.size, 0, none⟩ 1 1 [.int .i64 x] (by rw [hz1]; rfl) hnews (by omega) (by omega) (growslice_fits (by omega) (by rw [hz2]; omega))
      have e := hrun.symm.trans hgrow
      injection e with e1 e2
      have hnew : v1.ownBlock = some (W.alloc (.cells #[.int .i64 x] 3)).heap.size := by
        rw [e1]
        rfl
      exact ⟨v1, w1, hrun, fin ho hg (.inr ⟨_, hnew, hbel.size⟩), hgr hg, .inl ⟨⟨_, hnew, hbel.size⟩, by rw [e2]; exact below_alloc (below_drew1 hbel) _⟩⟩
/-- The row that was there before, behind what was done to the longer one. -/
theorem pop_row {B : Nat} {PV PV' : Nat → Prop} {v v1 : Value} {l : List Int} {x : Int} {W w1 w2 : World} (HR : Kd.R (Kd.int .i64) 3 W B PV v l) (h1 : Kd.R (Kd.int .i64) 3 w2 B PV' v1 (l ++ [x]))
    (hat : ((∃ b, v1.ownBlock = some b ∧ W.heap.size ≤ b) ∧ Below W.heap.size W w1) ∨ ∃ A cap, v = .slice A l.length cap ∧ v1 = .slice A (l.length + 1) cap)
    (hk : ∀ k, k < W.heap.size → some k = v.ownBlock → some k ≠ v1.ownBlock → w2.heap[k]? = w1.heap[k]?) : Kd.R (Kd.int .i64) 3 w2 B (fun k => some k = v.ownBlock) v l := by
  rcases hat with ⟨⟨b, hb, hle⟩, hbel⟩ | ⟨A, cap, rfl, rfl⟩
  · have h := Kd.R_tight rfl HR
    refine Kd.R_step h (fun k ho hlt => (hk k hlt ho (fun e => ?_)).trans (hbel.block k hlt))
    rw [hb] at e
    injection e with e
    omega
  · have h := Kd.R_take h1 (m := l.length) (by simp)
    rw [List.take_left' rfl] at h
    exact Kd.R_tight rfl h
/-- What the closure's calls have before them: the row (l, its value v), the list so far (L, its value vo) and the four variables. -/
structure St (w0 : World) (gN gO gK gF : Nat) (n kk : Int) (fv v : Value) (l : List Int) (w : World) (PO : Nat → Prop) (vo : Value) (L : List (List Int)) : Prop where
  bel : Below w0.heap.size w0 w
  bN : w.heap[gN]? = some (.cells #[.int .i64 n] 3 (0, 0))
  bK : w.heap[gK]? = some (.cells #[.int .i64 kk] 3 (0, 0))
  bF : w.heap[gF]? = some (.cells #[fv] 58 (0, 0))
  bO : w.heap[gO]? = some (.cells #[vo] 25 (0, 0))
  lo : w0.heap.size ≤ gO
  out : Kd.S (Kd.slice 3 (Kd.int .i64)) 30 w w0.heap.size PO vo L
  row : Kd.R (Kd.int .i64) 3 w w0.heap.size (fun k => some k = v.ownBlock) v l
  pn : ∀ k, PO k → k ≠ gN ∧ k ≠ gK ∧ k ≠ gF ∧ k ≠ gO ∧ some k ≠ v.ownBlock
  vn : ∀ k, some k = v.ownBlock → k ≠ gN ∧ k ≠ gK
section
variable {w0 w W : World} {gN gO gK gF : Nat} {n kk : Int} {fv v vo : Value} {l : List Int} {L : List (List Int)} {PO : Nat → Prop}
theorem St.ne (h : St w0 gN gO gK gF n kk fv v l w PO vo L) : gO ≠ gN ∧ gO ≠ gK ∧ gO ≠ gF ∧ some gO ≠ v.ownBlock ∧ some gF ≠ v.ownBlock := by
  refine ⟨fun e => ?_, fun e => ?_, fun e => ?_, Kd.R_ne h.row h.bO (by decide), Kd.R_ne h.row h.bF (by decide)⟩
  · subst e; have := h.bO.symm.trans h.bN; simp at this
  · subst e; have := h.bO.symm.trans h.bK; simp at this
  · subst e; have := h.bO.symm.trans h.bF; simp at this
theorem St.drew (h : St w0 gN gO gK gF n kk fv v l w PO vo L) : St w0 gN gO gK gF n kk fv v l w.drew PO vo L :=
  ⟨below_drew1 h.bel, h.bN, h.bK, h.bF, h.bO, h.lo, Kd.S_drew h.out, Kd.R_drew h.row, h.pn, h.vn⟩
theorem St.step (h : St w0 gN gO gK gF n kk fv v l w PO vo L) {w1 : World} (hb : Below w.heap.size w w1) : St w0 gN gO gK gF n kk fv v l w1 PO vo L :=
  ⟨below_step h.bel hb, blk_below (o := .cells #[.int .i64 n] 3 (0, 0)) h.bN hb, blk_below (o := .cells #[.int .i64 kk] 3 (0, 0)) h.bK hb, blk_below (o := .cells #[fv] 58 (0, 0)) h.bF hb, blk_below (o := .cells #[vo] 25 (0, 0)) h.bO hb, h.lo, Kd.S_below h.out hb, Kd.R_below h.row hb, h.pn, h.vn⟩
theorem St.size (h : St w0 gN gO gK gF n kk fv v l w PO vo L) : w0.heap.size ≤ w.heap.size := below_size h.bel
/-- One seating more in the list: the row's copy. -/
theorem St.more (h : St w0 gN gO gK gF n kk fv v l w PO vo L) {w1 : World} {PO' : Nat → Prop} {vo1 : Value} {L' : List (List Int)} (hk : Kept w w1 (fun k => k = gO ∨ PO k ∨ some k = v.ownBlock)) (hb : Below w0.heap.size w0 w1)
    (ho : w1.heap[gO]? = some (.cells #[vo1] 25 (0, 0))) (hs : Kd.S (Kd.slice 3 (Kd.int .i64)) 30 w1 w0.heap.size PO' vo1 L') (hr : Kd.R (Kd.int .i64) 3 w1 w0.heap.size (fun k => some k = v.ownBlock) v l)
    (hp : ∀ k, PO' k → PO k ∨ w.heap.size ≤ k) : St w0 gN gO gK gF n kk fv v l w1 PO' vo1 L' := by
  obtain ⟨n1, n2, n3, n4, n5⟩ := h.ne
  have hbig : ∀ k, w.heap.size ≤ k → k ≠ gN ∧ k ≠ gK ∧ k ≠ gF ∧ k ≠ gO ∧ some k ≠ v.ownBlock := fun k hk => by
    have a1 := blk_lt h.bN; have a2 := blk_lt h.bK; have a3 := blk_lt h.bF; have a4 := blk_lt h.bO
    exact ⟨by omega, by omega, by omega, by omega, fun e => by have := Kd.R_lt h.row k e.symm; omega⟩
  refine ⟨hb, blk_kept h.bN hk ?_, blk_kept h.bK hk ?_, blk_kept h.bF hk ?_, ho, h.lo, hs, hr, fun k hk' => ?_, h.vn⟩
  · rintro (e | e | e)
    · exact n1 e.symm
    · exact (h.pn _ e).1 rfl
    · exact (h.vn _ e).1 rfl
  · rintro (e | e | e)
    · exact n2 e.symm
    · exact (h.pn _ e).2.1 rfl
    · exact (h.vn _ e).2 rfl
  · rintro (e | e | e)
    · exact n3 e.symm
    · exact (h.pn _ e).2.2.1 rfl
    · exact n5 e
  · rcases hp k hk' with h1 | h1
    · exact h.pn k h1
    · exact hbig k h1
/-- The row with one number more. -/
theorem St.push (h : St w0 gN gO gK gF n kk fv v l W PO vo L) {v1 : Value} {w1 : World} {x : Int} (hr : Kd.R (Kd.int .i64) 3 w1 w0.heap.size (fun k => some k = v1.ownBlock) v1 (l ++ [x])) (hg : W.grownBy w1 v.ownBlock)
    (hat : ((∃ b, v1.ownBlock = some b ∧ W.heap.size ≤ b) ∧ Below W.heap.size W w1) ∨ ∃ A cap, v = .slice A l.length cap ∧ v1 = .slice A (l.length + 1) cap) : St w0 gN gO gK gF n kk fv v1 (l ++ [x]) w1 (fun k => PO k ∧ k < W.heap.size) vo L := by
  obtain ⟨n1, n2, n3, n4, n5⟩ := h.ne
  have own : ∀ k, some k = v1.ownBlock → some k = v.ownBlock ∨ W.heap.size ≤ k := fun k hk => by
    rcases hat with ⟨⟨b, hb, hle⟩, -⟩ | ⟨A, cap, rfl, rfl⟩
    · rw [hb] at hk; injection hk with hk; exact .inr (by omega)
    · exact .inl (by cases A <;> exact hk)
  have a1 := blk_lt h.bN; have a2 := blk_lt h.bK; have a3 := blk_lt h.bF; have a4 := blk_lt h.bO
  refine ⟨h.bel.grown hg h.size (fun k hk => Kd.R_base h.row k hk), (hg.block gN a1 (fun e => (h.vn _ e).1 rfl)).trans h.bN, (hg.block gK a2 (fun e => (h.vn _ e).2 rfl)).trans h.bK, (hg.block gF a3 n5).trans h.bF, (hg.block gO a4 n4).trans h.bO, h.lo,
    Kd.S_mono (Kd.S_grown (Kd.S_bound h.out) hg (fun k hk => (h.pn k hk.1).2.2.2.2)) (fun k hk => ⟨hk.1, hk.2.2.1⟩), hr, fun k hk => ?_, fun k hk => ?_⟩
  · obtain ⟨p1, p2, p3, p4, p5⟩ := h.pn k hk.1
    exact ⟨p1, p2, p3, p4, fun e => (own k e).elim p5 (fun h => by have := hk.2; omega)⟩
  · exact (own k hk).elim (h.vn k) (fun h => ⟨by omega, by omega⟩)
/-- Behind the call with the longer row: the row that was there before. -/
theorem St.pop (h : St w0 gN gO gK gF n kk fv v l W PO vo L) {v1 vo' : Value} {w1 w2 : World} {x : Int} {L' : List (List Int)} {PO' : Nat → Prop} (hg : W.grownBy w1 v.ownBlock)
    (hat : ((∃ b, v1.ownBlock = some b ∧ W.heap.size ≤ b) ∧ Below W.heap.size W w1) ∨ ∃ A cap, v = .slice A l.length cap ∧ v1 = .slice A (l.length + 1) cap)
    (h2 : St w0 gN gO gK gF n kk fv v1 (l ++ [x]) w2 PO' vo' L') (hk : Kept w1 w2 (fun k => k = gO ∨ (PO k ∧ k < W.heap.size) ∨ some k = v1.ownBlock)) (hp : ∀ k, PO' k → (PO k ∧ k < W.heap.size) ∨ w1.heap.size ≤ k) :
    St w0 gN gO gK gF n kk fv v l w2 PO' vo' L' ∧ Kept W w2 (fun k => k = gO ∨ PO k ∨ some k = v.ownBlock) ∧ (∀ k, PO' k → PO k ∨ W.heap.size ≤ k) := by
  obtain ⟨n1, n2, n3, n4, n5⟩ := h.ne
  have hsz := hg.size
  have own : ∀ k, some k = v1.ownBlock → some k = v.ownBlock ∨ W.heap.size ≤ k := fun k hk => by
    rcases hat with ⟨⟨b, hb, hle⟩, -⟩ | ⟨A, cap, rfl, rfl⟩
    · rw [hb] at hk; injection hk with hk; exact .inr (by omega)
    · exact .inl (by cases A <;> exact hk)
  have hp' : ∀ k, PO' k → PO k ∨ W.heap.size ≤ k := fun k hk => (hp k hk).imp (fun h => h.1) (fun h => Nat.le_trans hsz h)
  refine ⟨⟨h2.bel, h2.bN, h2.bK, h2.bF, h2.bO, h2.lo, h2.out, ?_, fun k hk => ?_, h.vn⟩, ?_, hp'⟩
  · refine pop_row h.row h2.row hat (fun k hlt ho hne => hk.2 k (Nat.lt_of_lt_of_le hlt hsz) ?_)
    rintro (e | e | e)
    · subst e; exact n4 ho
    · exact (h.pn k e.1).2.2.2.2 ho
    · exact hne e
  · obtain ⟨p1, p2, p3, p4, -⟩ := h2.pn k hk
    refine ⟨p1, p2, p3, p4, fun e => ?_⟩
    rcases hp' k hk with h1 | h1
    · exact (h.pn k h1).2.2.2.2 e
    · have := Kd.R_lt h.row k e.symm; omega
  · have h1 : Kept W w1 (fun k => k = gO ∨ PO k ∨ some k = v.ownBlock) := Kept.of_grown hg (Kept.refl W _) (fun k hk => .inl (.inr (.inr hk.symm)))
    refine h1.then_ hk (fun k hk => ?_)
    rcases hk with h | h | h
    · exact .inl (.inl h)
    · exact .inl (.inr (.inl h.1))
    · exact (own k h).imp (fun h => .inr (.inr h)) id
theorem St.sub (h : St w0 gN gO gK gF n kk fv v l w PO vo L) {PO' : Nat → Prop} (hs : Kd.S (Kd.slice 3 (Kd.int .i64)) 30 w w0.heap.size PO' vo L) (hp : ∀ k, PO' k → PO k) : St w0 gN gO gK gF n kk fv v l w PO' vo L :=
  ⟨h.bel, h.bN, h.bK, h.bF, h.bO, h.lo, hs, h.row, fun k hk => h.pn k (hp k hk), h.vn⟩
end
set_option maxHeartbeats 8000000 in
set_option maxRecDepth 100000 in
theorem fill_base (w0 w : World) (gN gO gK gF : Nat) (n kk fr : Int) (fv v vo : Value) (l : List Int) (L : List (List Int)) (PO : Nat → Prop) (h : St w0 gN gO gK gF n kk fv v l w PO vo L) (hl : (l.length : Int) = n) (hn : n ≤ 1000) (h0 : 0 < l.length) (hL : L.length ≤ 1000000) :
    Calls Tryd.prog 39 #[v, .int .u32 fr, .pointer (some ⟨gN, 0, none⟩), .pointer (some ⟨gO, 0, none⟩), .pointer (some ⟨gK, 0, none⟩), .pointer (some ⟨gF, 0, none⟩)] w fun e w' => (∃ u, e = .returned u) ∧ ∃ (vo' : Value) (PO' : Nat → Prop), St w0 gN gO gK gF n kk fv v l w' PO' vo' (L ++ [l]) ∧ Kept w w' (fun k => k = gO ∨ PO k ∨ some k = v.ownBlock) ∧ (∀ k, PO' k → PO k ∨ w.heap.size ≤ k) := by
  obtain ⟨gv, cv, ev, -, -, -⟩ := Kd.R_form h.row h0
  subst ev
  have hcap := (Kd.R_reads' h.row).2.1
  have cN : w.cell? ⟨gN, 0, none⟩ = some (.int .i64 n) := (blk_cell h.bN 0).trans rfl
  have c1 : ((l.length : Int) == n) = true := beq_iff_eq.mpr hl
  have HH := Aside0.mk h
  have HC := Aside0.mk hcap
  have HL := Aside0.mk hL
  have Hn := Aside0.mk (show l.length ≤ 1000 by omega)
  clear h hcap hL hn h0 hl
  go_enter Tryd.func39, Tryd.ntmps39
  try go_wp2
  have hd := Aside0.mk HH.out.drew
  have hcO : w.drew.cell? ⟨gO, 0, none⟩ = some vo := (blk_cell hd.out.bO 0).trans rfl
  refine start_ (n := 6) (S := fun w' => w'.cell? ⟨gO, 0, none⟩ = some vo) (ds := [4, 5]) #[false, false, false, false, false, false] (by kernel_rfl) rfl rfl hcO (fun hHeld => ?_)
  have hkd := Aside0.mk (Kept.drew (Kept.refl w (fun k => k = gO ∨ PO k ∨ some k = (Value.slice (some ⟨gv, 0, none⟩) l.length cv).ownBlock)))
  have hsd : w.drew.heap.size = w.heap.size := rfl
  generalize w.drew = wd at hd hcO hHeld hkd hsd ⊢
  refine pure_ (i := 1) (N := some 18) (v := ?_) (a' := ?_) #[false, true, false, false, false, false] rfl rfl (by kernel_rfl) (fun _ _ _ h => h) (Or.inl ⟨by rfl, ?_⟩) ?_ ?_
  rotate_left
  · intro w'
    go_simp
    with_reducible rfl
  rotate_left
  · simp only [Act.put, List.setIfInBounds_toArray, List.set_cons_zero, List.set_cons_succ, i64_w, i32_w]
    rfl
  refine take_ (i := 0) (N := some 17) (v := ?_) (a' := ?_) #[true, true, false, false, false, false] rfl rfl (by kernel_rfl) (fun _ _ _ h => h) (Or.inl ⟨by rfl, ?_⟩) hHeld ?_ ?_
  rotate_left
  · intro w' s0
    go_simp
    with_reducible rfl
  rotate_left
  · simp only [Act.put, List.setIfInBounds_toArray, List.set_cons_zero, List.set_cons_succ, i64_w, i32_w]
    rfl
  refine one_ (i := 2) (N := some 19) #[true, true, true, false, false, false] rfl rfl (by kernel_rfl) (by decide) (fun K hK => ?_)
  refine goes_ Tryd.func40 (by kernel_rfl) rfl #[.slice (some ⟨gv, 0, none⟩) l.length cv] (by rfl) rfl rfl (by (try simp only [List.map_toArray, List.map_cons, List.map_nil]); first | done | rfl) ?_
  refine (clone_calls gv cv l wd (Kd.R_reads' hd.out.row).2.2 Hn.out HC.out).mono ?_
  rintro e w1 ⟨v1, rfl, hr1, hb1⟩
  obtain ⟨A1, d1, ev1⟩ := Kd.R_slice hr1
  subst ev1
  refine ⟨_, rfl, ?_⟩
  have h1 := Aside0.mk (hd.out.step hb1)
  have hvo := Kd.S_lt hd.out.out
  have hv1 := Kd.R_base hr1
  have hso := Aside0.mk (Kd.S_mono (ok' := fun k => (PO k ∨ w.heap.size ≤ k) ∧ ¬ some k = (Value.slice A1 l.length d1).ownBlock) (Kd.S_below (Kd.S_bound hd.out.out) hb1) (fun k hk => ⟨.inl hk.1, fun e => by have := hv1 k e.symm; have := hk.2.2.1; omega⟩))
  have hr1' := Aside0.mk (Kd.R_lower (Kd.R_tight rfl hr1) hd.out.size)
  have hk1 := Aside0.mk (hkd.out.below hb1)
  have c2 : w1.cell? ⟨gO, 0, none⟩ = some vo := (blk_cell h1.out.bO 0).trans rfl
  have hok1 := Aside0.mk (show ∀ k, (fun k => some k = (Value.slice A1 l.length d1).ownBlock) k → (fun k => PO k ∨ w.heap.size ≤ k) k ∧ some k ≠ vo.ownBlock from fun k hk => ⟨.inr (by have := hv1 k hk.symm; omega), fun e => by have := hv1 k hk.symm; have := hvo k e.symm; omega⟩)
  have hsz1 := Aside0.mk (show w.heap.size ≤ w1.heap.size by have := below_size hb1; omega)
  refine hK.out _ _ c2 (fun hHeld2 => ?_)
  clear hK K hHeld hb1 hr1 hv1 hvo
  refine norm_ (a' := ?_) ?_ ?_
  rotate_left
  · show Act.put _ (some 19) _ = _
    simp only [Act.put, List.setIfInBounds_toArray, List.set_cons_zero, List.set_cons_succ, i64_w, i32_w]
    rfl
  refine one_ (i := 3) (N := some 20) #[true, true, true, true, false, false] rfl rfl (by kernel_rfl) (by decide) (fun K hK => ?_)
  refine value_ (w1 := w1.alloc (.cells #[.slice A1 l.length d1] 30)) (v := .slice (some ⟨w1.heap.size, 0, none⟩) 1 1) (by rfl) rfl (by first | (go_simp; done) | (go_simp; rfl)) ?_
  refine hK.out _ _ ((pw_cell_below (below_alloc (Below.refl _ _) _) c2).trans rfl) (fun hHeld3 => ?_)
  clear hK K hHeld2
  refine norm_ (a' := ?_) ?_ ?_
  rotate_left
  · show Act.put _ (some 20) _ = _
    simp only [Act.put, List.setIfInBounds_toArray, List.set_cons_zero, List.set_cons_succ, i64_w, i32_w]
    rfl
  refine last_ (i := 4) (N := some 21) #[true, true, true, true, true, false] rfl rfl (by kernel_rfl) (by decide) (fun K hK => ?_)
  refine Kd.S_append_step (Kd.slice 3 (Kd.int .i64)) (w0 := w0) w0.heap.size (by rfl) (.tmp 17) (.tmp 20) 25 30 (.slice none 0 0) 24 rfl Tryd.underlying25 info30 rfl (by decide) (by omega) vo L l [.slice A1 l.length d1] (fun k => PO k ∨ w.heap.size ≤ k) (fun k => some k = (Value.slice A1 l.length d1).ownBlock) rfl rfl (Kd.M_row hr1'.out) hok1.out (fun k hk => .inr (Nat.le_trans hsz1.out hk)) hso.out h1.out.bel h1.out.size (by have := HL.out; omega) ?_
  intro v2 w2 hs2 hb2 hg2 hat2
  obtain ⟨A2, d2, ev2⟩ := Kd.S_slice hs2
  rw [List.length_append, List.length_singleton] at ev2
  subst ev2
  have hne := Kd.S_ne h1.out.out h1.out.bO (by decide)
  have hbO2 : w2.heap[gO]? = some (.cells #[vo] 25 (0, 0)) := (hg2.block gO (blk_lt h1.out.bO) hne).trans h1.out.bO
  have hr2 := Aside0.mk (Kd.R_step h1.out.row (w1 := w2) (fun k ho hlt => hg2.block k hlt (fun e => (HH.out.pn k (HH.out.out |> Kd.S_R |> fun h => h.1 k e.symm)).2.2.2.2 ho)))
  have hk2 := Aside0.mk (Kept.of_grown hg2 hk1.out (fun k hk => .inl (.inr (.inl (HH.out.out |> Kd.S_R |> fun h => h.1 k hk)))))
  have H2 := Aside0.mk hs2
  have B2 := Aside0.mk hb2
  refine hK.out _ _ ?_
  clear hK K hHeld3 hs2 hb2 hg2 hat2 hne
  refine norm_ (a' := ?_) ?_ ?_
  rotate_left
  · show Act.put _ (some 21) _ = _
    simp only [Act.put, List.setIfInBounds_toArray, List.set_cons_zero, List.set_cons_succ, i64_w, i32_w]
    rfl
  have hs9 : w2.cell? ⟨gO, 0, none⟩ = some vo := (blk_cell hbO2 0).trans rfl
  have hf9 := blk_frozen hbO2 0
  have G2 := Aside0.mk hbO2
  clear hbO2
  refine last_ (i := 5) (N := none) #[true, true, true, true, true, true] rfl rfl (by kernel_rfl) (by decide) (fun K hK => ?_)
  refine skip_ (w1 := ?_) (by rfl) rfl ?_ ?_
  rotate_left
  · go_simp
    rfl
  refine hK.out _ _ ?_
  clear hK K
  refine done_ (by kernel_rfl) ?_
  try go_wp2
  refine bodyPost_ret (results_none (by rfl) _ _ _) rfl ?_
  have hk3 := hk2.out.setCell (p := ⟨gO, 0, none⟩) (.inl (.inl rfl)) (.slice A2 (L.length + 1) d2)
  have ho3 : (w2.setCell ⟨gO, 0, none⟩ (.slice A2 (L.length + 1) d2)).heap[gO]? = some (.cells #[.slice A2 (L.length + 1) d2] 25 (0, 0)) := blk_put (cs := #[vo]) G2.out 0 _ rfl
  have hs3 := Kd.S_set H2.out G2.out (by decide) 0 (.slice A2 (L.length + 1) d2)
  have hr3 := Kd.R_far (p := ⟨gO, 0, none⟩) hr2.out (fun k hk (e : k = gO) => HH.out.ne.2.2.2.1 (e ▸ hk)) (.slice A2 (L.length + 1) d2)
  have hb3 : Below w0.heap.size w0 (w2.setCell ⟨gO, 0, none⟩ (.slice A2 (L.length + 1) d2)) := below_set B2.out HH.out.lo
  have hp3 : ∀ k, (fun k => PO k ∨ w.heap.size ≤ k) k → PO k ∨ w.heap.size ≤ k := fun _ h => h
  exact ⟨⟨_, rfl⟩, _, _, HH.out.more hk3 hb3 ho3 hs3 hr3 hp3, hk3, hp3⟩
/-- The rows that the closure adds: over the choices .. -/
def fillR (f : List Int → Int → Option (List (List Int))) (l : List Int) (fr : Int) : List Int → Option (List (List Int))
  | [] => some []
  | c :: cs => if 0 ≤ c then (f (l ++ [c]) (Go.bits .andNot .u32 fr (shl .u32 1 c))).bind fun a => (fillR f l fr cs).bind fun b => some (a ++ b) else none
def canF (kk : Int) (l : List Int) (fr : Int) (t : Bool) : Int := if (decide ((l.length : Int) ≥ kk) && t) = true then shl .u32 1 (l.length : Int) else fr
/-- .. and the closure. -/
def fillF (n kk : Int) : Nat → List Int → Int → Option (List (List Int))
  | 0, _, _ => none
  | j + 1, l, fr => if (l.length : Int) = n then (if 0 < l.length then some [l] else none) else
    (impl_set_has.f fr (l.length : Int)).bind fun t => (impl_set_list.f j (canF kk l fr t)).bind fun cs => if cs.length ≤ 1000 then fillR (fillF n kk j) l fr cs else none
theorem shl_len (m : Nat) : (2 ^ min m 32 % 4294967296 : Int) = shl .u32 1 (m : Int) := by simp [shl, IntKind.wrap_u32, IntKind.bits]
set_option maxHeartbeats 8000000 in
set_option maxRecDepth 100000 in
theorem fill_calls (w0 : World) (gN gO gK gF : Nat) (n kk : Int) (hn : n ≤ 1000) (hT : XTab w0) : ∀ (j : Nat) (l : List Int) (fr : Int) (T : List (List Int)) (v vo : Value) (L : List (List Int)) (PO : Nat → Prop) (w : World), St w0 gN gO gK gF n kk ((.func (.func 39) #[] #[.pointer (some ⟨gN, 0, none⟩), .pointer (some ⟨gO, 0, none⟩), .pointer (some ⟨gK, 0, none⟩), .pointer (some ⟨gF, 0, none⟩)])) v l w PO vo L → fillF n kk j l fr = some T → (l.length : Int) ≤ n → L.length + T.length ≤ 1000000 →
    Calls Tryd.prog 39 #[v, .int .u32 fr, .pointer (some ⟨gN, 0, none⟩), .pointer (some ⟨gO, 0, none⟩), .pointer (some ⟨gK, 0, none⟩), .pointer (some ⟨gF, 0, none⟩)] w fun e w' => (∃ u, e = .returned u) ∧ ∃ (vo' : Value) (PO' : Nat → Prop), St w0 gN gO gK gF n kk ((.func (.func 39) #[] #[.pointer (some ⟨gN, 0, none⟩), .pointer (some ⟨gO, 0, none⟩), .pointer (some ⟨gK, 0, none⟩), .pointer (some ⟨gF, 0, none⟩)])) v l w' PO' vo' (L ++ T) ∧ Kept w w' (fun k => k = gO ∨ PO k ∨ some k = v.ownBlock) ∧ (∀ k, PO' k → PO k ∨ w.heap.size ≤ k) := by
  intro j
  induction j with
  | zero => intro l fr T v vo L PO w h hf; simp [fillF] at hf
  | succ j ih =>
  intro l fr T v vo L PO w h hf hl hL
  simp only [fillF] at hf
  by_cases hln : (l.length : Int) = n
  · rw [if_pos hln] at hf
    by_cases h0 : 0 < l.length
    · rw [if_pos h0] at hf
      obtain rfl := Option.some.inj hf
      exact fill_base w0 w gN gO gK gF n kk fr _ v vo l L PO h hln hn h0 (by omega)
    · rw [if_neg h0] at hf
      simp at hf
  rw [if_neg hln] at hf
  obtain ⟨t, ht, hf⟩ := Option.bind_eq_some_iff.mp hf
  obtain ⟨cs, hcs, hf⟩ := Option.bind_eq_some_iff.mp hf
  have hcl : cs.length ≤ 1000 := by
    by_cases hc : cs.length ≤ 1000
    · exact hc
    · rw [if_neg hc] at hf; simp at hf
  rw [if_pos hcl] at hf
  obtain ⟨Av, cv, ev⟩ := Kd.R_slice h.row
  subst ev
  have cN : w.cell? ⟨gN, 0, none⟩ = some (.int .i64 n) := (blk_cell h.bN 0).trans rfl
  have cK : w.cell? ⟨gK, 0, none⟩ = some (.int .i64 kk) := (blk_cell h.bK 0).trans rfl
  have c1 : ((l.length : Int) == n) = false := beq_eq_false_iff_ne.mpr hln
  have HH := Aside0.mk h
  have HF := Aside0.mk hf
  have HLL := Aside0.mk hL
  have HS := Aside0.mk hcs
  have HA := Aside0.mk ht
  have HI := Aside0.mk ih
  have Hl := Aside0.mk hl
  have Hln := Aside0.mk hln
  have Hn := Aside0.mk hn
  have HTt := Aside0.mk hT
  have Hcl := Aside0.mk hcl
  clear h hf hL hcs ht ih hl hln hn hT hcl
  go_enter Tryd.func39, Tryd.ntmps39
  go_upto_region 4 with fail
  go_cut [30] (fun v30 wc => v30 = .bool (decide ((l.length : Int) ≥ kk) && t) ∧ Drawn0 w wc)
  case first =>
    by_cases hk : (l.length : Int) ≥ kk
    · have c2 : decide ((l.length : Int) ≥ kk) = true := decide_eq_true hk
      go_wp2_with (go_at_call 41; (with_reducible refine (impl_set_has.calls fr (l.length : Int) t _ HA.out).mono ?_); rintro e w1 ⟨rfl, hd1⟩)
      go_meet
      case rel => exact ⟨by rw [c2]; rfl, hd1⟩
    · have c2 : decide ((l.length : Int) ≥ kk) = false := decide_eq_false hk
      go_wp2
      go_meet
      case rel => exact ⟨by rw [c2]; rfl, Drawn0.refl _⟩
  case rest =>
  obtain ⟨e30, hdr⟩ := hcut
  subst e30
  have HD := Aside0.mk hdr
  clear hdr
  obtain ⟨b, hb⟩ : ∃ b, (decide ((l.length : Int) ≥ kk) && t) = b := ⟨_, rfl⟩
  rw [hb]
  have HBb := Aside0.mk hb
  clear hb
  go_upto_if 30 with fail
  go_cut [9] (fun v9 wc2 => v9 = .int .u32 (canF kk l fr t) ∧ wc2 = wc)
  case first =>
    cases b with
    | true =>
      have hlen : 0 ≤ (l.length : Int) := by omega
      have hlb : decide (0 ≤ (l.length : Int)) = true := decide_eq_true hlen
      go_wp2
      go_meet
      case rel => exact ⟨by unfold canF; rw [HBb.out, if_pos rfl, ← shl_len], rfl⟩
    | false =>
      go_wp2
      go_meet
      case rel => exact ⟨by unfold canF; rw [HBb.out]; rfl, rfl⟩
  case rest =>
  obtain ⟨e9, ew⟩ := hcut
  subst e9
  subst ew
  clear HBb c1
  have hSt := HH.out.step HD.out.below
  have hT1 := XTab.below HTt.out hSt.bel
  have hdz := HD.out.below.size
  go_wp2_with (go_at_call 42; (with_reducible refine (impl_set_list.calls j (canF kk l fr t) cs _ hT1 HS.out).mono ?_); rintro e w1 ⟨vc, rfl, hr1, hb1⟩; obtain ⟨Ac, cc, ec⟩ := Kd.R_slice hr1; subst ec; have hbo := Kd.R_base hr1; have hS1 := Aside0.mk ((hSt.step hb1).sub (PO' := fun k => PO k ∧ some k ≠ (Value.slice Ac cs.length cc).ownBlock) (Kd.S_mono (Kd.S_below (Kd.S_bound hSt.out) hb1) (fun k hk => ⟨hk.1, fun e => by have := hbo k e.symm; have := hk.2.2.1; omega⟩)) (fun k hk => hk.1)); have hvc := Aside0.mk (fun k hk => Nat.le_trans hdz (Kd.R_base hr1 k hk)); have hrc := Aside0.mk (Kd.R_lower (Kd.R_tight rfl hr1) hSt.size); have hk1 := Aside0.mk (((Kept.of_below (HD.out.below) (fun k => k = gO ∨ PO k ∨ some k = (Value.slice Av l.length cv).ownBlock)).below hb1)); clear hr1 hb1 hSt hT1 hdz hbo)
  go_loopg [36] (cs.length + 1) (fun kq v36 w' => ∃ (i : Nat) (POi : Nat → Prop) (voi : Value) (Li Ti : List (List Int)), v36 = .int .i64 (i : Int) ∧ i + kq = cs.length + 1 ∧ i ≤ cs.length ∧ Aside0 (St w0 gN gO gK gF n kk ((.func (.func 39) #[] #[.pointer (some ⟨gN, 0, none⟩), .pointer (some ⟨gO, 0, none⟩), .pointer (some ⟨gK, 0, none⟩), .pointer (some ⟨gF, 0, none⟩)])) (.slice Av l.length cv) l w' POi voi Li) ∧ Aside0 (fillR (fillF n kk j) l fr (cs.drop i) = some Ti) ∧ Aside0 (Li ++ Ti = L ++ T) ∧ Aside0 (Kept w w' (fun k => k = gO ∨ PO k ∨ some k = (Value.slice Av l.length cv).ownBlock)) ∧ Aside0 (∀ k, POi k → (PO k ∨ w.heap.size ≤ k) ∧ some k ≠ (Value.slice Ac cs.length cc).ownBlock) ∧ Aside0 (Kd.R (Kd.int .i64) 3 w' w0.heap.size (fun k => some k = (Value.slice Ac cs.length cc).ownBlock) (.slice Ac cs.length cc) cs))
  case atStart => exact ⟨0, _, vo, L, T, rfl, by omega, by omega, hS1, ⟨by rw [List.drop_zero]; exact HF.out⟩, ⟨rfl⟩, hk1, ⟨fun k hk => ⟨.inl hk.1, hk.2⟩⟩, hrc⟩
  case round =>
    clear hS1 hk1 hrc
    obtain ⟨i, POi, voi, Li, Ti, rfl, hik, hi, HSi, HFi, HLi, HKi, HPi, HRi⟩ := hrel
    cases gk with
    | zero => omega
    | succ k1 =>
    by_cases hlt : i < cs.length
    · have c5 : decide ((i : Int) < (cs.length : Int)) = true := decide_eq_true (by omega)
      obtain ⟨ad, e, hcell⟩ := Kd.at_int (Kd.R_reads' HRi.out).2.2 (i : Int) (by omega) (by omega)
      cases e
      rw [Int.toNat_natCast] at hcell
      have hF := HFi.out
      rw [List.drop_eq_getElem_cons hlt] at hF
      have hrd : rd cs (i : Int) = cs[i] := by simp [rd, List.getD, hlt]
      rw [← hrd] at hF
      obtain ⟨x, hx⟩ : ∃ x, rd cs (i : Int) = x := ⟨_, rfl⟩
      rw [hx] at hF hcell
      simp only [fillR] at hF
      by_cases h0 : 0 ≤ x
      · rw [if_pos h0] at hF
        obtain ⟨a, ha, hF⟩ := Option.bind_eq_some_iff.mp hF
        obtain ⟨b', hb', hF⟩ := Option.bind_eq_some_iff.mp hF
        obtain rfl := Option.some.inj hF
        obtain ⟨q, hq⟩ : ∃ q, shl .u32 1 x = q := ⟨_, rfl⟩
        rw [hq] at ha
        have hq_ : (IntKind.u32.wrap (1 * 2 ^ min x.toNat 32)) = q := hq
        have hqu : (IntKind.u32.wrap (2 ^ min x.toNat 32)) = q := by have h_ := hq_; rw [Int.one_mul] at h_; exact h_
        have hqm : (2 ^ min x.toNat 32 % 4294967296 : Int) = q := by rw [← hqu, IntKind.wrap_u32]
        have c6 : decide (0 ≤ x) = true := decide_eq_true h0
        have c7 := eq_true h0
        have Ha := Aside0.mk ha
        have Hb := Aside0.mk hb'
        have hlen : Li.length + (a ++ b').length = L.length + T.length := by have := congrArg List.length HLi.out; simpa using this
        have HLen := Aside0.mk hlen
        clear HFi hrd hx ha hb' hlen
        go_wp2
        have hd := Aside0.mk HSi.out.drew
        have hRd := Aside0.mk (Kd.R_drew HRi.out)
        have hKd := Aside0.mk (Kept.drew HKi.out)
        have hcF := (blk_cell hd.out.bF 0).trans rfl
        refine start_ (n := 10) (S := fun w' => w'.cell? ⟨gF, 0, none⟩ = some ((.func (.func 39) #[] #[.pointer (some ⟨gN, 0, none⟩), .pointer (some ⟨gO, 0, none⟩), .pointer (some ⟨gK, 0, none⟩), .pointer (some ⟨gF, 0, none⟩)]))) (ds := [9]) #[false, false, false, false, false, false, false, false, false, false] (by kernel_rfl) rfl rfl hcF (fun hHeld => ?_)
        generalize wr.drew = wd at hd hRd hKd hcF hHeld ⊢
        refine pure_ (i := 1) (N := some 41) (v := ?_) (a' := ?_) #[false, true, false, false, false, false, false, false, false, false] rfl rfl (by kernel_rfl) (fun _ _ _ h => h) (Or.inl ⟨by rfl, ?_⟩) ?_ ?_
        rotate_left
        · intro w'
          go_simp
          with_reducible rfl
        rotate_left
        · simp only [Act.put, List.setIfInBounds_toArray, List.set_cons_zero, List.set_cons_succ, i64_w, i32_w]
          rfl
        refine pure_ (i := 2) (N := some 42) (v := ?_) (a' := ?_) #[false, true, true, false, false, false, false, false, false, false] rfl rfl (by kernel_rfl) (fun _ _ _ h => h) (Or.inl ⟨by rfl, ?_⟩) ?_ ?_
        rotate_left
        · intro w'
          go_simp
          with_reducible rfl
        rotate_left
        · simp only [Act.put, List.setIfInBounds_toArray, List.set_cons_zero, List.set_cons_succ, i64_w, i32_w]
          rfl
        refine pure_ (i := 5) (N := some 45) (v := ?_) (a' := ?_) #[false, true, true, false, false, true, false, false, false, false] rfl rfl (by kernel_rfl) (fun _ _ _ h => h) (Or.inl ⟨by rfl, ?_⟩) ?_ ?_
        rotate_left
        · intro w'
          go_simp
          with_reducible rfl
        rotate_left
        · simp only [Act.put, List.setIfInBounds_toArray, List.set_cons_zero, List.set_cons_succ, i64_w, i32_w]
          rfl
        refine pure_ (i := 6) (N := some 46) (v := ?_) (a' := ?_) #[false, true, true, false, false, true, true, false, false, false] rfl rfl (by kernel_rfl) (fun _ _ _ h => h) (Or.inl ⟨by rfl, ?_⟩) ?_ ?_
        rotate_left
        · intro w'
          go_simp
          with_reducible rfl
        rotate_left
        · simp only [Act.put, List.setIfInBounds_toArray, List.set_cons_zero, List.set_cons_succ, i64_w, i32_w]
          rfl
        refine pure_ (i := 7) (N := some 47) (v := ?_) (a' := ?_) #[false, true, true, false, false, true, true, true, false, false] rfl rfl (by kernel_rfl) (fun _ _ _ h => h) (Or.inl ⟨by rfl, ?_⟩) ?_ ?_
        rotate_left
        · intro w'
          go_simp
          with_reducible rfl
        rotate_left
        · simp only [Act.put, List.setIfInBounds_toArray, List.set_cons_zero, List.set_cons_succ, i64_w, i32_w]
          rfl
        refine pure_ (i := 8) (N := some 48) (v := ?_) (a' := ?_) #[false, true, true, false, false, true, true, true, true, false] rfl rfl (by kernel_rfl) (fun _ _ _ h => h) (Or.inl ⟨by rfl, ?_⟩) ?_ ?_
        rotate_left
        · intro w'
          go_simp
          with_reducible rfl
        rotate_left
        · simp only [Act.put, List.setIfInBounds_toArray, List.set_cons_zero, List.set_cons_succ, i64_w, i32_w]
          rfl
        refine take_ (i := 0) (N := some 40) (v := ?_) (a' := ?_) #[true, true, true, false, false, true, true, true, true, false] rfl rfl (by kernel_rfl) (fun _ _ _ h => h) (Or.inl ⟨by rfl, ?_⟩) hHeld ?_ ?_
        rotate_left
        · intro w' s0
          go_simp
          with_reducible rfl
        rotate_left
        · simp only [Act.put, List.setIfInBounds_toArray, List.set_cons_zero, List.set_cons_succ, i64_w, i32_w]
          rfl
        refine one_ (i := 3) (N := some 43) #[true, true, true, true, false, true, true, true, true, false] rfl rfl (by kernel_rfl) (by decide) (fun K hK => ?_)
        refine value_ (w1 := wd.alloc (.cells #[.int .i64 x] 3)) (v := .slice (some ⟨wd.heap.size, 0, none⟩) 1 1) (by rfl) rfl (by first | (go_simp; done) | (go_simp; rfl)) ?_
        refine hK.out _ _ ((pw_cell_below (below_alloc (Below.refl _ _) _) hcF).trans rfl) (fun hHeld3 => ?_)
        clear hK K hHeld
        refine norm_ (a' := ?_) ?_ ?_
        rotate_left
        · show Act.put _ (some 43) _ = _
          simp only [Act.put, List.setIfInBounds_toArray, List.set_cons_zero, List.set_cons_succ, i64_w, i32_w]
          rfl
        have hl1000 : l.length ≤ 1000 := by have := Hl.out; have := Hn.out; omega
        obtain ⟨v1, w1, hrun, hr1, hg1, hat1⟩ := push_run w0.heap.size _ (.slice Av l.length cv) l x wd 30 hd.out.row hd.out.size hl1000
        have hp := Aside0.mk (hd.out.push hr1 hg1 hat1)
        have G1 := Aside0.mk hg1
        have A1 := Aside0.mk hat1
        have cF1 : w1.cell? ⟨gF, 0, none⟩ = some ((.func (.func 39) #[] #[.pointer (some ⟨gN, 0, none⟩), .pointer (some ⟨gO, 0, none⟩), .pointer (some ⟨gK, 0, none⟩), .pointer (some ⟨gF, 0, none⟩)])) := (blk_cell hp.out.bF 0).trans rfl
        refine one_ (i := 4) (N := some 44) #[true, true, true, true, true, true, true, true, true, false] rfl rfl (by kernel_rfl) (by decide) (fun K hK => ?_)
        refine value_ (w1 := w1) (v := v1) (by rfl) rfl (by unfold execOp; simp only [resolve, invoke, builtin, Sem.run_bind, Sem.run_pure, Result.andThen_ok, List.map_toArray, List.map_cons, List.map_nil]; simp [Act.eval, hrun]) ?_
        refine hK.out _ _ cF1 (fun hHeld4 => ?_)
        clear hK K hHeld3 hrun hr1 hg1 hat1
        refine norm_ (a' := ?_) ?_ ?_
        rotate_left
        · show Act.put _ (some 44) _ = _
          simp only [Act.put, List.setIfInBounds_toArray, List.set_cons_zero, List.set_cons_succ, i64_w, i32_w]
          rfl
        refine last_ (i := 9) (N := some 49) #[true, true, true, true, true, true, true, true, true, true] rfl rfl (by kernel_rfl) (by decide) (fun K hK => ?_)
        refine call_ 39 #[v1, .int .u32 (Go.bits .andNot .u32 fr q), .pointer (some ⟨gN, 0, none⟩), .pointer (some ⟨gO, 0, none⟩), .pointer (some ⟨gK, 0, none⟩), .pointer (some ⟨gF, 0, none⟩)] (by rfl) rfl ?_ ?_
        · have he := enters_ (P := Tryd.prog) Tryd.func39 (by kernel_rfl) rfl #[v1, .int .u32 (Go.bits .andNot .u32 fr q), .pointer (some ⟨gN, 0, none⟩), .pointer (some ⟨gO, 0, none⟩), .pointer (some ⟨gK, 0, none⟩), .pointer (some ⟨gF, 0, none⟩)] w1
          unfold execOp
          simp [resolve, Deferred.ofValue, invoke, Act.eval, he]
        refine (HI.out (l ++ [x]) _ a v1 voi Li _ w1 hp.out Ha.out (by have := Hl.out; have := Hln.out; simp; omega) (by have h_ := HLen.out; rw [List.length_append] at h_; have := HLL.out; omega)).mono ?_
        rintro e w2 ⟨⟨u, rfl⟩, vo', PO', hS2, hk2, hp2⟩
        refine ⟨_, rfl, ?_⟩
        obtain ⟨hS3, hk3, hp3⟩ := hd.out.pop G1.out A1.out hS2 hk2 hp2
        have S3 := Aside0.mk hS3
        have aO := blk_lt HH.out.bO
        have hwd : w.heap.size ≤ wd.heap.size := hKd.out.1
        have K3 := Aside0.mk (hKd.out.then_ hk3 (fun k hk => by
          rcases hk with h | h | h
          · exact .inl (.inl h)
          · exact (HPi.out k h).1.imp (fun h => .inr (.inl h)) id
          · exact .inl (.inr (.inr h))))
        have R3 := Aside0.mk (Kd.R_kept hRd.out hk3 (fun k hk => by
          have hge := hvc.out k hk.symm
          rintro (h | h | h)
          · omega
          · exact (HPi.out k h).2 hk
          · have := Kd.R_lt HH.out.row k h.symm; omega))
        have P3 := Aside0.mk (show ∀ k, PO' k → (PO k ∨ w.heap.size ≤ k) ∧ some k ≠ (Value.slice (some ad) cs.length cc).ownBlock from fun k hk => by
          rcases hp3 k hk with h | h
          · exact HPi.out k h
          · exact ⟨.inr (by omega), fun e => by have := Kd.R_lt hRd.out k e.symm; omega⟩)
        refine hK.out _ _ ?_
        clear hK K hS2 hk2 hp2 hS3 hk3 hp3
        refine norm_ (a' := ?_) ?_ ?_
        rotate_left
        · show Act.put _ (some 49) _ = _
          simp only [Act.put, List.setIfInBounds_toArray, List.set_cons_zero, List.set_cons_succ, i64_w, i32_w]
          rfl
        refine done_ (by kernel_rfl) ?_
        try go_wp2
        go_roundg k1
        case measure => omega
        case rel => exact ⟨i + 1, PO', vo', Li ++ a, b', by have := Hcl.out; rw [show wrap64 ((i : Int) + 1) = ((i + 1 : Nat) : Int) by unfold wrap64; omega], by omega, by omega, S3, Hb, ⟨by rw [List.append_assoc]; exact HLi.out⟩, K3, P3, R3⟩
      · rw [if_neg h0] at hF
        simp at hF
    · obtain rfl : i = cs.length := by omega
      have c5 : decide ((cs.length : Int) < (cs.length : Int)) = false := decide_eq_false (by omega)
      have hF := HFi.out
      rw [List.drop_length] at hF
      simp only [fillR] at hF
      obtain rfl := Option.some.inj hF
      go_wp2
      go_end0
      have e := HLi.out
      rw [List.append_nil] at e
      exact ⟨⟨_, rfl⟩, voi, POi, by rw [← e]; exact HSi.out, HKi.out, fun k hk => (HPi.out k hk).1⟩
theorem all_start (w : World) (n kk : Int) (nd : Nat) : ∀ w5, ((((((w.alloc (.cells #[.int .i64 n] 3)).alloc (.cells #[.int .i64 kk] 3)).drewN nd).alloc (.cells #[] 30)).alloc (.cells #[.slice (some ⟨w.heap.size + 1 + 1, 0, none⟩) 0 0] 25)).alloc (.cells #[.nilFunc] 58)) = w5 → Below w.heap.size w w5 ∧ w5.heap[w.heap.size]? = some (.cells #[.int .i64 n] 3 (0, 0)) ∧ w5.heap[w.heap.size + 1]? = some (.cells #[.int .i64 kk] 3 (0, 0)) ∧ w5.heap[w.heap.size + 1 + 1]? = some (.cells #[] 30 (0, 0)) ∧
    w5.heap[w.heap.size + 1 + 1 + 1]? = some (.cells #[.slice (some ⟨w.heap.size + 1 + 1, 0, none⟩) 0 0] 25 (0, 0)) ∧ w5.heap[w.heap.size + 1 + 1 + 1 + 1]? = some (.cells #[.nilFunc] 58 (0, 0)) := by
  rintro w5 rfl
  refine ⟨below_alloc (below_alloc (below_alloc (pw_below_drewN (below_alloc (below_alloc (Below.refl _ _) _) _) _) _) _) _, ?_, ?_, ?_, ?_, ?_⟩
  · exact blk_alloc (blk_alloc (blk_alloc (blk_drewN (blk_alloc (heap_alloc_new w _) _) _) _) _) _
  · refine blk_alloc (blk_alloc (blk_alloc (blk_drewN ?_ _) _) _) _
    simpa using heap_alloc_new (w.alloc (.cells #[.int .i64 n] 3)) (.cells #[.int .i64 kk] 3)
  · refine blk_alloc (blk_alloc ?_ _) _
    simpa using heap_alloc_new ((((w.alloc (.cells #[.int .i64 n] 3)).alloc (.cells #[.int .i64 kk] 3)).drewN nd)) (.cells #[] 30)
  · refine blk_alloc ?_ _
    simpa using heap_alloc_new (((((w.alloc (.cells #[.int .i64 n] 3)).alloc (.cells #[.int .i64 kk] 3)).drewN nd).alloc (.cells #[] 30))) (.cells #[.slice (some ⟨w.heap.size + 1 + 1, 0, none⟩) 0 0] 25)
  · simpa using heap_alloc_new ((((((w.alloc (.cells #[.int .i64 n] 3)).alloc (.cells #[.int .i64 kk] 3)).drewN nd).alloc (.cells #[] 30)).alloc (.cells #[.slice (some ⟨w.heap.size + 1 + 1, 0, none⟩) 0 0] 25))) (.cells #[.nilFunc] 58)
theorem S_empty (w : World) (base g : Nat) (hb : base ≤ g) (h : w.heap[g]? = some (.cells #[] 30 (0, 0))) : Kd.S (Kd.slice 3 (Kd.int .i64)) 30 w base (fun k => k = g) (.slice (some ⟨g, 0, none⟩) 0 0) [] :=
  ⟨fun _ => 0, fun k hk => by simp only [Value.ownBlock, Option.some.injEq] at hk; exact hk.symm, [], ⟨rfl, .inr ⟨g, 0, #[], rfl, hb, h, Nat.le_refl _, Nat.zero_le _, rfl, rfl⟩⟩, Reps.none _ _⟩
set_option maxHeartbeats 8000000 in
set_option maxRecDepth 100000 in
theorem all_yes (k : Nat) (n kk : Int) (T : List (List Int)) (w : World) (h1 : impl_isPlane.f n kk = some true) (h7 : n ≤ 7) (h0 : 0 ≤ n) (hT : XTab w) (hf : fillF n kk k [] ((shl .u32 1 n - 1) % 4294967296) = some T) (hL : T.length ≤ 1000000) :
    Calls Tryd.prog 12 #[.int .i64 n, .int .i64 kk] w fun e w' => ∃ v, e = .returned (.tuple #[v, .bool true]) ∧ Kd.S (Kd.slice 3 (Kd.int .i64)) 30 w' w.heap.size (fun k => w.heap.size ≤ k) v T ∧ Below w.heap.size w w' := by
  have H1 := Aside0.mk h1
  have hmf : ∀ (fn : Fn) (first cap : Array Value) (w : World), (Instr.makeFunc fn first cap).run Tryd.prog w = .ok (.func fn first cap) w := fun _ _ _ _ => rfl
  have c7 : decide (n > 7) = false := decide_eq_false (by omega)
  obtain ⟨q, hq⟩ : ∃ q, shl .u32 1 n = q := ⟨_, rfl⟩
  rw [hq] at hf
  have hq_ : (IntKind.u32.wrap (1 * 2 ^ min n.toNat 32)) = q := hq
  have hqu : (IntKind.u32.wrap (2 ^ min n.toNat 32)) = q := by have h_ := hq_; rw [Int.one_mul] at h_; exact h_
  have hqm : (2 ^ min n.toNat 32 % 4294967296 : Int) = q := by rw [← hqu, IntKind.wrap_u32]
  have c6 : decide (0 ≤ n) = true := decide_eq_true h0
  have c8 := eq_true h0
  have HF := Aside0.mk hf
  have HL := Aside0.mk hL
  have HT := Aside0.mk hT
  have H7 := Aside0.mk h7
  clear h1 h7 hf hL hT
  go_enter Tryd.func12, Tryd.ntmps12
  go_upto_region 5 with (go_at_call 38; (with_reducible refine (impl_isPlane.calls n kk true _ H1.out).mono ?_); rintro e w1 ⟨rfl, ⟨nd, rfl⟩⟩)
  obtain ⟨w5, e5⟩ : ∃ w5, ((((((w.alloc (.cells #[.int .i64 n] 3)).alloc (.cells #[.int .i64 kk] 3)).drewN nd).alloc (.cells #[] 30)).alloc (.cells #[.slice (some ⟨w.heap.size + 1 + 1, 0, none⟩) 0 0] 25)).alloc (.cells #[.nilFunc] 58)) = w5 := ⟨_, rfl⟩
  rw [e5]
  obtain ⟨hbel, hN, hK, hR, hO, hF⟩ := all_start w n kk nd w5 e5
  clear e5
  have B5 := Aside0.mk hbel
  have N5 := Aside0.mk hN
  have K5 := Aside0.mk hK
  have R5 := Aside0.mk hR
  have O5 := Aside0.mk hO
  have F5 := Aside0.mk hF
  have hs9 : w5.cell? ⟨w.heap.size + 1 + 1 + 1 + 1, 0, none⟩ = some .nilFunc := (blk_cell hF 0).trans rfl
  have hf9 := blk_frozen hF 0
  clear hbel hN hK hR hO hF
  go_upto_region 6 with fail
  have hst : St w w.heap.size (w.heap.size + 1 + 1 + 1) (w.heap.size + 1) (w.heap.size + 1 + 1 + 1 + 1) n kk ((.func (.func 39) #[] #[.pointer (some ⟨w.heap.size, 0, none⟩), .pointer (some ⟨w.heap.size + 1 + 1 + 1, 0, none⟩), .pointer (some ⟨w.heap.size + 1, 0, none⟩), .pointer (some ⟨w.heap.size + 1 + 1 + 1 + 1, 0, none⟩)])) (.slice none 0 0) [] (w5.setCell ⟨w.heap.size + 1 + 1 + 1 + 1, 0, none⟩ ((.func (.func 39) #[] #[.pointer (some ⟨w.heap.size, 0, none⟩), .pointer (some ⟨w.heap.size + 1 + 1 + 1, 0, none⟩), .pointer (some ⟨w.heap.size + 1, 0, none⟩), .pointer (some ⟨w.heap.size + 1 + 1 + 1 + 1, 0, none⟩)]))) (fun k => k = w.heap.size + 1 + 1) (.slice (some ⟨w.heap.size + 1 + 1, 0, none⟩) 0 0) [] :=
    ⟨below_set B5.out (by omega), (Below.heap_setCell _ _ _ _ (by simp <;> omega)).trans N5.out, (Below.heap_setCell _ _ _ _ (by simp <;> omega)).trans K5.out, blk_put (cs := #[.nilFunc]) F5.out 0 _ rfl, (Below.heap_setCell _ _ _ _ (by simp <;> omega)).trans O5.out, by omega,
      Kd.S_far (p := ⟨w.heap.size + 1 + 1 + 1 + 1, 0, none⟩) (S_empty w5 w.heap.size (w.heap.size + 1 + 1) (by omega) R5.out) (fun k hk => by subst hk; simp <;> omega) _, Kd.R_nil _ _ _ _ _, fun k hk => by subst hk; simp [Value.ownBlock] <;> omega, fun k hk => by simp [Value.ownBlock] at hk⟩
  have HS := Aside0.mk hst.drew
  clear hst
  generalize w5.setCell ⟨w.heap.size + 1 + 1 + 1 + 1, 0, none⟩ ((.func (.func 39) #[] #[.pointer (some ⟨w.heap.size, 0, none⟩), .pointer (some ⟨w.heap.size + 1 + 1 + 1, 0, none⟩), .pointer (some ⟨w.heap.size + 1, 0, none⟩), .pointer (some ⟨w.heap.size + 1 + 1 + 1 + 1, 0, none⟩)])) = w6 at HS ⊢
  clear hs9 hf9
  have cF := (blk_cell HS.out.bF 0).trans rfl
  have cN := (blk_cell HS.out.bN 0).trans rfl
  refine start_ (n := 5) (S := fun w' => w'.cell? ⟨w.heap.size + 1 + 1 + 1 + 1, 0, none⟩ = some ((.func (.func 39) #[] #[.pointer (some ⟨w.heap.size, 0, none⟩), .pointer (some ⟨w.heap.size + 1 + 1 + 1, 0, none⟩), .pointer (some ⟨w.heap.size + 1, 0, none⟩), .pointer (some ⟨w.heap.size + 1 + 1 + 1 + 1, 0, none⟩)])) ∧ w'.cell? ⟨w.heap.size, 0, none⟩ = some (.int .i64 n)) (ds := [4]) #[false, false, false, false, false] (by kernel_rfl) rfl rfl ⟨cF, cN⟩ (fun hHeld => ?_)
  generalize w6.drew = wd at HS cF cN hHeld ⊢
  refine take_ (i := 0) (N := some 18) (v := ?_) (a' := ?_) #[true, false, false, false, false] rfl rfl (by kernel_rfl) (fun _ _ _ h => h) (Or.inl ⟨by rfl, ?_⟩) hHeld ?_ ?_
  rotate_left
  · intro w' s0
    obtain ⟨s1, s2⟩ := s0
    go_simp
    with_reducible rfl
  rotate_left
  · simp only [Act.put, List.setIfInBounds_toArray, List.set_cons_zero, List.set_cons_succ, i64_w, i32_w]
    rfl
  refine take_ (i := 1) (N := some 19) (v := ?_) (a' := ?_) #[true, true, false, false, false] rfl rfl (by kernel_rfl) (fun _ _ _ h => h) (Or.inl ⟨by rfl, ?_⟩) hHeld ?_ ?_
  rotate_left
  · intro w' s0
    obtain ⟨s1, s2⟩ := s0
    go_simp
    with_reducible rfl
  rotate_left
  · simp only [Act.put, List.setIfInBounds_toArray, List.set_cons_zero, List.set_cons_succ, i64_w, i32_w]
    rfl
  refine pure_ (i := 2) (N := some 20) (v := ?_) (a' := ?_) #[true, true, true, false, false] rfl rfl (by kernel_rfl) (fun _ _ _ h => h) (Or.inl ⟨by rfl, ?_⟩) ?_ ?_
  rotate_left
  · intro w'
    go_simp
    with_reducible rfl
  rotate_left
  · simp only [Act.put, List.setIfInBounds_toArray, List.set_cons_zero, List.set_cons_succ, i64_w, i32_w]
    rfl
  refine pure_ (i := 3) (N := some 21) (v := ?_) (a' := ?_) #[true, true, true, true, false] rfl rfl (by kernel_rfl) (fun _ _ _ h => h) (Or.inl ⟨by rfl, ?_⟩) ?_ ?_
  rotate_left
  · intro w'
    go_simp
    with_reducible rfl
  rotate_left
  · simp only [Act.put, List.setIfInBounds_toArray, List.set_cons_zero, List.set_cons_succ, i64_w, i32_w]
    rfl
  refine last_ (i := 4) (N := some 22) #[true, true, true, true, true] rfl rfl (by kernel_rfl) (by decide) (fun K hK => ?_)
  refine call_ 39 #[.slice none 0 0, .int .u32 ((q - 1) % 4294967296), .pointer (some ⟨w.heap.size, 0, none⟩), .pointer (some ⟨w.heap.size + 1 + 1 + 1, 0, none⟩), .pointer (some ⟨w.heap.size + 1, 0, none⟩), .pointer (some ⟨w.heap.size + 1 + 1 + 1 + 1, 0, none⟩)] (by rfl) rfl ?_ ?_
  · have he := enters_ (P := Tryd.prog) Tryd.func39 (by kernel_rfl) rfl #[.slice none 0 0, .int .u32 ((q - 1) % 4294967296), .pointer (some ⟨w.heap.size, 0, none⟩), .pointer (some ⟨w.heap.size + 1 + 1 + 1, 0, none⟩), .pointer (some ⟨w.heap.size + 1, 0, none⟩), .pointer (some ⟨w.heap.size + 1 + 1 + 1 + 1, 0, none⟩)] wd
    unfold execOp
    simp [resolve, Deferred.ofValue, invoke, Act.eval, he, IntKind.wrap_u32]
  refine (fill_calls w _ _ _ _ n kk (by have := H7.out; omega) HT.out k [] _ T _ _ [] _ wd HS.out HF.out (by simpa using c8) (by have := HL.out; simpa using this)).mono ?_
  rintro e w2 ⟨⟨u, rfl⟩, vo', PO', hS2, hk2, hp2⟩
  refine ⟨_, rfl, ?_⟩
  have S2 := Aside0.mk hS2
  have hsz := HS.out.size
  have P2 := Aside0.mk (show ∀ k, PO' k → w.heap.size ≤ k from fun k hk => by
    rcases hp2 k hk with h | h
    · omega
    · omega)
  refine hK.out _ _ ?_
  clear hK K hS2 hk2 hp2
  refine norm_ (a' := ?_) ?_ ?_
  rotate_left
  · show Act.put _ (some 22) _ = _
    simp only [Act.put, List.setIfInBounds_toArray, List.set_cons_zero, List.set_cons_succ, i64_w, i32_w]
    rfl
  refine done_ (by kernel_rfl) ?_
  obtain ⟨A2, d2, e2⟩ := Kd.S_slice S2.out.out
  subst e2
  have cO := (blk_cell S2.out.bO 0).trans rfl
  go_wp2
  go_ret2
  exact ⟨_, rfl, Kd.S_mono S2.out.out P2.out, S2.out.bel⟩
set_option maxHeartbeats 8000000 in
set_option maxRecDepth 100000 in
theorem all_bad (n kk : Int) (w : World) (h1 : impl_isPlane.f n kk = some false) :
    Calls Tryd.prog 12 #[.int .i64 n, .int .i64 kk] w fun e w' => e = .returned (.tuple #[.slice none 0 0, .bool false]) ∧ Below w.heap.size w w' := by
  have H1 := Aside0.mk h1
  clear h1
  go_enter Tryd.func12, Tryd.ntmps12
  go_wp2_with (go_at_call 38; (with_reducible refine (impl_isPlane.calls n kk false _ H1.out).mono ?_); rintro e w1 ⟨rfl, ⟨nd, rfl⟩⟩)
  go_ret2
  exact ⟨rfl, by repeat (first | exact Below.refl _ _ | apply below_alloc | apply pw_below_drewN)⟩
set_option maxHeartbeats 8000000 in
set_option maxRecDepth 100000 in
theorem all_long (n kk : Int) (w : World) (h1 : impl_isPlane.f n kk = some true) (h7 : n > 7) :
    Calls Tryd.prog 12 #[.int .i64 n, .int .i64 kk] w fun e w' => e = .returned (.tuple #[.slice none 0 0, .bool false]) ∧ Below w.heap.size w w' := by
  have H1 := Aside0.mk h1
  have c7 : decide (n > 7) = true := decide_eq_true h7
  clear h1 h7
  go_enter Tryd.func12, Tryd.ntmps12
  go_wp2_with (go_at_call 38; (with_reducible refine (impl_isPlane.calls n kk true _ H1.out).mono ?_); rintro e w1 ⟨rfl, ⟨nd, rfl⟩⟩)
  go_ret2
  exact ⟨rfl, by repeat (first | exact Below.refl _ _ | apply below_alloc | apply pw_below_drewN)⟩
def impl_AllSeatings.f (k : Nat) (a0 a1 : Int) : Option (List (List Int) × Bool) := (impl_isPlane.f a0 a1).bind fun t => (if t = true then (if a0 > 7 then (some ([], false)) else (if 0 ≤ a0 then ((fillF a0 a1 k [] ((shl .u32 1 a0 - 1) % 4294967296)).bind fun T => (if T.length ≤ 1000000 then (some (T, true)) else (none))) else (none))) else (some ([], false)))
theorem impl_AllSeatings.calls (k : Nat) (a0 a1 : Int) (r1 : List (List Int)) (r2 : Bool) (w : World) (hT : XTab w) (h : impl_AllSeatings.f k a0 a1 = some (r1, r2)) :
    Calls Tryd.prog 12 #[.int .i64 a0, .int .i64 a1] w fun e w' => ∃ v, e = .returned (.tuple #[v, .bool r2]) ∧ Kd.S (Kd.slice 3 (Kd.int .i64)) 30 w' w.heap.size (fun k => w.heap.size ≤ k) v r1 ∧ Below w.heap.size w w' := by
  unfold impl_AllSeatings.f at h
  obtain ⟨t, h1, h⟩ := Option.bind_eq_some_iff.mp h
  cases t with
  | false =>
    rw [if_neg (by decide)] at h
    simp only [Option.some.injEq, Prod.mk.injEq] at h
    obtain ⟨rfl, rfl⟩ := h
    exact (all_bad a0 a1 w h1).mono (by rintro e w' ⟨rfl, hb⟩; exact ⟨_, rfl, Kd.S_nil _ _ _ _ _, hb⟩)
  | true =>
    rw [if_pos rfl] at h
    by_cases h7 : a0 > 7
    · rw [if_pos h7] at h
      simp only [Option.some.injEq, Prod.mk.injEq] at h
      obtain ⟨rfl, rfl⟩ := h
      exact (all_long a0 a1 w h1 h7).mono (by rintro e w' ⟨rfl, hb⟩; exact ⟨_, rfl, Kd.S_nil _ _ _ _ _, hb⟩)
    · rw [if_neg h7] at h
      by_cases h0 : 0 ≤ a0
      · rw [if_pos h0] at h
        obtain ⟨T, hf, h⟩ := Option.bind_eq_some_iff.mp h
        by_cases hL : T.length ≤ 1000000
        · rw [if_pos hL] at h
          simp only [Option.some.injEq, Prod.mk.injEq] at h
          obtain ⟨rfl, rfl⟩ := h
          exact all_yes k a0 a1 T w h1 (by omega) h0 hT hf hL
        · rw [if_neg hL] at h; simp at h
      · rw [if_neg h0] at h; simp at h

/-! ### laws_markIntS: function 28 -/
def laws_markIntS.l0 : Nat → List Int → Int → Int → Option (Int × List Int)
  | 0, _, _, _ => none
  | k + 1, x0, x1, x5 => if x5 < (x0.length : Int) then (if 0 ≤ x5 then (laws_markIntS.l0 k (x0.set (x5 : Int).toNat x1) (wrap64 (x1 + 1)) (wrap64 (x5 + 1))) else (none)) else (some (x1, x0))
def laws_markIntS.f (k : Nat) (l0 : List Int) (a1 : Int) : Option (Int × List Int) := laws_markIntS.l0 k l0 a1 0
theorem laws_markIntS.mono_l : ∀ k, (∀ y0 y1 y2, LeO (laws_markIntS.l0 k y0 y1 y2) (laws_markIntS.l0 (k + 1) y0 y1 y2))
  | 0 => fun _ _ _ r h => by simp [laws_markIntS.l0] at h
  | k + 1 => by
    have ih0 := laws_markIntS.mono_l k
    · intro y0 y1 y2
      unfold laws_markIntS.l0
      repeat' first
      | (with_reducible exact ih0 _ _ _)
      | (with_reducible exact LeO.refl _)
      | (with_reducible exact LeO.none _)
      | (with_reducible refine LeO.ite ?_ ?_)
      | (with_reducible refine LeO.bind ?_ (fun _ => ?_))
      | exact ih0 _ _ _
      | exact LeO.none _
      | refine LeO.ite ?_ ?_
      | refine LeO.bind ?_ (fun _ => ?_)
theorem laws_markIntS.mono : ∀ a0 a1 k, LeO (laws_markIntS.f k a0 a1) (laws_markIntS.f (k + 1) a0 a1) := by
  intro a0 a1 k
  have ih0 := laws_markIntS.mono_l k
  unfold laws_markIntS.f
  repeat' first
      | (with_reducible exact ih0 _ _ _)
      | (with_reducible exact LeO.refl _)
      | (with_reducible exact LeO.none _)
      | (with_reducible refine LeO.ite ?_ ?_)
      | (with_reducible refine LeO.bind ?_ (fun _ => ?_))
      | exact ih0 _ _ _
      | exact LeO.none _
      | refine LeO.ite ?_ ?_
      | refine LeO.bind ?_ (fun _ => ?_)
set_option maxHeartbeats 8000000 in
set_option maxRecDepth 100000 in
theorem laws_markIntS.calls (k : Nat) (P0_ : Nat → Prop) (u9000_ : Value) (l0 : List Int) (a1 : Int) (r1 : Int) (r2 : List Int) (w0 w : World) (hB : Below w0.heap.size w0 w) (ho0 : Kd.R (Kd.int .i64) 3 w w0.heap.size P0_ u9000_ l0) (h : laws_markIntS.f k l0 a1 = some (r1, r2)) :
    Calls Tryd.prog 28 #[u9000_, .int .i64 a1] w fun e w' => e = .returned (.int .i64 r1) ∧ Kd.R (Kd.int .i64) 3 w' w0.heap.size (fun k_ => (P0_ k_ ∨ w.heap.size ≤ k_)) u9000_ r2 ∧ Below w0.heap.size w0 w' ∧ Kept w w' (fun k_ => P0_ k_) := by
  have HO0 := Aside0.mk (show Kd.R (Kd.int .i64) 3 w w0.heap.size (fun k_ => (P0_ k_ ∨ w.heap.size ≤ k_)) u9000_ l0 from Kd.R_mono ho0 (fun k_ hk => (.inl hk)))
  have HK := Aside0.mk (Kept.refl w (fun k_ => P0_ k_))
  have HW0 := Aside0.mk hB.size
  have HB := Aside0.mk hB
  clear hB
  have H : (laws_markIntS.l0 k l0 a1 0) = some (r1, r2) := h
  clear h
  have H' := Aside0.mk H
  clear H
  go_enter Tryd.func28, Tryd.ntmps28
  go_wp2
  go_loopg [1, 5] k (fun kq v1 v5 w' => ∃ (x0_1 : List Int) (x1_1 : Int) (x5_1 : Int), v1 = .int .i64 x1_1 ∧ v5 = .int .i64 x5_1 ∧ Aside0 (laws_markIntS.l0 kq x0_1 x1_1 x5_1 = some (r1, r2)) ∧ Aside0 (kq ≤ k) ∧ Aside0 (Kd.R (Kd.int .i64) 3 w' w0.heap.size (fun k_ => (P0_ k_ ∨ w.heap.size ≤ k_)) u9000_ x0_1) ∧ Aside0 (Kept w w' (fun k_ => P0_ k_)) ∧ Aside0 (Below w0.heap.size w0 w'))
  case atStart => exact ⟨(l0), (a1), (0), (by first | rfl | (simp; done) | (simp [*]; done) | (simp [wrap64]; done) | (simp [*, wrap64]; done)), (by first | rfl | (simp; done) | (simp [*]; done) | (simp [wrap64]; done) | (simp [*, wrap64]; done)), H', ⟨Nat.le_refl _⟩, ⟨by (with_reducible repeat (first | apply Kd.R_alloc | apply Kd.R_drewN | apply Kd.R_drew)); exact HO0.out⟩, ⟨by repeat (first | (with_reducible first | exact HK.out | apply Kept.alloc | apply Kept.drewN | apply Kept.drew) | exact HK.out)⟩, ⟨by repeat (first | (with_reducible first | exact HB.out | apply below_alloc | apply pw_below_drewN | apply below_drew1) | exact HB.out)⟩⟩
  case round =>
    clear H'
    try clear c2
    try clear p2
    obtain ⟨x0_1, x1_1, x5_1, rfl, rfl, HA, HK1, HO_0, HK, HB⟩ := hrel
    cases gk with
    | zero => exact absurd HA.out (by simp [laws_markIntS.l0])
    | succ k1 =>
      have H := HA.out
      clear HA
      simp only [laws_markIntS.l0] at H
      by_cases c3 : x5_1 < (x0_1.length : Int)
      · rw [if_pos c3] at H
        have c3b0 : decide (x5_1 < (x0_1.length : Int)) = true := decide_eq_true c3
        clear c3
        by_cases c4 : 0 ≤ x5_1
        · rw [if_pos c4] at H
          have c4b0 : decide (0 ≤ x5_1) = true := decide_eq_true c4
          clear c4
          obtain ⟨y176, hy176⟩ : ∃ y_ : List Int, y_ = (x0_1.set (x5_1 : Int).toNat x1_1) := ⟨_, rfl⟩
          replace H : (laws_markIntS.l0 k1 y176 (wrap64 (x1_1 + 1)) (wrap64 (x5_1 + 1))) = some (r1, r2) := by first | (rw [hy176]; with_reducible exact H) | (have H2_ := (Option.bind_some _ _).symm.trans H; rw [hy176]; with_reducible exact H2_) | (have H2_ := (Option.bind_some _ _).symm.trans H; with_reducible exact H2_) | with_reducible exact H | (rw [hy176]; exact H) | exact H
          have Ny176 := Aside0.mk hy176
          clear hy176
          have H' := Aside0.mk H
          clear H
          obtain ⟨Ao6, co6, eo6⟩ := Kd.R_slice HO_0.out
          subst eo6
          have p5 : 0 ≤ (x5_1 : Int) := of_decide_eq_true (by first | (with_reducible assumption) | assumption)
          have q5 : (x5_1 : Int) < ((x0_1.length : Int) : Int) := of_decide_eq_true (by first | (with_reducible assumption) | assumption)
          obtain ⟨go5, co5, eo5, gb5, gl5, cl5, HG5⟩ := Kd.R_form HO_0.out (by omega)
          (first | cases eo5 | (injection eo5 with ea_ en_ ec_; (first | subst ea_ | (injection ea_ with ea_; subst ea_)); subst ec_; clear en_))
          have GB5 := Aside0.mk gb5
          have GG5 := Aside0.mk HG5
          clear gb5 gl5 HG5
          have HMgo5 := Aside0.mk (show (P0_ go5 ∨ w.heap.size ≤ go5) from (HO_0.out.1 _ rfl))
          obtain ⟨hx5_0, hf5_0⟩ := Kd.R_celln 0 HO_0.out (x5_1 : Int) p5 q5
          replace p5 := eq_true p5
          replace q5 := eq_true q5
          have HP7 := Kd.R_putg HO_0.out (x5_1 : Int) x1_1
          go_wp2_with (first | ((with_reducible refine gate_store (t := 3) (p := 15) rfl ?_); refine store_event (t := 3) (p := 15) (v := ?vo_w8) (w1 := (wr.setCell ⟨go5, (x5_1 : Int).toNat, none⟩ (.int .i64 x1_1))) ?hg ?ho ?hn ?hr ?_; (case ho => rfl); (case hg => rfl); (case hn => rfl); (case hr => first | (go_simp; done) | (go_simp; rfl)); intro w8 hw; have hg : wr.grownBy w8 (some go5) := (by rw [hw]; exact HP7.2); have hp_ : Kd.R (Kd.int .i64) 3 w8 w0.heap.size (fun k_ => (P0_ k_ ∨ w.heap.size ≤ k_)) (.slice (some ⟨go5, 0, none⟩) x0_1.length co6) y176 := (by rw [hw, Ny176.out]; exact HP7.1); clear HP7; have n0_ := Aside0.mk (hp_); have n1_ := Aside0.mk ((by rw [hw]; exact below_set (HB.out) GB5.out : Below w0.heap.size w0 w8)); have n2_ := Aside0.mk (Kept.of_grown (S := (fun k_ => P0_ k_)) hg (by repeat (first | (with_reducible first | exact HK.out | apply Kept.alloc | apply Kept.drewN | apply Kept.drew) | exact HK.out)) (fun k_ e_ => (HO_0.out.1 k_ e_))); clear HO_0; clear HB; clear HK; have HO_0 := n0_; have HB := n1_; have HK := n2_; clear n0_ n1_ n2_; clear hg hw hp_))
          go_roundg k1
          case measure => have := HK1.out; omega
          case rel => exact ⟨(y176), (wrap64 (x1_1 + 1)), (wrap64 (x5_1 + 1)), (by first | rfl | (simp; done) | (simp [*]; done) | (simp [wrap64]; done) | (simp [*, wrap64]; done)), (by first | rfl | (simp; done) | (simp [*]; done) | (simp [wrap64]; done) | (simp [*, wrap64]; done)), H', ⟨by have := HK1.out; omega⟩, ⟨by (with_reducible repeat (first | apply Kd.R_alloc | apply Kd.R_drewN | apply Kd.R_drew)); exact HO_0.out⟩, ⟨by repeat (first | (with_reducible first | exact HK.out | apply Kept.alloc | apply Kept.drewN | apply Kept.drew) | exact HK.out)⟩, ⟨by repeat (first | (with_reducible first | exact HB.out | apply below_alloc | apply pw_below_drewN | apply below_drew1) | exact HB.out)⟩⟩
        · rw [if_neg c4] at H
          exact absurd H (by simp)
      · rw [if_neg c3] at H
        have c3b0 : decide (x5_1 < (x0_1.length : Int)) = false := decide_eq_false c3
        clear c3
        simp only [Option.some.injEq, Prod.mk.injEq] at H
        obtain ⟨rfl, rfl⟩ := H
        obtain ⟨Ao9, co9, eo9⟩ := Kd.R_slice HO_0.out
        subst eo9
        go_wp2
        go_ret
        exact ⟨by first | rfl | (simp [errW_none, errW_some] <;> rfl) | (simp [*, errW_none, errW_some] <;> rfl), by (with_reducible repeat (first | apply Kd.R_alloc | apply Kd.R_drewN | apply Kd.R_drew)); exact HO_0.out, by repeat (first | (with_reducible first | exact HB.out | apply below_alloc | apply pw_below_drewN | apply below_drew1) | exact HB.out), by repeat (first | (with_reducible first | exact HK.out | apply Kept.alloc | apply Kept.drewN | apply Kept.drew) | exact HK.out)⟩

end Go.Proofs.YtdbdmdegnmoblaaDoor.PFnExactAllSeatings
