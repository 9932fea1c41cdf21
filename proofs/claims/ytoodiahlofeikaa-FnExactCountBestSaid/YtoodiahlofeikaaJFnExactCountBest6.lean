/- Written by a program of this session (wip/xprint) out of Lean's own print of the given functions: each function as a plain Lean function, and the proof that the call answers it. -/
import Derived.Test.YtoodiahlofeikaaPFnExactCountBestx0
import Derived.Test.YtoodiahlofeikaaPFnExactCountBestx5
namespace Go.Proofs.Ytoodiahlofeikaa.PFnExactCountBest
open Go.RowKit Go.Proofs.YtoodiahlofeikaaW.PrintWords Go.Proofs.YtoodiahlofeikaaW.PrintLast Go.Proofs.YtoodiahlofeikaaW.PrintMore
attribute [local go_sem] max2_int min2_int max_two min_two max_three min_three max_four min_four   -- for this text's walks alone
set_option linter.unusedVariables false
set_option linter.unusedSimpArgs false

theorem joinJ6_ {P : Program} {md : Region.Mode} {ops : Array Oper} {Q : Exit → Act → World → Prop} {S : World → Prop} {ds : List Nat} {σ : Type} {fuel : Nat} {l : Array Bool} {a : Act} {w : World} (fuel' : Nat) (l' : Array Bool) (ns : σ → List (Tmp × Value)) (F : σ → World → Prop)
    (h : (∀ s w', F s w' → wpAnyLast P md ops Q S ds fuel' l' (putAll a (ns s)) w') → wpAnyLast P md ops Q S ds fuel l a w)
    (hcont : ∀ s w', F s w' → wpAnyLast P md ops Q S ds fuel' l' (putAll a (ns s)) w') : wpAnyLast P md ops Q S ds fuel l a w := join_ fuel' l' ns F hcont h
/-! ### impl_board: a region of it, for all orders -/
def impl_board.T1 : Bool × List (List Nat × List Nat) := (true, [([], []), ([0, 0], [0]), ([], []), ([2, 2], [2]), ([], []), ([4, 4], [4]), ([1, 3, 5], [1, 3, 5]), ([], []), ([7, 6, 0, 1, 2, 3, 4, 5, 6, 7], [6, 7])])
def impl_board.B1 : List Nat := [0, 1, 0, 4, 0, 16, 63, 0, 255]
theorem impl_board.tab1 : rtab .any (opsOf Try.f57 1) = impl_board.T1 := by kernel_rfl
theorem impl_board.bits1 : waitsOk impl_board.T1.2 impl_board.B1 = true := by kernel_rfl
set_option maxHeartbeats 8000000 in
set_option maxRecDepth 100000 in
theorem impl_board.r1 (k : Nat) (a0 : Int) (a1 : Int) (A2 : Option Addr) (c2 : Nat) (l2 : List Int) (w : World) (y227 : List Int) (y230 : List Int) (y233 : List Int) (gb226 : Nat) (w11 : World)
  (c4b0 : (0 ≤ a0) = True) (c4b1 : decide (0 ≤ a0) = true) (c5b0 : (a0.toNat ≤ 35184372088832) = True) (c5b1 : decide (a0.toNat ≤ 35184372088832) = true) (Ny227 : Aside0 (y227 = List.replicate a0.toNat 0)) (Ny230 : Aside0 (y230 = List.replicate a0.toNat 0)) (Ny233 : Aside0 (y233 = List.replicate a0.toNat 0)) (GE226 : Aside0 (w.heap.size ≤ gb226)) (HT_ : Aside0 (rtab .any (opsOf Try.f57 1) = impl_board.T1)) (BK226 : Aside0 (w11.heap[gb226]? = some (Obj.cells #[Value.slice none 0 0, Value.slice none 0 0, Value.slice none 0 0, Value.slice none 0 0] 79))) (HB : Aside0 (Below w.heap.size w w11)) (K : Act → World → Prop) (post : Ending → World → Prop)
  (hJ1_3_5_7 : ∀ (s_ : Value × Value × Value × Nat) (w' : World), ((Kd.R (Kd.int .i64) 3 w' w.heap.size (fun k_ => some k_ ≠ (s_.2.1 : Value).ownBlock ∧ some k_ ≠ (s_.2.2.1 : Value).ownBlock) s_.1 y227) ∧ (Kd.R (Kd.int .i64) 3 w' w.heap.size (fun k_ => some k_ ≠ (s_.1 : Value).ownBlock ∧ some k_ ≠ (s_.2.2.1 : Value).ownBlock) s_.2.1 y230) ∧ (Kd.R (Kd.int .i64) 3 w' w.heap.size (fun k_ => some k_ ≠ (s_.1 : Value).ownBlock ∧ some k_ ≠ (s_.2.1 : Value).ownBlock) s_.2.2.1 y233) ∧ (w'.heap[gb226]? = some (.cells #[.slice none 0 0, .slice none 0 0, .slice none 0 0, .slice none 0 0] 79 (0, 0))) ∧ (w'.heap[s_.2.2.2]? = some (.cells #[.slice none 0 0, .slice none 0 0, .slice none 0 0, .slice none 0 0] 79 (0, 0))) ∧ (w.heap.size ≤ s_.2.2.2) ∧ (w.heap.size ≤ s_.2.2.2) ∧ (gb226 ≠ s_.2.2.2) ∧ (s_.2.2.2 ≠ gb226) ∧ (Below w.heap.size w w')) → wpAnyLast Try.prog .any (opsOf Try.f57 1) (Exit.then K (bodyPost Try.prog Try.f57 post)) (fun w' => True) [] 1 #[true, true, true, true, true, true, true, true, false] (putAll ({
   tmps :=
    #[Value.int IntKind.i64 a0, Value.int IntKind.i64 a1, Value.slice A2 l2.length c2, undef, undef, undef,
     Value.pointer (some { block := gb226, off := 0 }), undef, undef, undef, undef, undef, undef, undef, undef,
     undef, Value.int IntKind.i64 a0, undef, Value.int IntKind.i64 a0, undef, Value.int IntKind.i64 a0, undef,
     undef, undef, undef, undef, undef, undef, undef, undef, undef, undef, undef, undef, undef, undef, undef,
     undef, undef, undef, undef, undef, undef, undef, undef, undef, undef, undef, undef, undef, undef, undef,
     undef, undef, undef, undef, undef, undef, undef, undef, undef, undef, undef, undef, undef, undef, undef,
     undef, undef, undef, undef, undef, undef, undef, undef, undef, undef, undef, undef, undef, undef, undef,
     undef, undef, undef, undef, undef, undef, undef, undef, undef, undef, undef, undef, undef, undef, undef,
     undef, undef, undef, undef, undef, undef, undef, undef, undef, undef, undef, undef, undef, undef, undef,
     undef, undef, undef, undef, undef, undef, undef, undef, undef, undef, undef, undef, undef, undef, undef,
     undef, undef, undef, undef, undef, undef],
   defers := [] }) ([(17, s_.1), (19, s_.2.1), (21, s_.2.2.1), (7, .pointer (some ⟨s_.2.2.2, 0, none⟩)), (22, .agg #[s_.1, s_.2.1, s_.2.2.1, .slice none 0 0])])) w') :
  wpAnyLast Try.prog .any (opsOf Try.f57 1) (Exit.then K (bodyPost Try.prog Try.f57 post)) (fun w' => True) [] 6 #[true, false, true, false, true, false, false, false, false] ({
   tmps :=
    #[Value.int IntKind.i64 a0, Value.int IntKind.i64 a1, Value.slice A2 l2.length c2, undef, undef, undef,
     Value.pointer (some { block := gb226, off := 0 }), undef, undef, undef, undef, undef, undef, undef, undef,
     undef, Value.int IntKind.i64 a0, undef, Value.int IntKind.i64 a0, undef, Value.int IntKind.i64 a0, undef,
     undef, undef, undef, undef, undef, undef, undef, undef, undef, undef, undef, undef, undef, undef, undef,
     undef, undef, undef, undef, undef, undef, undef, undef, undef, undef, undef, undef, undef, undef, undef,
     undef, undef, undef, undef, undef, undef, undef, undef, undef, undef, undef, undef, undef, undef, undef,
     undef, undef, undef, undef, undef, undef, undef, undef, undef, undef, undef, undef, undef, undef, undef,
     undef, undef, undef, undef, undef, undef, undef, undef, undef, undef, undef, undef, undef, undef, undef,
     undef, undef, undef, undef, undef, undef, undef, undef, undef, undef, undef, undef, undef, undef, undef,
     undef, undef, undef, undef, undef, undef, undef, undef, undef, undef, undef, undef, undef, undef, undef,
     undef, undef, undef, undef, undef, undef],
   defers := [] }) w11 := by
 have hHeld := trivial
 have hu79 := Try.underlying79
 have ho6 : ∀ h, ((opsOf Try.f57 1)[6]'h).op = Op.build 79 #[(0, Operand.tmp 17), (1, Operand.tmp 19), (2, Operand.tmp 21)] := fun _ => by rfl
 refine joinJ6_ (σ := Value × Value × Value) 2 #[true, true, true, true, true, true, true, false, false] (fun s_ => [(17, s_.1), (19, s_.2.1), (21, s_.2.2), (22, .agg #[s_.1, s_.2.1, s_.2.2, .slice none 0 0])]) (fun s_ w' => (Kd.R (Kd.int .i64) 3 w' w.heap.size (fun k_ => some k_ ≠ (s_.2.1 : Value).ownBlock ∧ some k_ ≠ (s_.2.2 : Value).ownBlock) s_.1 y227) ∧ (Kd.R (Kd.int .i64) 3 w' w.heap.size (fun k_ => some k_ ≠ (s_.1 : Value).ownBlock ∧ some k_ ≠ (s_.2.2 : Value).ownBlock) s_.2.1 y230) ∧ (Kd.R (Kd.int .i64) 3 w' w.heap.size (fun k_ => some k_ ≠ (s_.1 : Value).ownBlock ∧ some k_ ≠ (s_.2.1 : Value).ownBlock) s_.2.2 y233) ∧ (w'.heap[gb226]? = some (.cells #[.slice none 0 0, .slice none 0 0, .slice none 0 0, .slice none 0 0] 79 (0, 0))) ∧ (Below w.heap.size w w')) ?_ ?_
 intro hJ1_3_5
 refine joinJ6_ (σ := Value × Value × Nat) 3 #[true, true, true, true, true, false, false, true, false] (fun s_ => [(17, s_.1), (19, s_.2.1), (7, .pointer (some ⟨s_.2.2, 0, none⟩))]) (fun s_ w' => (Kd.R (Kd.int .i64) 3 w' w.heap.size (fun k_ => some k_ ≠ (s_.2.1 : Value).ownBlock) s_.1 y227) ∧ (Kd.R (Kd.int .i64) 3 w' w.heap.size (fun k_ => some k_ ≠ (s_.1 : Value).ownBlock) s_.2.1 y230) ∧ (w'.heap[gb226]? = some (.cells #[.slice none 0 0, .slice none 0 0, .slice none 0 0, .slice none 0 0] 79 (0, 0))) ∧ (w'.heap[s_.2.2]? = some (.cells #[.slice none 0 0, .slice none 0 0, .slice none 0 0, .slice none 0 0] 79 (0, 0))) ∧ (w.heap.size ≤ s_.2.2) ∧ (w.heap.size ≤ s_.2.2) ∧ (gb226 ≠ s_.2.2) ∧ (s_.2.2 ≠ gb226) ∧ (Below w.heap.size w w')) ?_ ?_
 intro hJ1_3_7
 refine joinJ6_ (σ := Value × Value × Nat) 3 #[true, true, true, false, true, true, false, true, false] (fun s_ => [(17, s_.1), (21, s_.2.1), (7, .pointer (some ⟨s_.2.2, 0, none⟩))]) (fun s_ w' => (Kd.R (Kd.int .i64) 3 w' w.heap.size (fun k_ => some k_ ≠ (s_.2.1 : Value).ownBlock) s_.1 y227) ∧ (Kd.R (Kd.int .i64) 3 w' w.heap.size (fun k_ => some k_ ≠ (s_.1 : Value).ownBlock) s_.2.1 y233) ∧ (w'.heap[gb226]? = some (.cells #[.slice none 0 0, .slice none 0 0, .slice none 0 0, .slice none 0 0] 79 (0, 0))) ∧ (w'.heap[s_.2.2]? = some (.cells #[.slice none 0 0, .slice none 0 0, .slice none 0 0, .slice none 0 0] 79 (0, 0))) ∧ (w.heap.size ≤ s_.2.2) ∧ (w.heap.size ≤ s_.2.2) ∧ (gb226 ≠ s_.2.2) ∧ (s_.2.2 ≠ gb226) ∧ (Below w.heap.size w w')) ?_ ?_
 intro hJ1_5_7
 refine joinJ6_ (σ := Value × Value × Nat) 3 #[true, false, true, true, true, true, false, true, false] (fun s_ => [(19, s_.1), (21, s_.2.1), (7, .pointer (some ⟨s_.2.2, 0, none⟩))]) (fun s_ w' => (Kd.R (Kd.int .i64) 3 w' w.heap.size (fun k_ => some k_ ≠ (s_.2.1 : Value).ownBlock) s_.1 y230) ∧ (Kd.R (Kd.int .i64) 3 w' w.heap.size (fun k_ => some k_ ≠ (s_.1 : Value).ownBlock) s_.2.1 y233) ∧ (w'.heap[gb226]? = some (.cells #[.slice none 0 0, .slice none 0 0, .slice none 0 0, .slice none 0 0] 79 (0, 0))) ∧ (w'.heap[s_.2.2]? = some (.cells #[.slice none 0 0, .slice none 0 0, .slice none 0 0, .slice none 0 0] 79 (0, 0))) ∧ (w.heap.size ≤ s_.2.2) ∧ (w.heap.size ≤ s_.2.2) ∧ (gb226 ≠ s_.2.2) ∧ (s_.2.2 ≠ gb226) ∧ (Below w.heap.size w w')) ?_ ?_
 intro hJ3_5_7
 refine joinJ6_ (σ := Value × Value) 4 #[true, true, true, true, true, false, false, false, false] (fun s_ => [(17, s_.1), (19, s_.2)]) (fun s_ w' => (Kd.R (Kd.int .i64) 3 w' w.heap.size (fun k_ => some k_ ≠ (s_.2 : Value).ownBlock) s_.1 y227) ∧ (Kd.R (Kd.int .i64) 3 w' w.heap.size (fun k_ => some k_ ≠ (s_.1 : Value).ownBlock) s_.2 y230) ∧ (w'.heap[gb226]? = some (.cells #[.slice none 0 0, .slice none 0 0, .slice none 0 0, .slice none 0 0] 79 (0, 0))) ∧ (Below w.heap.size w w')) ?_ ?_
 intro hJ1_3
 refine joinJ6_ (σ := Value × Value) 4 #[true, true, true, false, true, true, false, false, false] (fun s_ => [(17, s_.1), (21, s_.2)]) (fun s_ w' => (Kd.R (Kd.int .i64) 3 w' w.heap.size (fun k_ => some k_ ≠ (s_.2 : Value).ownBlock) s_.1 y227) ∧ (Kd.R (Kd.int .i64) 3 w' w.heap.size (fun k_ => some k_ ≠ (s_.1 : Value).ownBlock) s_.2 y233) ∧ (w'.heap[gb226]? = some (.cells #[.slice none 0 0, .slice none 0 0, .slice none 0 0, .slice none 0 0] 79 (0, 0))) ∧ (Below w.heap.size w w')) ?_ ?_
 intro hJ1_5
 refine joinJ6_ (σ := Value × Nat) 4 #[true, true, true, false, true, false, false, true, false] (fun s_ => [(17, s_.1), (7, .pointer (some ⟨s_.2, 0, none⟩))]) (fun s_ w' => (Kd.R (Kd.int .i64) 3 w' w.heap.size (fun _ => True) s_.1 y227) ∧ (w'.heap[gb226]? = some (.cells #[.slice none 0 0, .slice none 0 0, .slice none 0 0, .slice none 0 0] 79 (0, 0))) ∧ (w'.heap[s_.2]? = some (.cells #[.slice none 0 0, .slice none 0 0, .slice none 0 0, .slice none 0 0] 79 (0, 0))) ∧ (w.heap.size ≤ s_.2) ∧ (w.heap.size ≤ s_.2) ∧ (gb226 ≠ s_.2) ∧ (s_.2 ≠ gb226) ∧ (Below w.heap.size w w')) ?_ ?_
 intro hJ1_7
 refine joinJ6_ (σ := Value × Value) 4 #[true, false, true, true, true, true, false, false, false] (fun s_ => [(19, s_.1), (21, s_.2)]) (fun s_ w' => (Kd.R (Kd.int .i64) 3 w' w.heap.size (fun k_ => some k_ ≠ (s_.2 : Value).ownBlock) s_.1 y230) ∧ (Kd.R (Kd.int .i64) 3 w' w.heap.size (fun k_ => some k_ ≠ (s_.1 : Value).ownBlock) s_.2 y233) ∧ (w'.heap[gb226]? = some (.cells #[.slice none 0 0, .slice none 0 0, .slice none 0 0, .slice none 0 0] 79 (0, 0))) ∧ (Below w.heap.size w w')) ?_ ?_
 intro hJ3_5
 refine joinJ6_ (σ := Value × Nat) 4 #[true, false, true, true, true, false, false, true, false] (fun s_ => [(19, s_.1), (7, .pointer (some ⟨s_.2, 0, none⟩))]) (fun s_ w' => (Kd.R (Kd.int .i64) 3 w' w.heap.size (fun _ => True) s_.1 y230) ∧ (w'.heap[gb226]? = some (.cells #[.slice none 0 0, .slice none 0 0, .slice none 0 0, .slice none 0 0] 79 (0, 0))) ∧ (w'.heap[s_.2]? = some (.cells #[.slice none 0 0, .slice none 0 0, .slice none 0 0, .slice none 0 0] 79 (0, 0))) ∧ (w.heap.size ≤ s_.2) ∧ (w.heap.size ≤ s_.2) ∧ (gb226 ≠ s_.2) ∧ (s_.2 ≠ gb226) ∧ (Below w.heap.size w w')) ?_ ?_
 intro hJ3_7
 refine joinJ6_ (σ := Value × Nat) 4 #[true, false, true, false, true, true, false, true, false] (fun s_ => [(21, s_.1), (7, .pointer (some ⟨s_.2, 0, none⟩))]) (fun s_ w' => (Kd.R (Kd.int .i64) 3 w' w.heap.size (fun _ => True) s_.1 y233) ∧ (w'.heap[gb226]? = some (.cells #[.slice none 0 0, .slice none 0 0, .slice none 0 0, .slice none 0 0] 79 (0, 0))) ∧ (w'.heap[s_.2]? = some (.cells #[.slice none 0 0, .slice none 0 0, .slice none 0 0, .slice none 0 0] 79 (0, 0))) ∧ (w.heap.size ≤ s_.2) ∧ (w.heap.size ≤ s_.2) ∧ (gb226 ≠ s_.2) ∧ (s_.2 ≠ gb226) ∧ (Below w.heap.size w w')) ?_ ?_
 intro hJ5_7
 refine joinJ6_ (σ := Value) 5 #[true, true, true, false, true, false, false, false, false] (fun s_ => [(17, s_)]) (fun s_ w' => (Kd.R (Kd.int .i64) 3 w' w.heap.size (fun _ => True) s_ y227) ∧ (w'.heap[gb226]? = some (.cells #[.slice none 0 0, .slice none 0 0, .slice none 0 0, .slice none 0 0] 79 (0, 0))) ∧ (Below w.heap.size w w')) ?_ ?_
 intro hJ1
 refine joinJ6_ (σ := Value) 5 #[true, false, true, true, true, false, false, false, false] (fun s_ => [(19, s_)]) (fun s_ w' => (Kd.R (Kd.int .i64) 3 w' w.heap.size (fun _ => True) s_ y230) ∧ (w'.heap[gb226]? = some (.cells #[.slice none 0 0, .slice none 0 0, .slice none 0 0, .slice none 0 0] 79 (0, 0))) ∧ (Below w.heap.size w w')) ?_ ?_
 intro hJ3
 refine joinJ6_ (σ := Value) 5 #[true, false, true, false, true, true, false, false, false] (fun s_ => [(21, s_)]) (fun s_ w' => (Kd.R (Kd.int .i64) 3 w' w.heap.size (fun _ => True) s_ y233) ∧ (w'.heap[gb226]? = some (.cells #[.slice none 0 0, .slice none 0 0, .slice none 0 0, .slice none 0 0] 79 (0, 0))) ∧ (Below w.heap.size w w')) ?_ ?_
 intro hJ5
 refine joinJ6_ (σ := Nat) 5 #[true, false, true, false, true, false, false, true, false] (fun s_ => [(7, .pointer (some ⟨s_, 0, none⟩))]) (fun s_ w' => (w'.heap[gb226]? = some (.cells #[.slice none 0 0, .slice none 0 0, .slice none 0 0, .slice none 0 0] 79 (0, 0))) ∧ (w'.heap[s_]? = some (.cells #[.slice none 0 0, .slice none 0 0, .slice none 0 0, .slice none 0 0] 79 (0, 0))) ∧ (w.heap.size ≤ s_) ∧ (w.heap.size ≤ s_) ∧ (gb226 ≠ s_) ∧ (s_ ≠ gb226) ∧ (Below w.heap.size w w')) ?_ ?_
 intro hJ7
 refine four_ (i := 1) (j := 3) (k := 5) (m := 7) (Ni := some 17) (Nj := some 19) (Nk := some 21) (Nm := some 7) #[true, true, true, false, true, false, false, false, false] #[true, false, true, true, true, false, false, false, false] #[true, false, true, false, true, true, false, false, false] #[true, false, true, false, true, false, false, true, false] rfl rfl rfl rfl rfl rfl rfl rfl (four_of HT_.out (by kernel_rfl)) (by decide) (by decide) (by decide) (by decide) (fun K hK => ?_) (fun K hK => ?_) (fun K hK => ?_) (fun K hK => ?_)
 ·refine Kd.R_make_step (Kd.int .i64) _ 3 (by rfl) (N := 17) rfl 25 _ _ rfl a0 rfl rfl Try.underlying25 (.int .i64 0) 8 info3 rfl (by decide) (by omega) 0 (ok := fun _ => True) (okp := fun _ => True) rfl (fun _ hk => hk) trivial (of_decide_eq_true (by assumption)) (Nat.le_trans (Nat.mul_le_mul_right _ (of_decide_eq_true (by assumption) : a0.toNat ≤ 35184372088832)) (by omega)) (Below.refl _ _) (Nat.le_refl _) ?_
  intro v228 w12 ho13 hb hg_ hnew_
  clear hg_ hnew_
  rw [← Ny227.out] at ho13
  have n0_ := Aside0.mk (Kd.R_lower ho13 (below_size HB.out))
  have n1_ := Aside0.mk (blk_below (g := gb226) (o := .cells #[.slice none 0 0, .slice none 0 0, .slice none 0 0, .slice none 0 0] 79 (0, 0)) BK226.out hb)
  have n2_ := Aside0.mk (below_step HB.out hb)
  clear BK226
  clear HB
  have HO229 := n0_
  have BK226 := n1_
  have HB := n2_
  clear n0_ n1_ n2_
  clear hb ho13
  refine hK.out _ _ trivial (fun hHeld => ?_)
  clear hK K
  exact norm_ (by simp only [putAll, Act.put, List.setIfInBounds_toArray, List.set_cons_zero, List.set_cons_succ]; try rfl) (hJ1 (v228) _ ⟨HO229.out, BK226.out, HB.out⟩)
 ·refine Kd.R_make_step (Kd.int .i64) _ 3 (by rfl) (N := 19) rfl 25 _ _ rfl a0 rfl rfl Try.underlying25 (.int .i64 0) 8 info3 rfl (by decide) (by omega) 0 (ok := fun _ => True) (okp := fun _ => True) rfl (fun _ hk => hk) trivial (of_decide_eq_true (by assumption)) (Nat.le_trans (Nat.mul_le_mul_right _ (of_decide_eq_true (by assumption) : a0.toNat ≤ 35184372088832)) (by omega)) (Below.refl _ _) (Nat.le_refl _) ?_
  intro v231 w12 ho13 hb hg_ hnew_
  clear hg_ hnew_
  rw [← Ny230.out] at ho13
  have n0_ := Aside0.mk (Kd.R_lower ho13 (below_size HB.out))
  have n1_ := Aside0.mk (blk_below (g := gb226) (o := .cells #[.slice none 0 0, .slice none 0 0, .slice none 0 0, .slice none 0 0] 79 (0, 0)) BK226.out hb)
  have n2_ := Aside0.mk (below_step HB.out hb)
  clear BK226
  clear HB
  have HO232 := n0_
  have BK226 := n1_
  have HB := n2_
  clear n0_ n1_ n2_
  clear hb ho13
  refine hK.out _ _ trivial (fun hHeld => ?_)
  clear hK K
  exact norm_ (by simp only [putAll, Act.put, List.setIfInBounds_toArray, List.set_cons_zero, List.set_cons_succ]; try rfl) (hJ3 (v231) _ ⟨HO232.out, BK226.out, HB.out⟩)
 ·refine Kd.R_make_step (Kd.int .i64) _ 3 (by rfl) (N := 21) rfl 25 _ _ rfl a0 rfl rfl Try.underlying25 (.int .i64 0) 8 info3 rfl (by decide) (by omega) 0 (ok := fun _ => True) (okp := fun _ => True) rfl (fun _ hk => hk) trivial (of_decide_eq_true (by assumption)) (Nat.le_trans (Nat.mul_le_mul_right _ (of_decide_eq_true (by assumption) : a0.toNat ≤ 35184372088832)) (by omega)) (Below.refl _ _) (Nat.le_refl _) ?_
  intro v234 w12 ho13 hb hg_ hnew_
  clear hg_ hnew_
  rw [← Ny233.out] at ho13
  have n0_ := Aside0.mk (Kd.R_lower ho13 (below_size HB.out))
  have n1_ := Aside0.mk (blk_below (g := gb226) (o := .cells #[.slice none 0 0, .slice none 0 0, .slice none 0 0, .slice none 0 0] 79 (0, 0)) BK226.out hb)
  have n2_ := Aside0.mk (below_step HB.out hb)
  clear BK226
  clear HB
  have HO235 := n0_
  have BK226 := n1_
  have HB := n2_
  clear n0_ n1_ n2_
  clear hb ho13
  refine hK.out _ _ trivial (fun hHeld => ?_)
  clear hK K
  exact norm_ (by simp only [putAll, Act.put, List.setIfInBounds_toArray, List.set_cons_zero, List.set_cons_succ]; try rfl) (hJ5 (v234) _ ⟨HO235.out, BK226.out, HB.out⟩)
 ·refine box_step ?hg (N := 7) ?hd (cs := #[.slice none 0 0, .slice none 0 0, .slice none 0 0, .slice none 0 0]) (t := 79) ?hr ?_; (case hd => rfl); (case hg => rfl); (case hr => first | (go_simp; done) | (go_simp; rfl))
  intro gb236 hg w12 hbox hb
  have n0_ := Aside0.mk (blk_below (g := gb226) (o := .cells #[.slice none 0 0, .slice none 0 0, .slice none 0 0, .slice none 0 0] 79 (0, 0)) BK226.out hb)
  have n1_ := Aside0.mk (below_step HB.out hb)
  have n2_ := Aside0.mk (hbox)
  have n3_ := Aside0.mk ((by rw [hg]; exact (below_size HB.out) : w.heap.size ≤ gb236))
  have n4_ := Aside0.mk ((by rw [hg]; exact (below_size HB.out) : w.heap.size ≤ gb236))
  have n5_ := Aside0.mk ((by rw [hg]; exact Nat.ne_of_lt (blk_lt (g := gb226) (o := .cells #[.slice none 0 0, .slice none 0 0, .slice none 0 0, .slice none 0 0] 79 (0, 0)) BK226.out) : gb226 ≠ gb236))
  have n6_ := Aside0.mk ((by rw [hg]; exact Nat.ne_of_gt (blk_lt (g := gb226) (o := .cells #[.slice none 0 0, .slice none 0 0, .slice none 0 0, .slice none 0 0] 79 (0, 0)) BK226.out) : gb236 ≠ gb226))
  clear BK226
  clear HB
  have BK226 := n0_
  have HB := n1_
  have BK236 := n2_
  have GW236 := n3_
  have GE236 := n4_
  have NB226_236 := n5_
  have NB236_226 := n6_
  clear n0_ n1_ n2_ n3_ n4_ n5_ n6_
  clear hb hbox hg
  refine hK.out _ _ trivial (fun hHeld => ?_)
  clear hK K
  exact norm_ (by simp only [putAll, Act.put, List.setIfInBounds_toArray, List.set_cons_zero, List.set_cons_succ]; try rfl) (hJ7 (gb236) _ ⟨BK226.out, BK236.out, GW236.out, GE236.out, NB226_236.out, NB236_226.out, HB.out⟩)
 ·rintro gb236 w13 ⟨h0_, h1_, h2_, h3_, h4_, h5_, h6_⟩
  have n0_ : Aside0 (w13.heap[gb226]? = some (.cells #[.slice none 0 0, .slice none 0 0, .slice none 0 0, .slice none 0 0] 79 (0, 0))) := ⟨h0_⟩
  have n1_ : Aside0 (w13.heap[gb236]? = some (.cells #[.slice none 0 0, .slice none 0 0, .slice none 0 0, .slice none 0 0] 79 (0, 0))) := ⟨h1_⟩
  have n2_ : Aside0 (w.heap.size ≤ gb236) := ⟨h2_⟩
  have n3_ : Aside0 (w.heap.size ≤ gb236) := ⟨h3_⟩
  have n4_ : Aside0 (gb226 ≠ gb236) := ⟨h4_⟩
  have n5_ : Aside0 (gb236 ≠ gb226) := ⟨h5_⟩
  have n6_ : Aside0 (Below w.heap.size w w13) := ⟨h6_⟩
  clear BK226
  clear HB
  clear h0_ h1_ h2_ h3_ h4_ h5_ h6_
  have BK226 := n0_
  have BK236 := n1_
  have GW236 := n2_
  have GE236 := n3_
  have NB226_236 := n4_
  have NB236_226 := n5_
  have HB := n6_
  clear n0_ n1_ n2_ n3_ n4_ n5_ n6_
  have hHeld := trivial
  refine norm_ (a' := ?_) ?_ ?_
  rotate_left
  ·simp only [putAll, Act.put, List.setIfInBounds_toArray, List.set_cons_zero, List.set_cons_succ]
   rfl
  refine three_ (i := 1) (j := 3) (k := 5) (Ni := some 17) (Nj := some 19) (Nk := some 21) #[true, true, true, false, true, false, false, true, false] #[true, false, true, true, true, false, false, true, false] #[true, false, true, false, true, true, false, true, false] rfl rfl rfl rfl rfl rfl (three_of HT_.out (by kernel_rfl)) (by decide) (by decide) (by decide) (fun K hK => ?_) (fun K hK => ?_) (fun K hK => ?_)
  ·refine Kd.R_make_step (Kd.int .i64) _ 3 (by rfl) (N := 17) rfl 25 _ _ rfl a0 rfl rfl Try.underlying25 (.int .i64 0) 8 info3 rfl (by decide) (by omega) 0 (ok := fun _ => True) (okp := fun _ => True) rfl (fun _ hk => hk) trivial (of_decide_eq_true (by assumption)) (Nat.le_trans (Nat.mul_le_mul_right _ (of_decide_eq_true (by assumption) : a0.toNat ≤ 35184372088832)) (by omega)) (Below.refl _ _) (Nat.le_refl _) ?_
   intro v228 w14 ho15 hb hg_ hnew_
   clear hg_ hnew_
   rw [← Ny227.out] at ho15
   have n0_ := Aside0.mk (Kd.R_lower ho15 (below_size HB.out))
   have n1_ := Aside0.mk (blk_below (g := gb226) (o := .cells #[.slice none 0 0, .slice none 0 0, .slice none 0 0, .slice none 0 0] 79 (0, 0)) BK226.out hb)
   have n2_ := Aside0.mk (blk_below (g := gb236) (o := .cells #[.slice none 0 0, .slice none 0 0, .slice none 0 0, .slice none 0 0] 79 (0, 0)) BK236.out hb)
   have n3_ := Aside0.mk (below_step HB.out hb)
   clear BK226
   clear BK236
   clear HB
   have HO229 := n0_
   have BK226 := n1_
   have BK236 := n2_
   have HB := n3_
   clear n0_ n1_ n2_ n3_
   clear hb ho15
   refine hK.out _ _ trivial (fun hHeld => ?_)
   clear hK K
   exact norm_ (by simp only [putAll, Act.put, List.setIfInBounds_toArray, List.set_cons_zero, List.set_cons_succ]; try rfl) (hJ1_7 (v228, gb236) _ ⟨HO229.out, BK226.out, BK236.out, GW236.out, GE236.out, NB226_236.out, NB236_226.out, HB.out⟩)
  ·refine Kd.R_make_step (Kd.int .i64) _ 3 (by rfl) (N := 19) rfl 25 _ _ rfl a0 rfl rfl Try.underlying25 (.int .i64 0) 8 info3 rfl (by decide) (by omega) 0 (ok := fun _ => True) (okp := fun _ => True) rfl (fun _ hk => hk) trivial (of_decide_eq_true (by assumption)) (Nat.le_trans (Nat.mul_le_mul_right _ (of_decide_eq_true (by assumption) : a0.toNat ≤ 35184372088832)) (by omega)) (Below.refl _ _) (Nat.le_refl _) ?_
   intro v231 w14 ho15 hb hg_ hnew_
   clear hg_ hnew_
   rw [← Ny230.out] at ho15
   have n0_ := Aside0.mk (Kd.R_lower ho15 (below_size HB.out))
   have n1_ := Aside0.mk (blk_below (g := gb226) (o := .cells #[.slice none 0 0, .slice none 0 0, .slice none 0 0, .slice none 0 0] 79 (0, 0)) BK226.out hb)
   have n2_ := Aside0.mk (blk_below (g := gb236) (o := .cells #[.slice none 0 0, .slice none 0 0, .slice none 0 0, .slice none 0 0] 79 (0, 0)) BK236.out hb)
   have n3_ := Aside0.mk (below_step HB.out hb)
   clear BK226
   clear BK236
   clear HB
   have HO232 := n0_
   have BK226 := n1_
   have BK236 := n2_
   have HB := n3_
   clear n0_ n1_ n2_ n3_
   clear hb ho15
   refine hK.out _ _ trivial (fun hHeld => ?_)
   clear hK K
   exact norm_ (by simp only [putAll, Act.put, List.setIfInBounds_toArray, List.set_cons_zero, List.set_cons_succ]; try rfl) (hJ3_7 (v231, gb236) _ ⟨HO232.out, BK226.out, BK236.out, GW236.out, GE236.out, NB226_236.out, NB236_226.out, HB.out⟩)
  ·refine Kd.R_make_step (Kd.int .i64) _ 3 (by rfl) (N := 21) rfl 25 _ _ rfl a0 rfl rfl Try.underlying25 (.int .i64 0) 8 info3 rfl (by decide) (by omega) 0 (ok := fun _ => True) (okp := fun _ => True) rfl (fun _ hk => hk) trivial (of_decide_eq_true (by assumption)) (Nat.le_trans (Nat.mul_le_mul_right _ (of_decide_eq_true (by assumption) : a0.toNat ≤ 35184372088832)) (by omega)) (Below.refl _ _) (Nat.le_refl _) ?_
   intro v234 w14 ho15 hb hg_ hnew_
   clear hg_ hnew_
   rw [← Ny233.out] at ho15
   have n0_ := Aside0.mk (Kd.R_lower ho15 (below_size HB.out))
   have n1_ := Aside0.mk (blk_below (g := gb226) (o := .cells #[.slice none 0 0, .slice none 0 0, .slice none 0 0, .slice none 0 0] 79 (0, 0)) BK226.out hb)
   have n2_ := Aside0.mk (blk_below (g := gb236) (o := .cells #[.slice none 0 0, .slice none 0 0, .slice none 0 0, .slice none 0 0] 79 (0, 0)) BK236.out hb)
   have n3_ := Aside0.mk (below_step HB.out hb)
   clear BK226
   clear BK236
   clear HB
   have HO235 := n0_
   have BK226 := n1_
   have BK236 := n2_
   have HB := n3_
   clear n0_ n1_ n2_ n3_
   clear hb ho15
   refine hK.out _ _ trivial (fun hHeld => ?_)
   clear hK K
   exact norm_ (by simp only [putAll, Act.put, List.setIfInBounds_toArray, List.set_cons_zero, List.set_cons_succ]; try rfl) (hJ5_7 (v234, gb236) _ ⟨HO235.out, BK226.out, BK236.out, GW236.out, GE236.out, NB226_236.out, NB236_226.out, HB.out⟩)
 ·rintro v234 w14 ⟨h0_, h1_, h2_⟩
  have n0_ : Aside0 (Kd.R (Kd.int .i64) 3 w14 w.heap.size (fun _ => True) v234 y233) := ⟨h0_⟩
  have n1_ : Aside0 (w14.heap[gb226]? = some (.cells #[.slice none 0 0, .slice none 0 0, .slice none 0 0, .slice none 0 0] 79 (0, 0))) := ⟨h1_⟩
  have n2_ : Aside0 (Below w.heap.size w w14) := ⟨h2_⟩
  clear BK226
  clear HB
  clear h0_ h1_ h2_
  have HO235 := n0_
  have BK226 := n1_
  have HB := n2_
  clear n0_ n1_ n2_
  have hHeld := trivial
  refine norm_ (a' := ?_) ?_ ?_
  rotate_left
  ·simp only [putAll, Act.put, List.setIfInBounds_toArray, List.set_cons_zero, List.set_cons_succ]
   rfl
  refine three_ (i := 1) (j := 3) (k := 7) (Ni := some 17) (Nj := some 19) (Nk := some 7) #[true, true, true, false, true, true, false, false, false] #[true, false, true, true, true, true, false, false, false] #[true, false, true, false, true, true, false, true, false] rfl rfl rfl rfl rfl rfl (three_of HT_.out (by kernel_rfl)) (by decide) (by decide) (by decide) (fun K hK => ?_) (fun K hK => ?_) (fun K hK => ?_)
  ·refine Kd.R_make_step (Kd.int .i64) _ 3 (by rfl) (N := 17) rfl 25 _ _ rfl a0 rfl rfl Try.underlying25 (.int .i64 0) 8 info3 rfl (by decide) (by omega) 0 (ok := fun _ => True) (okp := fun _ => True) rfl (fun _ hk => hk) trivial (of_decide_eq_true (by assumption)) (Nat.le_trans (Nat.mul_le_mul_right _ (of_decide_eq_true (by assumption) : a0.toNat ≤ 35184372088832)) (by omega)) (Below.refl _ _) (Nat.le_refl _) ?_
   intro v228 w15 ho16 hb hg_ hnew_
   clear hg_ hnew_
   rw [← Ny227.out] at ho16
   have n0_ := Aside0.mk (Kd.R_elder' HO235.out (Kd.R_base ho16) hb)
   have n1_ := Aside0.mk (Kd.R_lower (Kd.R_new' ho16 (Kd.R_lt HO235.out)) (below_size HB.out))
   have n2_ := Aside0.mk (blk_below (g := gb226) (o := .cells #[.slice none 0 0, .slice none 0 0, .slice none 0 0, .slice none 0 0] 79 (0, 0)) BK226.out hb)
   have n3_ := Aside0.mk (below_step HB.out hb)
   clear HO235
   clear BK226
   clear HB
   have HO235 := n0_
   have HO229 := n1_
   have BK226 := n2_
   have HB := n3_
   clear n0_ n1_ n2_ n3_
   clear hb ho16
   refine hK.out _ _ trivial (fun hHeld => ?_)
   clear hK K
   exact norm_ (by simp only [putAll, Act.put, List.setIfInBounds_toArray, List.set_cons_zero, List.set_cons_succ]; try rfl) (hJ1_5 (v228, v234) _ ⟨(by (with_reducible repeat (first | apply Kd.R_alloc | apply Kd.R_drewN | apply Kd.R_drew)); exact Kd.R_mono HO229.out (fun _ hk => hk.2)), (by (with_reducible repeat (first | apply Kd.R_alloc | apply Kd.R_drewN | apply Kd.R_drew)); exact Kd.R_mono HO235.out (fun _ hk => hk.2)), BK226.out, HB.out⟩)
  ·refine Kd.R_make_step (Kd.int .i64) _ 3 (by rfl) (N := 19) rfl 25 _ _ rfl a0 rfl rfl Try.underlying25 (.int .i64 0) 8 info3 rfl (by decide) (by omega) 0 (ok := fun _ => True) (okp := fun _ => True) rfl (fun _ hk => hk) trivial (of_decide_eq_true (by assumption)) (Nat.le_trans (Nat.mul_le_mul_right _ (of_decide_eq_true (by assumption) : a0.toNat ≤ 35184372088832)) (by omega)) (Below.refl _ _) (Nat.le_refl _) ?_
   intro v231 w15 ho16 hb hg_ hnew_
   clear hg_ hnew_
   rw [← Ny230.out] at ho16
   have n0_ := Aside0.mk (Kd.R_elder' HO235.out (Kd.R_base ho16) hb)
   have n1_ := Aside0.mk (Kd.R_lower (Kd.R_new' ho16 (Kd.R_lt HO235.out)) (below_size HB.out))
   have n2_ := Aside0.mk (blk_below (g := gb226) (o := .cells #[.slice none 0 0, .slice none 0 0, .slice none 0 0, .slice none 0 0] 79 (0, 0)) BK226.out hb)
   have n3_ := Aside0.mk (below_step HB.out hb)
   clear HO235
   clear BK226
   clear HB
   have HO235 := n0_
   have HO232 := n1_
   have BK226 := n2_
   have HB := n3_
   clear n0_ n1_ n2_ n3_
   clear hb ho16
   refine hK.out _ _ trivial (fun hHeld => ?_)
   clear hK K
   exact norm_ (by simp only [putAll, Act.put, List.setIfInBounds_toArray, List.set_cons_zero, List.set_cons_succ]; try rfl) (hJ3_5 (v231, v234) _ ⟨(by (with_reducible repeat (first | apply Kd.R_alloc | apply Kd.R_drewN | apply Kd.R_drew)); exact Kd.R_mono HO232.out (fun _ hk => hk.2)), (by (with_reducible repeat (first | apply Kd.R_alloc | apply Kd.R_drewN | apply Kd.R_drew)); exact Kd.R_mono HO235.out (fun _ hk => hk.2)), BK226.out, HB.out⟩)
  ·refine box_step ?hg (N := 7) ?hd (cs := #[.slice none 0 0, .slice none 0 0, .slice none 0 0, .slice none 0 0]) (t := 79) ?hr ?_; (case hd => rfl); (case hg => rfl); (case hr => first | (go_simp; done) | (go_simp; rfl))
   intro gb236 hg w15 hbox hb
   have n0_ := Aside0.mk (Kd.R_below HO235.out hb)
   have n1_ := Aside0.mk (blk_below (g := gb226) (o := .cells #[.slice none 0 0, .slice none 0 0, .slice none 0 0, .slice none 0 0] 79 (0, 0)) BK226.out hb)
   have n2_ := Aside0.mk (below_step HB.out hb)
   have n3_ := Aside0.mk (hbox)
   have n4_ := Aside0.mk ((by rw [hg]; exact (below_size HB.out) : w.heap.size ≤ gb236))
   have n5_ := Aside0.mk ((by rw [hg]; exact (below_size HB.out) : w.heap.size ≤ gb236))
   have n6_ := Aside0.mk ((by rw [hg]; exact Nat.ne_of_lt (blk_lt (g := gb226) (o := .cells #[.slice none 0 0, .slice none 0 0, .slice none 0 0, .slice none 0 0] 79 (0, 0)) BK226.out) : gb226 ≠ gb236))
   have n7_ := Aside0.mk ((by rw [hg]; exact Nat.ne_of_gt (blk_lt (g := gb226) (o := .cells #[.slice none 0 0, .slice none 0 0, .slice none 0 0, .slice none 0 0] 79 (0, 0)) BK226.out) : gb236 ≠ gb226))
   clear HO235
   clear BK226
   clear HB
   have HO235 := n0_
   have BK226 := n1_
   have HB := n2_
   have BK236 := n3_
   have GW236 := n4_
   have GE236 := n5_
   have NB226_236 := n6_
   have NB236_226 := n7_
   clear n0_ n1_ n2_ n3_ n4_ n5_ n6_ n7_
   clear hb hbox hg
   refine hK.out _ _ trivial (fun hHeld => ?_)
   clear hK K
   exact norm_ (by simp only [putAll, Act.put, List.setIfInBounds_toArray, List.set_cons_zero, List.set_cons_succ]; try rfl) (hJ5_7 (v234, gb236) _ ⟨HO235.out, BK226.out, BK236.out, GW236.out, GE236.out, NB226_236.out, NB236_226.out, HB.out⟩)
 ·rintro v231 w14 ⟨h0_, h1_, h2_⟩
  have n0_ : Aside0 (Kd.R (Kd.int .i64) 3 w14 w.heap.size (fun _ => True) v231 y230) := ⟨h0_⟩
  have n1_ : Aside0 (w14.heap[gb226]? = some (.cells #[.slice none 0 0, .slice none 0 0, .slice none 0 0, .slice none 0 0] 79 (0, 0))) := ⟨h1_⟩
  have n2_ : Aside0 (Below w.heap.size w w14) := ⟨h2_⟩
  clear BK226
  clear HB
  clear h0_ h1_ h2_
  have HO232 := n0_
  have BK226 := n1_
  have HB := n2_
  clear n0_ n1_ n2_
  have hHeld := trivial
  refine norm_ (a' := ?_) ?_ ?_
  rotate_left
  ·simp only [putAll, Act.put, List.setIfInBounds_toArray, List.set_cons_zero, List.set_cons_succ]
   rfl
  refine three_ (i := 1) (j := 5) (k := 7) (Ni := some 17) (Nj := some 21) (Nk := some 7) #[true, true, true, true, true, false, false, false, false] #[true, false, true, true, true, true, false, false, false] #[true, false, true, true, true, false, false, true, false] rfl rfl rfl rfl rfl rfl (three_of HT_.out (by kernel_rfl)) (by decide) (by decide) (by decide) (fun K hK => ?_) (fun K hK => ?_) (fun K hK => ?_)
  ·refine Kd.R_make_step (Kd.int .i64) _ 3 (by rfl) (N := 17) rfl 25 _ _ rfl a0 rfl rfl Try.underlying25 (.int .i64 0) 8 info3 rfl (by decide) (by omega) 0 (ok := fun _ => True) (okp := fun _ => True) rfl (fun _ hk => hk) trivial (of_decide_eq_true (by assumption)) (Nat.le_trans (Nat.mul_le_mul_right _ (of_decide_eq_true (by assumption) : a0.toNat ≤ 35184372088832)) (by omega)) (Below.refl _ _) (Nat.le_refl _) ?_
   intro v228 w15 ho16 hb hg_ hnew_
   clear hg_ hnew_
   rw [← Ny227.out] at ho16
   have n0_ := Aside0.mk (Kd.R_elder' HO232.out (Kd.R_base ho16) hb)
   have n1_ := Aside0.mk (Kd.R_lower (Kd.R_new' ho16 (Kd.R_lt HO232.out)) (below_size HB.out))
   have n2_ := Aside0.mk (blk_below (g := gb226) (o := .cells #[.slice none 0 0, .slice none 0 0, .slice none 0 0, .slice none 0 0] 79 (0, 0)) BK226.out hb)
   have n3_ := Aside0.mk (below_step HB.out hb)
   clear HO232
   clear BK226
   clear HB
   have HO232 := n0_
   have HO229 := n1_
   have BK226 := n2_
   have HB := n3_
   clear n0_ n1_ n2_ n3_
   clear hb ho16
   refine hK.out _ _ trivial (fun hHeld => ?_)
   clear hK K
   exact norm_ (by simp only [putAll, Act.put, List.setIfInBounds_toArray, List.set_cons_zero, List.set_cons_succ]; try rfl) (hJ1_3 (v228, v231) _ ⟨(by (with_reducible repeat (first | apply Kd.R_alloc | apply Kd.R_drewN | apply Kd.R_drew)); exact Kd.R_mono HO229.out (fun _ hk => hk.2)), (by (with_reducible repeat (first | apply Kd.R_alloc | apply Kd.R_drewN | apply Kd.R_drew)); exact Kd.R_mono HO232.out (fun _ hk => hk.2)), BK226.out, HB.out⟩)
  ·refine Kd.R_make_step (Kd.int .i64) _ 3 (by rfl) (N := 21) rfl 25 _ _ rfl a0 rfl rfl Try.underlying25 (.int .i64 0) 8 info3 rfl (by decide) (by omega) 0 (ok := fun _ => True) (okp := fun _ => True) rfl (fun _ hk => hk) trivial (of_decide_eq_true (by assumption)) (Nat.le_trans (Nat.mul_le_mul_right _ (of_decide_eq_true (by assumption) : a0.toNat ≤ 35184372088832)) (by omega)) (Below.refl _ _) (Nat.le_refl _) ?_
   intro v234 w15 ho16 hb hg_ hnew_
   clear hg_ hnew_
   rw [← Ny233.out] at ho16
   have n0_ := Aside0.mk (Kd.R_elder' HO232.out (Kd.R_base ho16) hb)
   have n1_ := Aside0.mk (Kd.R_lower (Kd.R_new' ho16 (Kd.R_lt HO232.out)) (below_size HB.out))
   have n2_ := Aside0.mk (blk_below (g := gb226) (o := .cells #[.slice none 0 0, .slice none 0 0, .slice none 0 0, .slice none 0 0] 79 (0, 0)) BK226.out hb)
   have n3_ := Aside0.mk (below_step HB.out hb)
   clear HO232
   clear BK226
   clear HB
   have HO232 := n0_
   have HO235 := n1_
   have BK226 := n2_
   have HB := n3_
   clear n0_ n1_ n2_ n3_
   clear hb ho16
   refine hK.out _ _ trivial (fun hHeld => ?_)
   clear hK K
   exact norm_ (by simp only [putAll, Act.put, List.setIfInBounds_toArray, List.set_cons_zero, List.set_cons_succ]; try rfl) (hJ3_5 (v231, v234) _ ⟨(by (with_reducible repeat (first | apply Kd.R_alloc | apply Kd.R_drewN | apply Kd.R_drew)); exact Kd.R_mono HO232.out (fun _ hk => hk.2)), (by (with_reducible repeat (first | apply Kd.R_alloc | apply Kd.R_drewN | apply Kd.R_drew)); exact Kd.R_mono HO235.out (fun _ hk => hk.2)), BK226.out, HB.out⟩)
  ·refine box_step ?hg (N := 7) ?hd (cs := #[.slice none 0 0, .slice none 0 0, .slice none 0 0, .slice none 0 0]) (t := 79) ?hr ?_; (case hd => rfl); (case hg => rfl); (case hr => first | (go_simp; done) | (go_simp; rfl))
   intro gb236 hg w15 hbox hb
   have n0_ := Aside0.mk (Kd.R_below HO232.out hb)
   have n1_ := Aside0.mk (blk_below (g := gb226) (o := .cells #[.slice none 0 0, .slice none 0 0, .slice none 0 0, .slice none 0 0] 79 (0, 0)) BK226.out hb)
   have n2_ := Aside0.mk (below_step HB.out hb)
   have n3_ := Aside0.mk (hbox)
   have n4_ := Aside0.mk ((by rw [hg]; exact (below_size HB.out) : w.heap.size ≤ gb236))
   have n5_ := Aside0.mk ((by rw [hg]; exact (below_size HB.out) : w.heap.size ≤ gb236))
   have n6_ := Aside0.mk ((by rw [hg]; exact Nat.ne_of_lt (blk_lt (g := gb226) (o := .cells #[.slice none 0 0, .slice none 0 0, .slice none 0 0, .slice none 0 0] 79 (0, 0)) BK226.out) : gb226 ≠ gb236))
   have n7_ := Aside0.mk ((by rw [hg]; exact Nat.ne_of_gt (blk_lt (g := gb226) (o := .cells #[.slice none 0 0, .slice none 0 0, .slice none 0 0, .slice none 0 0] 79 (0, 0)) BK226.out) : gb236 ≠ gb226))
   clear HO232
   clear BK226
   clear HB
   have HO232 := n0_
   have BK226 := n1_
   have HB := n2_
   have BK236 := n3_
   have GW236 := n4_
   have GE236 := n5_
   have NB226_236 := n6_
   have NB236_226 := n7_
   clear n0_ n1_ n2_ n3_ n4_ n5_ n6_ n7_
   clear hb hbox hg
   refine hK.out _ _ trivial (fun hHeld => ?_)
   clear hK K
   exact norm_ (by simp only [putAll, Act.put, List.setIfInBounds_toArray, List.set_cons_zero, List.set_cons_succ]; try rfl) (hJ3_7 (v231, gb236) _ ⟨HO232.out, BK226.out, BK236.out, GW236.out, GE236.out, NB226_236.out, NB236_226.out, HB.out⟩)
 ·rintro v228 w14 ⟨h0_, h1_, h2_⟩
  have n0_ : Aside0 (Kd.R (Kd.int .i64) 3 w14 w.heap.size (fun _ => True) v228 y227) := ⟨h0_⟩
  have n1_ : Aside0 (w14.heap[gb226]? = some (.cells #[.slice none 0 0, .slice none 0 0, .slice none 0 0, .slice none 0 0] 79 (0, 0))) := ⟨h1_⟩
  have n2_ : Aside0 (Below w.heap.size w w14) := ⟨h2_⟩
  clear BK226
  clear HB
  clear h0_ h1_ h2_
  have HO229 := n0_
  have BK226 := n1_
  have HB := n2_
  clear n0_ n1_ n2_
  have hHeld := trivial
  refine norm_ (a' := ?_) ?_ ?_
  rotate_left
  ·simp only [putAll, Act.put, List.setIfInBounds_toArray, List.set_cons_zero, List.set_cons_succ]
   rfl
  refine three_ (i := 3) (j := 5) (k := 7) (Ni := some 19) (Nj := some 21) (Nk := some 7) #[true, true, true, true, true, false, false, false, false] #[true, true, true, false, true, true, false, false, false] #[true, true, true, false, true, false, false, true, false] rfl rfl rfl rfl rfl rfl (three_of HT_.out (by kernel_rfl)) (by decide) (by decide) (by decide) (fun K hK => ?_) (fun K hK => ?_) (fun K hK => ?_)
  ·refine Kd.R_make_step (Kd.int .i64) _ 3 (by rfl) (N := 19) rfl 25 _ _ rfl a0 rfl rfl Try.underlying25 (.int .i64 0) 8 info3 rfl (by decide) (by omega) 0 (ok := fun _ => True) (okp := fun _ => True) rfl (fun _ hk => hk) trivial (of_decide_eq_true (by assumption)) (Nat.le_trans (Nat.mul_le_mul_right _ (of_decide_eq_true (by assumption) : a0.toNat ≤ 35184372088832)) (by omega)) (Below.refl _ _) (Nat.le_refl _) ?_
   intro v231 w15 ho16 hb hg_ hnew_
   clear hg_ hnew_
   rw [← Ny230.out] at ho16
   have n0_ := Aside0.mk (Kd.R_elder' HO229.out (Kd.R_base ho16) hb)
   have n1_ := Aside0.mk (Kd.R_lower (Kd.R_new' ho16 (Kd.R_lt HO229.out)) (below_size HB.out))
   have n2_ := Aside0.mk (blk_below (g := gb226) (o := .cells #[.slice none 0 0, .slice none 0 0, .slice none 0 0, .slice none 0 0] 79 (0, 0)) BK226.out hb)
   have n3_ := Aside0.mk (below_step HB.out hb)
   clear HO229
   clear BK226
   clear HB
   have HO229 := n0_
   have HO232 := n1_
   have BK226 := n2_
   have HB := n3_
   clear n0_ n1_ n2_ n3_
   clear hb ho16
   refine hK.out _ _ trivial (fun hHeld => ?_)
   clear hK K
   exact norm_ (by simp only [putAll, Act.put, List.setIfInBounds_toArray, List.set_cons_zero, List.set_cons_succ]; try rfl) (hJ1_3 (v228, v231) _ ⟨(by (with_reducible repeat (first | apply Kd.R_alloc | apply Kd.R_drewN | apply Kd.R_drew)); exact Kd.R_mono HO229.out (fun _ hk => hk.2)), (by (with_reducible repeat (first | apply Kd.R_alloc | apply Kd.R_drewN | apply Kd.R_drew)); exact Kd.R_mono HO232.out (fun _ hk => hk.2)), BK226.out, HB.out⟩)
  ·refine Kd.R_make_step (Kd.int .i64) _ 3 (by rfl) (N := 21) rfl 25 _ _ rfl a0 rfl rfl Try.underlying25 (.int .i64 0) 8 info3 rfl (by decide) (by omega) 0 (ok := fun _ => True) (okp := fun _ => True) rfl (fun _ hk => hk) trivial (of_decide_eq_true (by assumption)) (Nat.le_trans (Nat.mul_le_mul_right _ (of_decide_eq_true (by assumption) : a0.toNat ≤ 35184372088832)) (by omega)) (Below.refl _ _) (Nat.le_refl _) ?_
   intro v234 w15 ho16 hb hg_ hnew_
   clear hg_ hnew_
   rw [← Ny233.out] at ho16
   have n0_ := Aside0.mk (Kd.R_elder' HO229.out (Kd.R_base ho16) hb)
   have n1_ := Aside0.mk (Kd.R_lower (Kd.R_new' ho16 (Kd.R_lt HO229.out)) (below_size HB.out))
   have n2_ := Aside0.mk (blk_below (g := gb226) (o := .cells #[.slice none 0 0, .slice none 0 0, .slice none 0 0, .slice none 0 0] 79 (0, 0)) BK226.out hb)
   have n3_ := Aside0.mk (below_step HB.out hb)
   clear HO229
   clear BK226
   clear HB
   have HO229 := n0_
   have HO235 := n1_
   have BK226 := n2_
   have HB := n3_
   clear n0_ n1_ n2_ n3_
   clear hb ho16
   refine hK.out _ _ trivial (fun hHeld => ?_)
   clear hK K
   exact norm_ (by simp only [putAll, Act.put, List.setIfInBounds_toArray, List.set_cons_zero, List.set_cons_succ]; try rfl) (hJ1_5 (v228, v234) _ ⟨(by (with_reducible repeat (first | apply Kd.R_alloc | apply Kd.R_drewN | apply Kd.R_drew)); exact Kd.R_mono HO229.out (fun _ hk => hk.2)), (by (with_reducible repeat (first | apply Kd.R_alloc | apply Kd.R_drewN | apply Kd.R_drew)); exact Kd.R_mono HO235.out (fun _ hk => hk.2)), BK226.out, HB.out⟩)
  ·refine box_step ?hg (N := 7) ?hd (cs := #[.slice none 0 0, .slice none 0 0, .slice none 0 0, .slice none 0 0]) (t := 79) ?hr ?_; (case hd => rfl); (case hg => rfl); (case hr => first | (go_simp; done) | (go_simp; rfl))
   intro gb236 hg w15 hbox hb
   have n0_ := Aside0.mk (Kd.R_below HO229.out hb)
   have n1_ := Aside0.mk (blk_below (g := gb226) (o := .cells #[.slice none 0 0, .slice none 0 0, .slice none 0 0, .slice none 0 0] 79 (0, 0)) BK226.out hb)
   have n2_ := Aside0.mk (below_step HB.out hb)
   have n3_ := Aside0.mk (hbox)
   have n4_ := Aside0.mk ((by rw [hg]; exact (below_size HB.out) : w.heap.size ≤ gb236))
   have n5_ := Aside0.mk ((by rw [hg]; exact (below_size HB.out) : w.heap.size ≤ gb236))
   have n6_ := Aside0.mk ((by rw [hg]; exact Nat.ne_of_lt (blk_lt (g := gb226) (o := .cells #[.slice none 0 0, .slice none 0 0, .slice none 0 0, .slice none 0 0] 79 (0, 0)) BK226.out) : gb226 ≠ gb236))
   have n7_ := Aside0.mk ((by rw [hg]; exact Nat.ne_of_gt (blk_lt (g := gb226) (o := .cells #[.slice none 0 0, .slice none 0 0, .slice none 0 0, .slice none 0 0] 79 (0, 0)) BK226.out) : gb236 ≠ gb226))
   clear HO229
   clear BK226
   clear HB
   have HO229 := n0_
   have BK226 := n1_
   have HB := n2_
   have BK236 := n3_
   have GW236 := n4_
   have GE236 := n5_
   have NB226_236 := n6_
   have NB236_226 := n7_
   clear n0_ n1_ n2_ n3_ n4_ n5_ n6_ n7_
   clear hb hbox hg
   refine hK.out _ _ trivial (fun hHeld => ?_)
   clear hK K
   exact norm_ (by simp only [putAll, Act.put, List.setIfInBounds_toArray, List.set_cons_zero, List.set_cons_succ]; try rfl) (hJ1_7 (v228, gb236) _ ⟨HO229.out, BK226.out, BK236.out, GW236.out, GE236.out, NB226_236.out, NB236_226.out, HB.out⟩)
 ·rintro ⟨v234, gb236⟩ w15 ⟨h0_, h1_, h2_, h3_, h4_, h5_, h6_, h7_⟩
  have n0_ : Aside0 (Kd.R (Kd.int .i64) 3 w15 w.heap.size (fun _ => True) v234 y233) := ⟨h0_⟩
  have n1_ : Aside0 (w15.heap[gb226]? = some (.cells #[.slice none 0 0, .slice none 0 0, .slice none 0 0, .slice none 0 0] 79 (0, 0))) := ⟨h1_⟩
  have n2_ : Aside0 (w15.heap[gb236]? = some (.cells #[.slice none 0 0, .slice none 0 0, .slice none 0 0, .slice none 0 0] 79 (0, 0))) := ⟨h2_⟩
  have n3_ : Aside0 (w.heap.size ≤ gb236) := ⟨h3_⟩
  have n4_ : Aside0 (w.heap.size ≤ gb236) := ⟨h4_⟩
  have n5_ : Aside0 (gb226 ≠ gb236) := ⟨h5_⟩
  have n6_ : Aside0 (gb236 ≠ gb226) := ⟨h6_⟩
  have n7_ : Aside0 (Below w.heap.size w w15) := ⟨h7_⟩
  clear BK226
  clear HB
  clear h0_ h1_ h2_ h3_ h4_ h5_ h6_ h7_
  have HO235 := n0_
  have BK226 := n1_
  have BK236 := n2_
  have GW236 := n3_
  have GE236 := n4_
  have NB226_236 := n5_
  have NB236_226 := n6_
  have HB := n7_
  clear n0_ n1_ n2_ n3_ n4_ n5_ n6_ n7_
  have hHeld := trivial
  refine norm_ (a' := ?_) ?_ ?_
  rotate_left
  ·simp only [putAll, Act.put, List.setIfInBounds_toArray, List.set_cons_zero, List.set_cons_succ]
   rfl
  refine two_ (i := 1) (j := 3) (Ni := some 17) (Nj := some 19) #[true, true, true, false, true, true, false, true, false] #[true, false, true, true, true, true, false, true, false] rfl rfl rfl rfl (two_of HT_.out (by kernel_rfl)) (by decide) (by decide) (fun K hK => ?_) (fun K hK => ?_)
  ·refine Kd.R_make_step (Kd.int .i64) _ 3 (by rfl) (N := 17) rfl 25 _ _ rfl a0 rfl rfl Try.underlying25 (.int .i64 0) 8 info3 rfl (by decide) (by omega) 0 (ok := fun _ => True) (okp := fun _ => True) rfl (fun _ hk => hk) trivial (of_decide_eq_true (by assumption)) (Nat.le_trans (Nat.mul_le_mul_right _ (of_decide_eq_true (by assumption) : a0.toNat ≤ 35184372088832)) (by omega)) (Below.refl _ _) (Nat.le_refl _) ?_
   intro v228 w16 ho17 hb hg_ hnew_
   clear hg_ hnew_
   rw [← Ny227.out] at ho17
   have n0_ := Aside0.mk (Kd.R_elder' HO235.out (Kd.R_base ho17) hb)
   have n1_ := Aside0.mk (Kd.R_lower (Kd.R_new' ho17 (Kd.R_lt HO235.out)) (below_size HB.out))
   have n2_ := Aside0.mk (blk_below (g := gb226) (o := .cells #[.slice none 0 0, .slice none 0 0, .slice none 0 0, .slice none 0 0] 79 (0, 0)) BK226.out hb)
   have n3_ := Aside0.mk (blk_below (g := gb236) (o := .cells #[.slice none 0 0, .slice none 0 0, .slice none 0 0, .slice none 0 0] 79 (0, 0)) BK236.out hb)
   have n4_ := Aside0.mk (below_step HB.out hb)
   clear HO235
   clear BK226
   clear BK236
   clear HB
   have HO235 := n0_
   have HO229 := n1_
   have BK226 := n2_
   have BK236 := n3_
   have HB := n4_
   clear n0_ n1_ n2_ n3_ n4_
   clear hb ho17
   refine hK.out _ _ trivial (fun hHeld => ?_)
   clear hK K
   exact norm_ (by simp only [putAll, Act.put, List.setIfInBounds_toArray, List.set_cons_zero, List.set_cons_succ]; try rfl) (hJ1_5_7 (v228, v234, gb236) _ ⟨(by (with_reducible repeat (first | apply Kd.R_alloc | apply Kd.R_drewN | apply Kd.R_drew)); exact Kd.R_mono HO229.out (fun _ hk => hk.2)), (by (with_reducible repeat (first | apply Kd.R_alloc | apply Kd.R_drewN | apply Kd.R_drew)); exact Kd.R_mono HO235.out (fun _ hk => hk.2)), BK226.out, BK236.out, GW236.out, GE236.out, NB226_236.out, NB236_226.out, HB.out⟩)
  ·refine Kd.R_make_step (Kd.int .i64) _ 3 (by rfl) (N := 19) rfl 25 _ _ rfl a0 rfl rfl Try.underlying25 (.int .i64 0) 8 info3 rfl (by decide) (by omega) 0 (ok := fun _ => True) (okp := fun _ => True) rfl (fun _ hk => hk) trivial (of_decide_eq_true (by assumption)) (Nat.le_trans (Nat.mul_le_mul_right _ (of_decide_eq_true (by assumption) : a0.toNat ≤ 35184372088832)) (by omega)) (Below.refl _ _) (Nat.le_refl _) ?_
   intro v231 w16 ho17 hb hg_ hnew_
   clear hg_ hnew_
   rw [← Ny230.out] at ho17
   have n0_ := Aside0.mk (Kd.R_elder' HO235.out (Kd.R_base ho17) hb)
   have n1_ := Aside0.mk (Kd.R_lower (Kd.R_new' ho17 (Kd.R_lt HO235.out)) (below_size HB.out))
   have n2_ := Aside0.mk (blk_below (g := gb226) (o := .cells #[.slice none 0 0, .slice none 0 0, .slice none 0 0, .slice none 0 0] 79 (0, 0)) BK226.out hb)
   have n3_ := Aside0.mk (blk_below (g := gb236) (o := .cells #[.slice none 0 0, .slice none 0 0, .slice none 0 0, .slice none 0 0] 79 (0, 0)) BK236.out hb)
   have n4_ := Aside0.mk (below_step HB.out hb)
   clear HO235
   clear BK226
   clear BK236
   clear HB
   have HO235 := n0_
   have HO232 := n1_
   have BK226 := n2_
   have BK236 := n3_
   have HB := n4_
   clear n0_ n1_ n2_ n3_ n4_
   clear hb ho17
   refine hK.out _ _ trivial (fun hHeld => ?_)
   clear hK K
   exact norm_ (by simp only [putAll, Act.put, List.setIfInBounds_toArray, List.set_cons_zero, List.set_cons_succ]; try rfl) (hJ3_5_7 (v231, v234, gb236) _ ⟨(by (with_reducible repeat (first | apply Kd.R_alloc | apply Kd.R_drewN | apply Kd.R_drew)); exact Kd.R_mono HO232.out (fun _ hk => hk.2)), (by (with_reducible repeat (first | apply Kd.R_alloc | apply Kd.R_drewN | apply Kd.R_drew)); exact Kd.R_mono HO235.out (fun _ hk => hk.2)), BK226.out, BK236.out, GW236.out, GE236.out, NB226_236.out, NB236_226.out, HB.out⟩)
 ·rintro ⟨v231, gb236⟩ w15 ⟨h0_, h1_, h2_, h3_, h4_, h5_, h6_, h7_⟩
  have n0_ : Aside0 (Kd.R (Kd.int .i64) 3 w15 w.heap.size (fun _ => True) v231 y230) := ⟨h0_⟩
  have n1_ : Aside0 (w15.heap[gb226]? = some (.cells #[.slice none 0 0, .slice none 0 0, .slice none 0 0, .slice none 0 0] 79 (0, 0))) := ⟨h1_⟩
  have n2_ : Aside0 (w15.heap[gb236]? = some (.cells #[.slice none 0 0, .slice none 0 0, .slice none 0 0, .slice none 0 0] 79 (0, 0))) := ⟨h2_⟩
  have n3_ : Aside0 (w.heap.size ≤ gb236) := ⟨h3_⟩
  have n4_ : Aside0 (w.heap.size ≤ gb236) := ⟨h4_⟩
  have n5_ : Aside0 (gb226 ≠ gb236) := ⟨h5_⟩
  have n6_ : Aside0 (gb236 ≠ gb226) := ⟨h6_⟩
  have n7_ : Aside0 (Below w.heap.size w w15) := ⟨h7_⟩
  clear BK226
  clear HB
  clear h0_ h1_ h2_ h3_ h4_ h5_ h6_ h7_
  have HO232 := n0_
  have BK226 := n1_
  have BK236 := n2_
  have GW236 := n3_
  have GE236 := n4_
  have NB226_236 := n5_
  have NB236_226 := n6_
  have HB := n7_
  clear n0_ n1_ n2_ n3_ n4_ n5_ n6_ n7_
  have hHeld := trivial
  refine norm_ (a' := ?_) ?_ ?_
  rotate_left
  ·simp only [putAll, Act.put, List.setIfInBounds_toArray, List.set_cons_zero, List.set_cons_succ]
   rfl
  refine two_ (i := 1) (j := 5) (Ni := some 17) (Nj := some 21) #[true, true, true, true, true, false, false, true, false] #[true, false, true, true, true, true, false, true, false] rfl rfl rfl rfl (two_of HT_.out (by kernel_rfl)) (by decide) (by decide) (fun K hK => ?_) (fun K hK => ?_)
  ·refine Kd.R_make_step (Kd.int .i64) _ 3 (by rfl) (N := 17) rfl 25 _ _ rfl a0 rfl rfl Try.underlying25 (.int .i64 0) 8 info3 rfl (by decide) (by omega) 0 (ok := fun _ => True) (okp := fun _ => True) rfl (fun _ hk => hk) trivial (of_decide_eq_true (by assumption)) (Nat.le_trans (Nat.mul_le_mul_right _ (of_decide_eq_true (by assumption) : a0.toNat ≤ 35184372088832)) (by omega)) (Below.refl _ _) (Nat.le_refl _) ?_
   intro v228 w16 ho17 hb hg_ hnew_
   clear hg_ hnew_
   rw [← Ny227.out] at ho17
   have n0_ := Aside0.mk (Kd.R_elder' HO232.out (Kd.R_base ho17) hb)
   have n1_ := Aside0.mk (Kd.R_lower (Kd.R_new' ho17 (Kd.R_lt HO232.out)) (below_size HB.out))
   have n2_ := Aside0.mk (blk_below (g := gb226) (o := .cells #[.slice none 0 0, .slice none 0 0, .slice none 0 0, .slice none 0 0] 79 (0, 0)) BK226.out hb)
   have n3_ := Aside0.mk (blk_below (g := gb236) (o := .cells #[.slice none 0 0, .slice none 0 0, .slice none 0 0, .slice none 0 0] 79 (0, 0)) BK236.out hb)
   have n4_ := Aside0.mk (below_step HB.out hb)
   clear HO232
   clear BK226
   clear BK236
   clear HB
   have HO232 := n0_
   have HO229 := n1_
   have BK226 := n2_
   have BK236 := n3_
   have HB := n4_
   clear n0_ n1_ n2_ n3_ n4_
   clear hb ho17
   refine hK.out _ _ trivial (fun hHeld => ?_)
   clear hK K
   exact norm_ (by simp only [putAll, Act.put, List.setIfInBounds_toArray, List.set_cons_zero, List.set_cons_succ]; try rfl) (hJ1_3_7 (v228, v231, gb236) _ ⟨(by (with_reducible repeat (first | apply Kd.R_alloc | apply Kd.R_drewN | apply Kd.R_drew)); exact Kd.R_mono HO229.out (fun _ hk => hk.2)), (by (with_reducible repeat (first | apply Kd.R_alloc | apply Kd.R_drewN | apply Kd.R_drew)); exact Kd.R_mono HO232.out (fun _ hk => hk.2)), BK226.out, BK236.out, GW236.out, GE236.out, NB226_236.out, NB236_226.out, HB.out⟩)
  ·refine Kd.R_make_step (Kd.int .i64) _ 3 (by rfl) (N := 21) rfl 25 _ _ rfl a0 rfl rfl Try.underlying25 (.int .i64 0) 8 info3 rfl (by decide) (by omega) 0 (ok := fun _ => True) (okp := fun _ => True) rfl (fun _ hk => hk) trivial (of_decide_eq_true (by assumption)) (Nat.le_trans (Nat.mul_le_mul_right _ (of_decide_eq_true (by assumption) : a0.toNat ≤ 35184372088832)) (by omega)) (Below.refl _ _) (Nat.le_refl _) ?_
   intro v234 w16 ho17 hb hg_ hnew_
   clear hg_ hnew_
   rw [← Ny233.out] at ho17
   have n0_ := Aside0.mk (Kd.R_elder' HO232.out (Kd.R_base ho17) hb)
   have n1_ := Aside0.mk (Kd.R_lower (Kd.R_new' ho17 (Kd.R_lt HO232.out)) (below_size HB.out))
   have n2_ := Aside0.mk (blk_below (g := gb226) (o := .cells #[.slice none 0 0, .slice none 0 0, .slice none 0 0, .slice none 0 0] 79 (0, 0)) BK226.out hb)
   have n3_ := Aside0.mk (blk_below (g := gb236) (o := .cells #[.slice none 0 0, .slice none 0 0, .slice none 0 0, .slice none 0 0] 79 (0, 0)) BK236.out hb)
   have n4_ := Aside0.mk (below_step HB.out hb)
   clear HO232
   clear BK226
   clear BK236
   clear HB
   have HO232 := n0_
   have HO235 := n1_
   have BK226 := n2_
   have BK236 := n3_
   have HB := n4_
   clear n0_ n1_ n2_ n3_ n4_
   clear hb ho17
   refine hK.out _ _ trivial (fun hHeld => ?_)
   clear hK K
   exact norm_ (by simp only [putAll, Act.put, List.setIfInBounds_toArray, List.set_cons_zero, List.set_cons_succ]; try rfl) (hJ3_5_7 (v231, v234, gb236) _ ⟨(by (with_reducible repeat (first | apply Kd.R_alloc | apply Kd.R_drewN | apply Kd.R_drew)); exact Kd.R_mono HO232.out (fun _ hk => hk.2)), (by (with_reducible repeat (first | apply Kd.R_alloc | apply Kd.R_drewN | apply Kd.R_drew)); exact Kd.R_mono HO235.out (fun _ hk => hk.2)), BK226.out, BK236.out, GW236.out, GE236.out, NB226_236.out, NB236_226.out, HB.out⟩)
 ·rintro ⟨v231, v234⟩ w16 ⟨h0_, h1_, h2_, h3_⟩
  have n0_ : Aside0 (Kd.R (Kd.int .i64) 3 w16 w.heap.size (fun k_ => some k_ ≠ (v234 : Value).ownBlock) v231 y230) := ⟨h0_⟩
  have n1_ : Aside0 (Kd.R (Kd.int .i64) 3 w16 w.heap.size (fun k_ => some k_ ≠ (v231 : Value).ownBlock) v234 y233) := ⟨h1_⟩
  have n2_ : Aside0 (w16.heap[gb226]? = some (.cells #[.slice none 0 0, .slice none 0 0, .slice none 0 0, .slice none 0 0] 79 (0, 0))) := ⟨h2_⟩
  have n3_ : Aside0 (Below w.heap.size w w16) := ⟨h3_⟩
  clear BK226
  clear HB
  clear h0_ h1_ h2_ h3_
  have HO232 := n0_
  have HO235 := n1_
  have BK226 := n2_
  have HB := n3_
  clear n0_ n1_ n2_ n3_
  have hHeld := trivial
  refine norm_ (a' := ?_) ?_ ?_
  rotate_left
  ·simp only [putAll, Act.put, List.setIfInBounds_toArray, List.set_cons_zero, List.set_cons_succ]
   rfl
  refine two_ (i := 1) (j := 7) (Ni := some 17) (Nj := some 7) #[true, true, true, true, true, true, false, false, false] #[true, false, true, true, true, true, false, true, false] rfl rfl rfl rfl (two_of HT_.out (by kernel_rfl)) (by decide) (by decide) (fun K hK => ?_) (fun K hK => ?_)
  ·refine Kd.R_make_step (Kd.int .i64) _ 3 (by rfl) (N := 17) rfl 25 _ _ rfl a0 rfl rfl Try.underlying25 (.int .i64 0) 8 info3 rfl (by decide) (by omega) 0 (ok := fun _ => True) (okp := fun _ => True) rfl (fun _ hk => hk) trivial (of_decide_eq_true (by assumption)) (Nat.le_trans (Nat.mul_le_mul_right _ (of_decide_eq_true (by assumption) : a0.toNat ≤ 35184372088832)) (by omega)) (Below.refl _ _) (Nat.le_refl _) ?_
   intro v228 w17 ho18 hb hg_ hnew_
   clear hg_ hnew_
   rw [← Ny227.out] at ho18
   have n0_ := Aside0.mk (Kd.R_elder' HO232.out (Kd.R_base ho18) hb)
   have n1_ := Aside0.mk (Kd.R_elder' HO235.out (Kd.R_base ho18) hb)
   have n2_ := Aside0.mk (Kd.R_lower (Kd.R_new' (Kd.R_new' ho18 (Kd.R_lt HO232.out)) (Kd.R_lt HO235.out)) (below_size HB.out))
   have n3_ := Aside0.mk (blk_below (g := gb226) (o := .cells #[.slice none 0 0, .slice none 0 0, .slice none 0 0, .slice none 0 0] 79 (0, 0)) BK226.out hb)
   have n4_ := Aside0.mk (below_step HB.out hb)
   clear HO232
   clear HO235
   clear BK226
   clear HB
   have HO232 := n0_
   have HO235 := n1_
   have HO229 := n2_
   have BK226 := n3_
   have HB := n4_
   clear n0_ n1_ n2_ n3_ n4_
   clear hb ho18
   obtain ⟨Ao19, co19, eo19⟩ := Kd.R_slice HO235.out
   (first | subst eo19 | (injection eo19 with f1_ f2_ f3_; have f4_ := f1_.symm; have f5_ := f3_.symm; clear f1_ f2_ f3_; subst f4_; subst f5_))
   obtain ⟨Ao20, co20, eo20⟩ := Kd.R_slice HO232.out
   (first | subst eo20 | (injection eo20 with f1_ f2_ f3_; have f4_ := f1_.symm; have f5_ := f3_.symm; clear f1_ f2_ f3_; subst f4_; subst f5_))
   obtain ⟨Ao21, co21, eo21⟩ := Kd.R_slice HO229.out
   (first | subst eo21 | (injection eo21 with f1_ f2_ f3_; have f4_ := f1_.symm; have f5_ := f3_.symm; clear f1_ f2_ f3_; subst f4_; subst f5_))
   refine hK.out _ _ trivial (fun hHeld => ?_)
   clear hK K
   refine norm_ (a' := ?_) ?_ ?_
   rotate_left
   ·show Act.put _ (some 17) _ = _
    simp only [Act.put, List.setIfInBounds_toArray, List.set_cons_zero, List.set_cons_succ, i64_w, i32_w]
    rfl
   refine pure_ (i := 6) (N := some 22) (v := ?_) (a' := ?_) #[true, true, true, true, true, true, true, false, false] rfl rfl (any_of HT_.out (by kernel_rfl)) (fun _ _ _ h => h) (Or.inl ⟨by rfl, ?_⟩) ?_ ?_
   rotate_left
   ·intro w'
    go_simp
    with_reducible rfl
   rotate_left
   ·simp only [Act.put, List.setIfInBounds_toArray, List.set_cons_zero, List.set_cons_succ, i64_w, i32_w]
    rfl
   exact norm_ (by simp only [putAll, Act.put, List.setIfInBounds_toArray, List.set_cons_zero, List.set_cons_succ]; try rfl) (hJ1_3_5 (.slice Ao21 y227.length co21, .slice Ao20 y230.length co20, .slice Ao19 y233.length co19) _ ⟨(by (with_reducible repeat (first | apply Kd.R_alloc | apply Kd.R_drewN | apply Kd.R_drew)); exact Kd.R_mono HO229.out (fun _ hk => ⟨hk.1.2, hk.2⟩)), (by (with_reducible repeat (first | apply Kd.R_alloc | apply Kd.R_drewN | apply Kd.R_drew)); exact Kd.R_mono HO232.out (fun _ hk => ⟨hk.2, hk.1⟩)), (by (with_reducible repeat (first | apply Kd.R_alloc | apply Kd.R_drewN | apply Kd.R_drew)); exact Kd.R_mono HO235.out (fun _ hk => ⟨hk.2, hk.1⟩)), BK226.out, HB.out⟩)
  ·refine box_step ?hg (N := 7) ?hd (cs := #[.slice none 0 0, .slice none 0 0, .slice none 0 0, .slice none 0 0]) (t := 79) ?hr ?_; (case hd => rfl); (case hg => rfl); (case hr => first | (go_simp; done) | (go_simp; rfl))
   intro gb236 hg w17 hbox hb
   have n0_ := Aside0.mk (Kd.R_below HO232.out hb)
   have n1_ := Aside0.mk (Kd.R_below HO235.out hb)
   have n2_ := Aside0.mk (blk_below (g := gb226) (o := .cells #[.slice none 0 0, .slice none 0 0, .slice none 0 0, .slice none 0 0] 79 (0, 0)) BK226.out hb)
   have n3_ := Aside0.mk (below_step HB.out hb)
   have n4_ := Aside0.mk (hbox)
   have n5_ := Aside0.mk ((by rw [hg]; exact (below_size HB.out) : w.heap.size ≤ gb236))
   have n6_ := Aside0.mk ((by rw [hg]; exact (below_size HB.out) : w.heap.size ≤ gb236))
   have n7_ := Aside0.mk ((by rw [hg]; exact Nat.ne_of_lt (blk_lt (g := gb226) (o := .cells #[.slice none 0 0, .slice none 0 0, .slice none 0 0, .slice none 0 0] 79 (0, 0)) BK226.out) : gb226 ≠ gb236))
   have n8_ := Aside0.mk ((by rw [hg]; exact Nat.ne_of_gt (blk_lt (g := gb226) (o := .cells #[.slice none 0 0, .slice none 0 0, .slice none 0 0, .slice none 0 0] 79 (0, 0)) BK226.out) : gb236 ≠ gb226))
   clear HO232
   clear HO235
   clear BK226
   clear HB
   have HO232 := n0_
   have HO235 := n1_
   have BK226 := n2_
   have HB := n3_
   have BK236 := n4_
   have GW236 := n5_
   have GE236 := n6_
   have NB226_236 := n7_
   have NB236_226 := n8_
   clear n0_ n1_ n2_ n3_ n4_ n5_ n6_ n7_ n8_
   clear hb hbox hg
   refine hK.out _ _ trivial (fun hHeld => ?_)
   clear hK K
   exact norm_ (by simp only [putAll, Act.put, List.setIfInBounds_toArray, List.set_cons_zero, List.set_cons_succ]; try rfl) (hJ3_5_7 (v231, v234, gb236) _ ⟨HO232.out, HO235.out, BK226.out, BK236.out, GW236.out, GE236.out, NB226_236.out, NB236_226.out, HB.out⟩)
 ·rintro ⟨v228, gb236⟩ w15 ⟨h0_, h1_, h2_, h3_, h4_, h5_, h6_, h7_⟩
  have n0_ : Aside0 (Kd.R (Kd.int .i64) 3 w15 w.heap.size (fun _ => True) v228 y227) := ⟨h0_⟩
  have n1_ : Aside0 (w15.heap[gb226]? = some (.cells #[.slice none 0 0, .slice none 0 0, .slice none 0 0, .slice none 0 0] 79 (0, 0))) := ⟨h1_⟩
  have n2_ : Aside0 (w15.heap[gb236]? = some (.cells #[.slice none 0 0, .slice none 0 0, .slice none 0 0, .slice none 0 0] 79 (0, 0))) := ⟨h2_⟩
  have n3_ : Aside0 (w.heap.size ≤ gb236) := ⟨h3_⟩
  have n4_ : Aside0 (w.heap.size ≤ gb236) := ⟨h4_⟩
  have n5_ : Aside0 (gb226 ≠ gb236) := ⟨h5_⟩
  have n6_ : Aside0 (gb236 ≠ gb226) := ⟨h6_⟩
  have n7_ : Aside0 (Below w.heap.size w w15) := ⟨h7_⟩
  clear BK226
  clear HB
  clear h0_ h1_ h2_ h3_ h4_ h5_ h6_ h7_
  have HO229 := n0_
  have BK226 := n1_
  have BK236 := n2_
  have GW236 := n3_
  have GE236 := n4_
  have NB226_236 := n5_
  have NB236_226 := n6_
  have HB := n7_
  clear n0_ n1_ n2_ n3_ n4_ n5_ n6_ n7_
  have hHeld := trivial
  refine norm_ (a' := ?_) ?_ ?_
  rotate_left
  ·simp only [putAll, Act.put, List.setIfInBounds_toArray, List.set_cons_zero, List.set_cons_succ]
   rfl
  refine two_ (i := 3) (j := 5) (Ni := some 19) (Nj := some 21) #[true, true, true, true, true, false, false, true, false] #[true, true, true, false, true, true, false, true, false] rfl rfl rfl rfl (two_of HT_.out (by kernel_rfl)) (by decide) (by decide) (fun K hK => ?_) (fun K hK => ?_)
  ·refine Kd.R_make_step (Kd.int .i64) _ 3 (by rfl) (N := 19) rfl 25 _ _ rfl a0 rfl rfl Try.underlying25 (.int .i64 0) 8 info3 rfl (by decide) (by omega) 0 (ok := fun _ => True) (okp := fun _ => True) rfl (fun _ hk => hk) trivial (of_decide_eq_true (by assumption)) (Nat.le_trans (Nat.mul_le_mul_right _ (of_decide_eq_true (by assumption) : a0.toNat ≤ 35184372088832)) (by omega)) (Below.refl _ _) (Nat.le_refl _) ?_
   intro v231 w16 ho17 hb hg_ hnew_
   clear hg_ hnew_
   rw [← Ny230.out] at ho17
   have n0_ := Aside0.mk (Kd.R_elder' HO229.out (Kd.R_base ho17) hb)
   have n1_ := Aside0.mk (Kd.R_lower (Kd.R_new' ho17 (Kd.R_lt HO229.out)) (below_size HB.out))
   have n2_ := Aside0.mk (blk_below (g := gb226) (o := .cells #[.slice none 0 0, .slice none 0 0, .slice none 0 0, .slice none 0 0] 79 (0, 0)) BK226.out hb)
   have n3_ := Aside0.mk (blk_below (g := gb236) (o := .cells #[.slice none 0 0, .slice none 0 0, .slice none 0 0, .slice none 0 0] 79 (0, 0)) BK236.out hb)
   have n4_ := Aside0.mk (below_step HB.out hb)
   clear HO229
   clear BK226
   clear BK236
   clear HB
   have HO229 := n0_
   have HO232 := n1_
   have BK226 := n2_
   have BK236 := n3_
   have HB := n4_
   clear n0_ n1_ n2_ n3_ n4_
   clear hb ho17
   refine hK.out _ _ trivial (fun hHeld => ?_)
   clear hK K
   exact norm_ (by simp only [putAll, Act.put, List.setIfInBounds_toArray, List.set_cons_zero, List.set_cons_succ]; try rfl) (hJ1_3_7 (v228, v231, gb236) _ ⟨(by (with_reducible repeat (first | apply Kd.R_alloc | apply Kd.R_drewN | apply Kd.R_drew)); exact Kd.R_mono HO229.out (fun _ hk => hk.2)), (by (with_reducible repeat (first | apply Kd.R_alloc | apply Kd.R_drewN | apply Kd.R_drew)); exact Kd.R_mono HO232.out (fun _ hk => hk.2)), BK226.out, BK236.out, GW236.out, GE236.out, NB226_236.out, NB236_226.out, HB.out⟩)
  ·refine Kd.R_make_step (Kd.int .i64) _ 3 (by rfl) (N := 21) rfl 25 _ _ rfl a0 rfl rfl Try.underlying25 (.int .i64 0) 8 info3 rfl (by decide) (by omega) 0 (ok := fun _ => True) (okp := fun _ => True) rfl (fun _ hk => hk) trivial (of_decide_eq_true (by assumption)) (Nat.le_trans (Nat.mul_le_mul_right _ (of_decide_eq_true (by assumption) : a0.toNat ≤ 35184372088832)) (by omega)) (Below.refl _ _) (Nat.le_refl _) ?_
   intro v234 w16 ho17 hb hg_ hnew_
   clear hg_ hnew_
   rw [← Ny233.out] at ho17
   have n0_ := Aside0.mk (Kd.R_elder' HO229.out (Kd.R_base ho17) hb)
   have n1_ := Aside0.mk (Kd.R_lower (Kd.R_new' ho17 (Kd.R_lt HO229.out)) (below_size HB.out))
   have n2_ := Aside0.mk (blk_below (g := gb226) (o := .cells #[.slice none 0 0, .slice none 0 0, .slice none 0 0, .slice none 0 0] 79 (0, 0)) BK226.out hb)
   have n3_ := Aside0.mk (blk_below (g := gb236) (o := .cells #[.slice none 0 0, .slice none 0 0, .slice none 0 0, .slice none 0 0] 79 (0, 0)) BK236.out hb)
   have n4_ := Aside0.mk (below_step HB.out hb)
   clear HO229
   clear BK226
   clear BK236
   clear HB
   have HO229 := n0_
   have HO235 := n1_
   have BK226 := n2_
   have BK236 := n3_
   have HB := n4_
   clear n0_ n1_ n2_ n3_ n4_
   clear hb ho17
   refine hK.out _ _ trivial (fun hHeld => ?_)
   clear hK K
   exact norm_ (by simp only [putAll, Act.put, List.setIfInBounds_toArray, List.set_cons_zero, List.set_cons_succ]; try rfl) (hJ1_5_7 (v228, v234, gb236) _ ⟨(by (with_reducible repeat (first | apply Kd.R_alloc | apply Kd.R_drewN | apply Kd.R_drew)); exact Kd.R_mono HO229.out (fun _ hk => hk.2)), (by (with_reducible repeat (first | apply Kd.R_alloc | apply Kd.R_drewN | apply Kd.R_drew)); exact Kd.R_mono HO235.out (fun _ hk => hk.2)), BK226.out, BK236.out, GW236.out, GE236.out, NB226_236.out, NB236_226.out, HB.out⟩)
 ·rintro ⟨v228, v234⟩ w16 ⟨h0_, h1_, h2_, h3_⟩
  have n0_ : Aside0 (Kd.R (Kd.int .i64) 3 w16 w.heap.size (fun k_ => some k_ ≠ (v234 : Value).ownBlock) v228 y227) := ⟨h0_⟩
  have n1_ : Aside0 (Kd.R (Kd.int .i64) 3 w16 w.heap.size (fun k_ => some k_ ≠ (v228 : Value).ownBlock) v234 y233) := ⟨h1_⟩
  have n2_ : Aside0 (w16.heap[gb226]? = some (.cells #[.slice none 0 0, .slice none 0 0, .slice none 0 0, .slice none 0 0] 79 (0, 0))) := ⟨h2_⟩
  have n3_ : Aside0 (Below w.heap.size w w16) := ⟨h3_⟩
  clear BK226
  clear HB
  clear h0_ h1_ h2_ h3_
  have HO229 := n0_
  have HO235 := n1_
  have BK226 := n2_
  have HB := n3_
  clear n0_ n1_ n2_ n3_
  have hHeld := trivial
  refine norm_ (a' := ?_) ?_ ?_
  rotate_left
  ·simp only [putAll, Act.put, List.setIfInBounds_toArray, List.set_cons_zero, List.set_cons_succ]
   rfl
  refine two_ (i := 3) (j := 7) (Ni := some 19) (Nj := some 7) #[true, true, true, true, true, true, false, false, false] #[true, true, true, false, true, true, false, true, false] rfl rfl rfl rfl (two_of HT_.out (by kernel_rfl)) (by decide) (by decide) (fun K hK => ?_) (fun K hK => ?_)
  ·refine Kd.R_make_step (Kd.int .i64) _ 3 (by rfl) (N := 19) rfl 25 _ _ rfl a0 rfl rfl Try.underlying25 (.int .i64 0) 8 info3 rfl (by decide) (by omega) 0 (ok := fun _ => True) (okp := fun _ => True) rfl (fun _ hk => hk) trivial (of_decide_eq_true (by assumption)) (Nat.le_trans (Nat.mul_le_mul_right _ (of_decide_eq_true (by assumption) : a0.toNat ≤ 35184372088832)) (by omega)) (Below.refl _ _) (Nat.le_refl _) ?_
   intro v231 w17 ho18 hb hg_ hnew_
   clear hg_ hnew_
   rw [← Ny230.out] at ho18
   have n0_ := Aside0.mk (Kd.R_elder' HO229.out (Kd.R_base ho18) hb)
   have n1_ := Aside0.mk (Kd.R_elder' HO235.out (Kd.R_base ho18) hb)
   have n2_ := Aside0.mk (Kd.R_lower (Kd.R_new' (Kd.R_new' ho18 (Kd.R_lt HO229.out)) (Kd.R_lt HO235.out)) (below_size HB.out))
   have n3_ := Aside0.mk (blk_below (g := gb226) (o := .cells #[.slice none 0 0, .slice none 0 0, .slice none 0 0, .slice none 0 0] 79 (0, 0)) BK226.out hb)
   have n4_ := Aside0.mk (below_step HB.out hb)
   clear HO229
   clear HO235
   clear BK226
   clear HB
   have HO229 := n0_
   have HO235 := n1_
   have HO232 := n2_
   have BK226 := n3_
   have HB := n4_
   clear n0_ n1_ n2_ n3_ n4_
   clear hb ho18
   obtain ⟨Ao19, co19, eo19⟩ := Kd.R_slice HO235.out
   (first | subst eo19 | (injection eo19 with f1_ f2_ f3_; have f4_ := f1_.symm; have f5_ := f3_.symm; clear f1_ f2_ f3_; subst f4_; subst f5_))
   obtain ⟨Ao20, co20, eo20⟩ := Kd.R_slice HO232.out
   (first | subst eo20 | (injection eo20 with f1_ f2_ f3_; have f4_ := f1_.symm; have f5_ := f3_.symm; clear f1_ f2_ f3_; subst f4_; subst f5_))
   obtain ⟨Ao21, co21, eo21⟩ := Kd.R_slice HO229.out
   (first | subst eo21 | (injection eo21 with f1_ f2_ f3_; have f4_ := f1_.symm; have f5_ := f3_.symm; clear f1_ f2_ f3_; subst f4_; subst f5_))
   refine hK.out _ _ trivial (fun hHeld => ?_)
   clear hK K
   refine norm_ (a' := ?_) ?_ ?_
   rotate_left
   ·show Act.put _ (some 19) _ = _
    simp only [Act.put, List.setIfInBounds_toArray, List.set_cons_zero, List.set_cons_succ, i64_w, i32_w]
    rfl
   refine pure_ (i := 6) (N := some 22) (v := ?_) (a' := ?_) #[true, true, true, true, true, true, true, false, false] rfl rfl (any_of HT_.out (by kernel_rfl)) (fun _ _ _ h => h) (Or.inl ⟨by rfl, ?_⟩) ?_ ?_
   rotate_left
   ·intro w'
    go_simp
    with_reducible rfl
   rotate_left
   ·simp only [Act.put, List.setIfInBounds_toArray, List.set_cons_zero, List.set_cons_succ, i64_w, i32_w]
    rfl
   exact norm_ (by simp only [putAll, Act.put, List.setIfInBounds_toArray, List.set_cons_zero, List.set_cons_succ]; try rfl) (hJ1_3_5 (.slice Ao21 y227.length co21, .slice Ao20 y230.length co20, .slice Ao19 y233.length co19) _ ⟨(by (with_reducible repeat (first | apply Kd.R_alloc | apply Kd.R_drewN | apply Kd.R_drew)); exact Kd.R_mono HO229.out (fun _ hk => ⟨hk.2, hk.1⟩)), (by (with_reducible repeat (first | apply Kd.R_alloc | apply Kd.R_drewN | apply Kd.R_drew)); exact Kd.R_mono HO232.out (fun _ hk => ⟨hk.1.2, hk.2⟩)), HO235.out, BK226.out, HB.out⟩)
  ·refine box_step ?hg (N := 7) ?hd (cs := #[.slice none 0 0, .slice none 0 0, .slice none 0 0, .slice none 0 0]) (t := 79) ?hr ?_; (case hd => rfl); (case hg => rfl); (case hr => first | (go_simp; done) | (go_simp; rfl))
   intro gb236 hg w17 hbox hb
   have n0_ := Aside0.mk (Kd.R_below HO229.out hb)
   have n1_ := Aside0.mk (Kd.R_below HO235.out hb)
   have n2_ := Aside0.mk (blk_below (g := gb226) (o := .cells #[.slice none 0 0, .slice none 0 0, .slice none 0 0, .slice none 0 0] 79 (0, 0)) BK226.out hb)
   have n3_ := Aside0.mk (below_step HB.out hb)
   have n4_ := Aside0.mk (hbox)
   have n5_ := Aside0.mk ((by rw [hg]; exact (below_size HB.out) : w.heap.size ≤ gb236))
   have n6_ := Aside0.mk ((by rw [hg]; exact (below_size HB.out) : w.heap.size ≤ gb236))
   have n7_ := Aside0.mk ((by rw [hg]; exact Nat.ne_of_lt (blk_lt (g := gb226) (o := .cells #[.slice none 0 0, .slice none 0 0, .slice none 0 0, .slice none 0 0] 79 (0, 0)) BK226.out) : gb226 ≠ gb236))
   have n8_ := Aside0.mk ((by rw [hg]; exact Nat.ne_of_gt (blk_lt (g := gb226) (o := .cells #[.slice none 0 0, .slice none 0 0, .slice none 0 0, .slice none 0 0] 79 (0, 0)) BK226.out) : gb236 ≠ gb226))
   clear HO229
   clear HO235
   clear BK226
   clear HB
   have HO229 := n0_
   have HO235 := n1_
   have BK226 := n2_
   have HB := n3_
   have BK236 := n4_
   have GW236 := n5_
   have GE236 := n6_
   have NB226_236 := n7_
   have NB236_226 := n8_
   clear n0_ n1_ n2_ n3_ n4_ n5_ n6_ n7_ n8_
   clear hb hbox hg
   refine hK.out _ _ trivial (fun hHeld => ?_)
   clear hK K
   exact norm_ (by simp only [putAll, Act.put, List.setIfInBounds_toArray, List.set_cons_zero, List.set_cons_succ]; try rfl) (hJ1_5_7 (v228, v234, gb236) _ ⟨HO229.out, HO235.out, BK226.out, BK236.out, GW236.out, GE236.out, NB226_236.out, NB236_226.out, HB.out⟩)
 ·rintro ⟨v228, v231⟩ w16 ⟨h0_, h1_, h2_, h3_⟩
  have n0_ : Aside0 (Kd.R (Kd.int .i64) 3 w16 w.heap.size (fun k_ => some k_ ≠ (v231 : Value).ownBlock) v228 y227) := ⟨h0_⟩
  have n1_ : Aside0 (Kd.R (Kd.int .i64) 3 w16 w.heap.size (fun k_ => some k_ ≠ (v228 : Value).ownBlock) v231 y230) := ⟨h1_⟩
  have n2_ : Aside0 (w16.heap[gb226]? = some (.cells #[.slice none 0 0, .slice none 0 0, .slice none 0 0, .slice none 0 0] 79 (0, 0))) := ⟨h2_⟩
  have n3_ : Aside0 (Below w.heap.size w w16) := ⟨h3_⟩
  clear BK226
  clear HB
  clear h0_ h1_ h2_ h3_
  have HO229 := n0_
  have HO232 := n1_
  have BK226 := n2_
  have HB := n3_
  clear n0_ n1_ n2_ n3_
  have hHeld := trivial
  refine norm_ (a' := ?_) ?_ ?_
  rotate_left
  ·simp only [putAll, Act.put, List.setIfInBounds_toArray, List.set_cons_zero, List.set_cons_succ]
   rfl
  refine two_ (i := 5) (j := 7) (Ni := some 21) (Nj := some 7) #[true, true, true, true, true, true, false, false, false] #[true, true, true, true, true, false, false, true, false] rfl rfl rfl rfl (two_of HT_.out (by kernel_rfl)) (by decide) (by decide) (fun K hK => ?_) (fun K hK => ?_)
  ·refine Kd.R_make_step (Kd.int .i64) _ 3 (by rfl) (N := 21) rfl 25 _ _ rfl a0 rfl rfl Try.underlying25 (.int .i64 0) 8 info3 rfl (by decide) (by omega) 0 (ok := fun _ => True) (okp := fun _ => True) rfl (fun _ hk => hk) trivial (of_decide_eq_true (by assumption)) (Nat.le_trans (Nat.mul_le_mul_right _ (of_decide_eq_true (by assumption) : a0.toNat ≤ 35184372088832)) (by omega)) (Below.refl _ _) (Nat.le_refl _) ?_
   intro v234 w17 ho18 hb hg_ hnew_
   clear hg_ hnew_
   rw [← Ny233.out] at ho18
   have n0_ := Aside0.mk (Kd.R_elder' HO229.out (Kd.R_base ho18) hb)
   have n1_ := Aside0.mk (Kd.R_elder' HO232.out (Kd.R_base ho18) hb)
   have n2_ := Aside0.mk (Kd.R_lower (Kd.R_new' (Kd.R_new' ho18 (Kd.R_lt HO229.out)) (Kd.R_lt HO232.out)) (below_size HB.out))
   have n3_ := Aside0.mk (blk_below (g := gb226) (o := .cells #[.slice none 0 0, .slice none 0 0, .slice none 0 0, .slice none 0 0] 79 (0, 0)) BK226.out hb)
   have n4_ := Aside0.mk (below_step HB.out hb)
   clear HO229
   clear HO232
   clear BK226
   clear HB
   have HO229 := n0_
   have HO232 := n1_
   have HO235 := n2_
   have BK226 := n3_
   have HB := n4_
   clear n0_ n1_ n2_ n3_ n4_
   clear hb ho18
   obtain ⟨Ao19, co19, eo19⟩ := Kd.R_slice HO235.out
   (first | subst eo19 | (injection eo19 with f1_ f2_ f3_; have f4_ := f1_.symm; have f5_ := f3_.symm; clear f1_ f2_ f3_; subst f4_; subst f5_))
   obtain ⟨Ao20, co20, eo20⟩ := Kd.R_slice HO232.out
   (first | subst eo20 | (injection eo20 with f1_ f2_ f3_; have f4_ := f1_.symm; have f5_ := f3_.symm; clear f1_ f2_ f3_; subst f4_; subst f5_))
   obtain ⟨Ao21, co21, eo21⟩ := Kd.R_slice HO229.out
   (first | subst eo21 | (injection eo21 with f1_ f2_ f3_; have f4_ := f1_.symm; have f5_ := f3_.symm; clear f1_ f2_ f3_; subst f4_; subst f5_))
   refine hK.out _ _ trivial (fun hHeld => ?_)
   clear hK K
   refine norm_ (a' := ?_) ?_ ?_
   rotate_left
   ·show Act.put _ (some 21) _ = _
    simp only [Act.put, List.setIfInBounds_toArray, List.set_cons_zero, List.set_cons_succ, i64_w, i32_w]
    rfl
   refine pure_ (i := 6) (N := some 22) (v := ?_) (a' := ?_) #[true, true, true, true, true, true, true, false, false] rfl rfl (any_of HT_.out (by kernel_rfl)) (fun _ _ _ h => h) (Or.inl ⟨by rfl, ?_⟩) ?_ ?_
   rotate_left
   ·intro w'
    go_simp
    with_reducible rfl
   rotate_left
   ·simp only [Act.put, List.setIfInBounds_toArray, List.set_cons_zero, List.set_cons_succ, i64_w, i32_w]
    rfl
   exact norm_ (by simp only [putAll, Act.put, List.setIfInBounds_toArray, List.set_cons_zero, List.set_cons_succ]; try rfl) (hJ1_3_5 (.slice Ao21 y227.length co21, .slice Ao20 y230.length co20, .slice Ao19 y233.length co19) _ ⟨HO229.out, HO232.out, (by (with_reducible repeat (first | apply Kd.R_alloc | apply Kd.R_drewN | apply Kd.R_drew)); exact Kd.R_mono HO235.out (fun _ hk => ⟨hk.1.2, hk.2⟩)), BK226.out, HB.out⟩)
  ·refine box_step ?hg (N := 7) ?hd (cs := #[.slice none 0 0, .slice none 0 0, .slice none 0 0, .slice none 0 0]) (t := 79) ?hr ?_; (case hd => rfl); (case hg => rfl); (case hr => first | (go_simp; done) | (go_simp; rfl))
   intro gb236 hg w17 hbox hb
   have n0_ := Aside0.mk (Kd.R_below HO229.out hb)
   have n1_ := Aside0.mk (Kd.R_below HO232.out hb)
   have n2_ := Aside0.mk (blk_below (g := gb226) (o := .cells #[.slice none 0 0, .slice none 0 0, .slice none 0 0, .slice none 0 0] 79 (0, 0)) BK226.out hb)
   have n3_ := Aside0.mk (below_step HB.out hb)
   have n4_ := Aside0.mk (hbox)
   have n5_ := Aside0.mk ((by rw [hg]; exact (below_size HB.out) : w.heap.size ≤ gb236))
   have n6_ := Aside0.mk ((by rw [hg]; exact (below_size HB.out) : w.heap.size ≤ gb236))
   have n7_ := Aside0.mk ((by rw [hg]; exact Nat.ne_of_lt (blk_lt (g := gb226) (o := .cells #[.slice none 0 0, .slice none 0 0, .slice none 0 0, .slice none 0 0] 79 (0, 0)) BK226.out) : gb226 ≠ gb236))
   have n8_ := Aside0.mk ((by rw [hg]; exact Nat.ne_of_gt (blk_lt (g := gb226) (o := .cells #[.slice none 0 0, .slice none 0 0, .slice none 0 0, .slice none 0 0] 79 (0, 0)) BK226.out) : gb236 ≠ gb226))
   clear HO229
   clear HO232
   clear BK226
   clear HB
   have HO229 := n0_
   have HO232 := n1_
   have BK226 := n2_
   have HB := n3_
   have BK236 := n4_
   have GW236 := n5_
   have GE236 := n6_
   have NB226_236 := n7_
   have NB236_226 := n8_
   clear n0_ n1_ n2_ n3_ n4_ n5_ n6_ n7_ n8_
   clear hb hbox hg
   refine hK.out _ _ trivial (fun hHeld => ?_)
   clear hK K
   exact norm_ (by simp only [putAll, Act.put, List.setIfInBounds_toArray, List.set_cons_zero, List.set_cons_succ]; try rfl) (hJ1_3_7 (v228, v231, gb236) _ ⟨HO229.out, HO232.out, BK226.out, BK236.out, GW236.out, GE236.out, NB226_236.out, NB236_226.out, HB.out⟩)
 ·rintro ⟨v231, v234, gb236⟩ w17 ⟨h0_, h1_, h2_, h3_, h4_, h5_, h6_, h7_, h8_⟩
  have n0_ : Aside0 (Kd.R (Kd.int .i64) 3 w17 w.heap.size (fun k_ => some k_ ≠ (v234 : Value).ownBlock) v231 y230) := ⟨h0_⟩
  have n1_ : Aside0 (Kd.R (Kd.int .i64) 3 w17 w.heap.size (fun k_ => some k_ ≠ (v231 : Value).ownBlock) v234 y233) := ⟨h1_⟩
  have n2_ : Aside0 (w17.heap[gb226]? = some (.cells #[.slice none 0 0, .slice none 0 0, .slice none 0 0, .slice none 0 0] 79 (0, 0))) := ⟨h2_⟩
  have n3_ : Aside0 (w17.heap[gb236]? = some (.cells #[.slice none 0 0, .slice none 0 0, .slice none 0 0, .slice none 0 0] 79 (0, 0))) := ⟨h3_⟩
  have n4_ : Aside0 (w.heap.size ≤ gb236) := ⟨h4_⟩
  have n5_ : Aside0 (w.heap.size ≤ gb236) := ⟨h5_⟩
  have n6_ : Aside0 (gb226 ≠ gb236) := ⟨h6_⟩
  have n7_ : Aside0 (gb236 ≠ gb226) := ⟨h7_⟩
  have n8_ : Aside0 (Below w.heap.size w w17) := ⟨h8_⟩
  clear BK226
  clear HB
  clear h0_ h1_ h2_ h3_ h4_ h5_ h6_ h7_ h8_
  have HO232 := n0_
  have HO235 := n1_
  have BK226 := n2_
  have BK236 := n3_
  have GW236 := n4_
  have GE236 := n5_
  have NB226_236 := n6_
  have NB236_226 := n7_
  have HB := n8_
  clear n0_ n1_ n2_ n3_ n4_ n5_ n6_ n7_ n8_
  have hHeld := trivial
  refine norm_ (a' := ?_) ?_ ?_
  rotate_left
  ·simp only [putAll, Act.put, List.setIfInBounds_toArray, List.set_cons_zero, List.set_cons_succ]
   rfl
  refine one_ (i := 1) (N := some 17) #[true, true, true, true, true, true, false, true, false] rfl rfl (one_of HT_.out (by kernel_rfl)) (by decide) (fun K hK => ?_)
  refine Kd.R_make_step (Kd.int .i64) _ 3 (by rfl) (N := 17) rfl 25 _ _ rfl a0 rfl rfl Try.underlying25 (.int .i64 0) 8 info3 rfl (by decide) (by omega) 0 (ok := fun _ => True) (okp := fun _ => True) rfl (fun _ hk => hk) trivial (of_decide_eq_true (by assumption)) (Nat.le_trans (Nat.mul_le_mul_right _ (of_decide_eq_true (by assumption) : a0.toNat ≤ 35184372088832)) (by omega)) (Below.refl _ _) (Nat.le_refl _) ?_
  intro v228 w18 ho19 hb hg_ hnew_
  clear hg_ hnew_
  rw [← Ny227.out] at ho19
  have n0_ := Aside0.mk (Kd.R_elder' HO232.out (Kd.R_base ho19) hb)
  have n1_ := Aside0.mk (Kd.R_elder' HO235.out (Kd.R_base ho19) hb)
  have n2_ := Aside0.mk (Kd.R_lower (Kd.R_new' (Kd.R_new' ho19 (Kd.R_lt HO232.out)) (Kd.R_lt HO235.out)) (below_size HB.out))
  have n3_ := Aside0.mk (blk_below (g := gb226) (o := .cells #[.slice none 0 0, .slice none 0 0, .slice none 0 0, .slice none 0 0] 79 (0, 0)) BK226.out hb)
  have n4_ := Aside0.mk (blk_below (g := gb236) (o := .cells #[.slice none 0 0, .slice none 0 0, .slice none 0 0, .slice none 0 0] 79 (0, 0)) BK236.out hb)
  have n5_ := Aside0.mk (below_step HB.out hb)
  clear HO232
  clear HO235
  clear BK226
  clear BK236
  clear HB
  have HO232 := n0_
  have HO235 := n1_
  have HO229 := n2_
  have BK226 := n3_
  have BK236 := n4_
  have HB := n5_
  clear n0_ n1_ n2_ n3_ n4_ n5_
  clear hb ho19
  obtain ⟨Ao20, co20, eo20⟩ := Kd.R_slice HO235.out
  (first | subst eo20 | (injection eo20 with f1_ f2_ f3_; have f4_ := f1_.symm; have f5_ := f3_.symm; clear f1_ f2_ f3_; subst f4_; subst f5_))
  obtain ⟨Ao21, co21, eo21⟩ := Kd.R_slice HO232.out
  (first | subst eo21 | (injection eo21 with f1_ f2_ f3_; have f4_ := f1_.symm; have f5_ := f3_.symm; clear f1_ f2_ f3_; subst f4_; subst f5_))
  obtain ⟨Ao22, co22, eo22⟩ := Kd.R_slice HO229.out
  (first | subst eo22 | (injection eo22 with f1_ f2_ f3_; have f4_ := f1_.symm; have f5_ := f3_.symm; clear f1_ f2_ f3_; subst f4_; subst f5_))
  refine hK.out _ _ trivial (fun hHeld => ?_)
  clear hK K
  refine norm_ (a' := ?_) ?_ ?_
  rotate_left
  ·show Act.put _ (some 17) _ = _
   simp only [Act.put, List.setIfInBounds_toArray, List.set_cons_zero, List.set_cons_succ, i64_w, i32_w]
   rfl
  refine pure_ (i := 6) (N := some 22) (v := ?_) (a' := ?_) #[true, true, true, true, true, true, true, true, false] rfl rfl (any_of HT_.out (by kernel_rfl)) (fun _ _ _ h => h) (Or.inl ⟨by rfl, ?_⟩) ?_ ?_
  rotate_left
  ·intro w'
   go_simp
   with_reducible rfl
  rotate_left
  ·simp only [Act.put, List.setIfInBounds_toArray, List.set_cons_zero, List.set_cons_succ, i64_w, i32_w]
   rfl
  exact norm_ (by simp only [putAll, Act.put, List.setIfInBounds_toArray, List.set_cons_zero, List.set_cons_succ]; try rfl) (hJ1_3_5_7 (.slice Ao22 y227.length co22, .slice Ao21 y230.length co21, .slice Ao20 y233.length co20, gb236) _ ⟨(by (with_reducible repeat (first | apply Kd.R_alloc | apply Kd.R_drewN | apply Kd.R_drew)); exact Kd.R_mono HO229.out (fun _ hk => ⟨hk.1.2, hk.2⟩)), (by (with_reducible repeat (first | apply Kd.R_alloc | apply Kd.R_drewN | apply Kd.R_drew)); exact Kd.R_mono HO232.out (fun _ hk => ⟨hk.2, hk.1⟩)), (by (with_reducible repeat (first | apply Kd.R_alloc | apply Kd.R_drewN | apply Kd.R_drew)); exact Kd.R_mono HO235.out (fun _ hk => ⟨hk.2, hk.1⟩)), BK226.out, BK236.out, GW236.out, GE236.out, NB226_236.out, NB236_226.out, HB.out⟩)
 ·rintro ⟨v228, v234, gb236⟩ w17 ⟨h0_, h1_, h2_, h3_, h4_, h5_, h6_, h7_, h8_⟩
  have n0_ : Aside0 (Kd.R (Kd.int .i64) 3 w17 w.heap.size (fun k_ => some k_ ≠ (v234 : Value).ownBlock) v228 y227) := ⟨h0_⟩
  have n1_ : Aside0 (Kd.R (Kd.int .i64) 3 w17 w.heap.size (fun k_ => some k_ ≠ (v228 : Value).ownBlock) v234 y233) := ⟨h1_⟩
  have n2_ : Aside0 (w17.heap[gb226]? = some (.cells #[.slice none 0 0, .slice none 0 0, .slice none 0 0, .slice none 0 0] 79 (0, 0))) := ⟨h2_⟩
  have n3_ : Aside0 (w17.heap[gb236]? = some (.cells #[.slice none 0 0, .slice none 0 0, .slice none 0 0, .slice none 0 0] 79 (0, 0))) := ⟨h3_⟩
  have n4_ : Aside0 (w.heap.size ≤ gb236) := ⟨h4_⟩
  have n5_ : Aside0 (w.heap.size ≤ gb236) := ⟨h5_⟩
  have n6_ : Aside0 (gb226 ≠ gb236) := ⟨h6_⟩
  have n7_ : Aside0 (gb236 ≠ gb226) := ⟨h7_⟩
  have n8_ : Aside0 (Below w.heap.size w w17) := ⟨h8_⟩
  clear BK226
  clear HB
  clear h0_ h1_ h2_ h3_ h4_ h5_ h6_ h7_ h8_
  have HO229 := n0_
  have HO235 := n1_
  have BK226 := n2_
  have BK236 := n3_
  have GW236 := n4_
  have GE236 := n5_
  have NB226_236 := n6_
  have NB236_226 := n7_
  have HB := n8_
  clear n0_ n1_ n2_ n3_ n4_ n5_ n6_ n7_ n8_
  have hHeld := trivial
  refine norm_ (a' := ?_) ?_ ?_
  rotate_left
  ·simp only [putAll, Act.put, List.setIfInBounds_toArray, List.set_cons_zero, List.set_cons_succ]
   rfl
  refine one_ (i := 3) (N := some 19) #[true, true, true, true, true, true, false, true, false] rfl rfl (one_of HT_.out (by kernel_rfl)) (by decide) (fun K hK => ?_)
  refine Kd.R_make_step (Kd.int .i64) _ 3 (by rfl) (N := 19) rfl 25 _ _ rfl a0 rfl rfl Try.underlying25 (.int .i64 0) 8 info3 rfl (by decide) (by omega) 0 (ok := fun _ => True) (okp := fun _ => True) rfl (fun _ hk => hk) trivial (of_decide_eq_true (by assumption)) (Nat.le_trans (Nat.mul_le_mul_right _ (of_decide_eq_true (by assumption) : a0.toNat ≤ 35184372088832)) (by omega)) (Below.refl _ _) (Nat.le_refl _) ?_
  intro v231 w18 ho19 hb hg_ hnew_
  clear hg_ hnew_
  rw [← Ny230.out] at ho19
  have n0_ := Aside0.mk (Kd.R_elder' HO229.out (Kd.R_base ho19) hb)
  have n1_ := Aside0.mk (Kd.R_elder' HO235.out (Kd.R_base ho19) hb)
  have n2_ := Aside0.mk (Kd.R_lower (Kd.R_new' (Kd.R_new' ho19 (Kd.R_lt HO229.out)) (Kd.R_lt HO235.out)) (below_size HB.out))
  have n3_ := Aside0.mk (blk_below (g := gb226) (o := .cells #[.slice none 0 0, .slice none 0 0, .slice none 0 0, .slice none 0 0] 79 (0, 0)) BK226.out hb)
  have n4_ := Aside0.mk (blk_below (g := gb236) (o := .cells #[.slice none 0 0, .slice none 0 0, .slice none 0 0, .slice none 0 0] 79 (0, 0)) BK236.out hb)
  have n5_ := Aside0.mk (below_step HB.out hb)
  clear HO229
  clear HO235
  clear BK226
  clear BK236
  clear HB
  have HO229 := n0_
  have HO235 := n1_
  have HO232 := n2_
  have BK226 := n3_
  have BK236 := n4_
  have HB := n5_
  clear n0_ n1_ n2_ n3_ n4_ n5_
  clear hb ho19
  obtain ⟨Ao20, co20, eo20⟩ := Kd.R_slice HO235.out
  (first | subst eo20 | (injection eo20 with f1_ f2_ f3_; have f4_ := f1_.symm; have f5_ := f3_.symm; clear f1_ f2_ f3_; subst f4_; subst f5_))
  obtain ⟨Ao21, co21, eo21⟩ := Kd.R_slice HO232.out
  (first | subst eo21 | (injection eo21 with f1_ f2_ f3_; have f4_ := f1_.symm; have f5_ := f3_.symm; clear f1_ f2_ f3_; subst f4_; subst f5_))
  obtain ⟨Ao22, co22, eo22⟩ := Kd.R_slice HO229.out
  (first | subst eo22 | (injection eo22 with f1_ f2_ f3_; have f4_ := f1_.symm; have f5_ := f3_.symm; clear f1_ f2_ f3_; subst f4_; subst f5_))
  refine hK.out _ _ trivial (fun hHeld => ?_)
  clear hK K
  refine norm_ (a' := ?_) ?_ ?_
  rotate_left
  ·show Act.put _ (some 19) _ = _
   simp only [Act.put, List.setIfInBounds_toArray, List.set_cons_zero, List.set_cons_succ, i64_w, i32_w]
   rfl
  refine pure_ (i := 6) (N := some 22) (v := ?_) (a' := ?_) #[true, true, true, true, true, true, true, true, false] rfl rfl (any_of HT_.out (by kernel_rfl)) (fun _ _ _ h => h) (Or.inl ⟨by rfl, ?_⟩) ?_ ?_
  rotate_left
  ·intro w'
   go_simp
   with_reducible rfl
  rotate_left
  ·simp only [Act.put, List.setIfInBounds_toArray, List.set_cons_zero, List.set_cons_succ, i64_w, i32_w]
   rfl
  exact norm_ (by simp only [putAll, Act.put, List.setIfInBounds_toArray, List.set_cons_zero, List.set_cons_succ]; try rfl) (hJ1_3_5_7 (.slice Ao22 y227.length co22, .slice Ao21 y230.length co21, .slice Ao20 y233.length co20, gb236) _ ⟨(by (with_reducible repeat (first | apply Kd.R_alloc | apply Kd.R_drewN | apply Kd.R_drew)); exact Kd.R_mono HO229.out (fun _ hk => ⟨hk.2, hk.1⟩)), (by (with_reducible repeat (first | apply Kd.R_alloc | apply Kd.R_drewN | apply Kd.R_drew)); exact Kd.R_mono HO232.out (fun _ hk => ⟨hk.1.2, hk.2⟩)), HO235.out, BK226.out, BK236.out, GW236.out, GE236.out, NB226_236.out, NB236_226.out, HB.out⟩)
 ·rintro ⟨v228, v231, gb236⟩ w17 ⟨h0_, h1_, h2_, h3_, h4_, h5_, h6_, h7_, h8_⟩
  have n0_ : Aside0 (Kd.R (Kd.int .i64) 3 w17 w.heap.size (fun k_ => some k_ ≠ (v231 : Value).ownBlock) v228 y227) := ⟨h0_⟩
  have n1_ : Aside0 (Kd.R (Kd.int .i64) 3 w17 w.heap.size (fun k_ => some k_ ≠ (v228 : Value).ownBlock) v231 y230) := ⟨h1_⟩
  have n2_ : Aside0 (w17.heap[gb226]? = some (.cells #[.slice none 0 0, .slice none 0 0, .slice none 0 0, .slice none 0 0] 79 (0, 0))) := ⟨h2_⟩
  have n3_ : Aside0 (w17.heap[gb236]? = some (.cells #[.slice none 0 0, .slice none 0 0, .slice none 0 0, .slice none 0 0] 79 (0, 0))) := ⟨h3_⟩
  have n4_ : Aside0 (w.heap.size ≤ gb236) := ⟨h4_⟩
  have n5_ : Aside0 (w.heap.size ≤ gb236) := ⟨h5_⟩
  have n6_ : Aside0 (gb226 ≠ gb236) := ⟨h6_⟩
  have n7_ : Aside0 (gb236 ≠ gb226) := ⟨h7_⟩
  have n8_ : Aside0 (Below w.heap.size w w17) := ⟨h8_⟩
  clear BK226
  clear HB
  clear h0_ h1_ h2_ h3_ h4_ h5_ h6_ h7_ h8_
  have HO229 := n0_
  have HO232 := n1_
  have BK226 := n2_
  have BK236 := n3_
  have GW236 := n4_
  have GE236 := n5_
  have NB226_236 := n6_
  have NB236_226 := n7_
  have HB := n8_
  clear n0_ n1_ n2_ n3_ n4_ n5_ n6_ n7_ n8_
  have hHeld := trivial
  refine norm_ (a' := ?_) ?_ ?_
  rotate_left
  ·simp only [putAll, Act.put, List.setIfInBounds_toArray, List.set_cons_zero, List.set_cons_succ]
   rfl
  refine one_ (i := 5) (N := some 21) #[true, true, true, true, true, true, false, true, false] rfl rfl (one_of HT_.out (by kernel_rfl)) (by decide) (fun K hK => ?_)
  refine Kd.R_make_step (Kd.int .i64) _ 3 (by rfl) (N := 21) rfl 25 _ _ rfl a0 rfl rfl Try.underlying25 (.int .i64 0) 8 info3 rfl (by decide) (by omega) 0 (ok := fun _ => True) (okp := fun _ => True) rfl (fun _ hk => hk) trivial (of_decide_eq_true (by assumption)) (Nat.le_trans (Nat.mul_le_mul_right _ (of_decide_eq_true (by assumption) : a0.toNat ≤ 35184372088832)) (by omega)) (Below.refl _ _) (Nat.le_refl _) ?_
  intro v234 w18 ho19 hb hg_ hnew_
  clear hg_ hnew_
  rw [← Ny233.out] at ho19
  have n0_ := Aside0.mk (Kd.R_elder' HO229.out (Kd.R_base ho19) hb)
  have n1_ := Aside0.mk (Kd.R_elder' HO232.out (Kd.R_base ho19) hb)
  have n2_ := Aside0.mk (Kd.R_lower (Kd.R_new' (Kd.R_new' ho19 (Kd.R_lt HO229.out)) (Kd.R_lt HO232.out)) (below_size HB.out))
  have n3_ := Aside0.mk (blk_below (g := gb226) (o := .cells #[.slice none 0 0, .slice none 0 0, .slice none 0 0, .slice none 0 0] 79 (0, 0)) BK226.out hb)
  have n4_ := Aside0.mk (blk_below (g := gb236) (o := .cells #[.slice none 0 0, .slice none 0 0, .slice none 0 0, .slice none 0 0] 79 (0, 0)) BK236.out hb)
  have n5_ := Aside0.mk (below_step HB.out hb)
  clear HO229
  clear HO232
  clear BK226
  clear BK236
  clear HB
  have HO229 := n0_
  have HO232 := n1_
  have HO235 := n2_
  have BK226 := n3_
  have BK236 := n4_
  have HB := n5_
  clear n0_ n1_ n2_ n3_ n4_ n5_
  clear hb ho19
  obtain ⟨Ao20, co20, eo20⟩ := Kd.R_slice HO235.out
  (first | subst eo20 | (injection eo20 with f1_ f2_ f3_; have f4_ := f1_.symm; have f5_ := f3_.symm; clear f1_ f2_ f3_; subst f4_; subst f5_))
  obtain ⟨Ao21, co21, eo21⟩ := Kd.R_slice HO232.out
  (first | subst eo21 | (injection eo21 with f1_ f2_ f3_; have f4_ := f1_.symm; have f5_ := f3_.symm; clear f1_ f2_ f3_; subst f4_; subst f5_))
  obtain ⟨Ao22, co22, eo22⟩ := Kd.R_slice HO229.out
  (first | subst eo22 | (injection eo22 with f1_ f2_ f3_; have f4_ := f1_.symm; have f5_ := f3_.symm; clear f1_ f2_ f3_; subst f4_; subst f5_))
  refine hK.out _ _ trivial (fun hHeld => ?_)
  clear hK K
  refine norm_ (a' := ?_) ?_ ?_
  rotate_left
  ·show Act.put _ (some 21) _ = _
   simp only [Act.put, List.setIfInBounds_toArray, List.set_cons_zero, List.set_cons_succ, i64_w, i32_w]
   rfl
  refine pure_ (i := 6) (N := some 22) (v := ?_) (a' := ?_) #[true, true, true, true, true, true, true, true, false] rfl rfl (any_of HT_.out (by kernel_rfl)) (fun _ _ _ h => h) (Or.inl ⟨by rfl, ?_⟩) ?_ ?_
  rotate_left
  ·intro w'
   go_simp
   with_reducible rfl
  rotate_left
  ·simp only [Act.put, List.setIfInBounds_toArray, List.set_cons_zero, List.set_cons_succ, i64_w, i32_w]
   rfl
  exact norm_ (by simp only [putAll, Act.put, List.setIfInBounds_toArray, List.set_cons_zero, List.set_cons_succ]; try rfl) (hJ1_3_5_7 (.slice Ao22 y227.length co22, .slice Ao21 y230.length co21, .slice Ao20 y233.length co20, gb236) _ ⟨HO229.out, HO232.out, (by (with_reducible repeat (first | apply Kd.R_alloc | apply Kd.R_drewN | apply Kd.R_drew)); exact Kd.R_mono HO235.out (fun _ hk => ⟨hk.1.2, hk.2⟩)), BK226.out, BK236.out, GW236.out, GE236.out, NB226_236.out, NB236_226.out, HB.out⟩)
 ·rintro ⟨v228, v231, v234⟩ w21 ⟨h0_, h1_, h2_, h3_, h4_⟩
  have n0_ : Aside0 (Kd.R (Kd.int .i64) 3 w21 w.heap.size (fun k_ => some k_ ≠ (v231 : Value).ownBlock ∧ some k_ ≠ (v234 : Value).ownBlock) v228 y227) := ⟨h0_⟩
  have n1_ : Aside0 (Kd.R (Kd.int .i64) 3 w21 w.heap.size (fun k_ => some k_ ≠ (v228 : Value).ownBlock ∧ some k_ ≠ (v234 : Value).ownBlock) v231 y230) := ⟨h1_⟩
  have n2_ : Aside0 (Kd.R (Kd.int .i64) 3 w21 w.heap.size (fun k_ => some k_ ≠ (v228 : Value).ownBlock ∧ some k_ ≠ (v231 : Value).ownBlock) v234 y233) := ⟨h2_⟩
  have n3_ : Aside0 (w21.heap[gb226]? = some (.cells #[.slice none 0 0, .slice none 0 0, .slice none 0 0, .slice none 0 0] 79 (0, 0))) := ⟨h3_⟩
  have n4_ : Aside0 (Below w.heap.size w w21) := ⟨h4_⟩
  clear BK226
  clear HB
  clear h0_ h1_ h2_ h3_ h4_
  have HO229 := n0_
  have HO232 := n1_
  have HO235 := n2_
  have BK226 := n3_
  have HB := n4_
  clear n0_ n1_ n2_ n3_ n4_
  have hHeld := trivial
  obtain ⟨Ao22, co22, eo22⟩ := Kd.R_slice HO235.out
  (first | subst eo22 | (injection eo22 with f1_ f2_ f3_; have f4_ := f1_.symm; have f5_ := f3_.symm; clear f1_ f2_ f3_; subst f4_; subst f5_))
  obtain ⟨Ao23, co23, eo23⟩ := Kd.R_slice HO232.out
  (first | subst eo23 | (injection eo23 with f1_ f2_ f3_; have f4_ := f1_.symm; have f5_ := f3_.symm; clear f1_ f2_ f3_; subst f4_; subst f5_))
  obtain ⟨Ao24, co24, eo24⟩ := Kd.R_slice HO229.out
  (first | subst eo24 | (injection eo24 with f1_ f2_ f3_; have f4_ := f1_.symm; have f5_ := f3_.symm; clear f1_ f2_ f3_; subst f4_; subst f5_))
  refine norm_ (a' := ?_) ?_ ?_
  rotate_left
  ·simp only [putAll, Act.put, List.setIfInBounds_toArray, List.set_cons_zero, List.set_cons_succ]
   rfl
  refine one_ (i := 7) (N := some 7) #[true, true, true, true, true, true, true, true, false] rfl rfl (one_of HT_.out (by kernel_rfl)) (by decide) (fun K hK => ?_)
  refine box_step ?hg (N := 7) ?hd (cs := #[.slice none 0 0, .slice none 0 0, .slice none 0 0, .slice none 0 0]) (t := 79) ?hr ?_; (case hd => rfl); (case hg => rfl); (case hr => first | (go_simp; done) | (go_simp; rfl))
  intro gb236 hg w25 hbox hb
  have n0_ := Aside0.mk (Kd.R_below HO229.out hb)
  have n1_ := Aside0.mk (Kd.R_below HO232.out hb)
  have n2_ := Aside0.mk (Kd.R_below HO235.out hb)
  have n3_ := Aside0.mk (blk_below (g := gb226) (o := .cells #[.slice none 0 0, .slice none 0 0, .slice none 0 0, .slice none 0 0] 79 (0, 0)) BK226.out hb)
  have n4_ := Aside0.mk (below_step HB.out hb)
  have n5_ := Aside0.mk (hbox)
  have n6_ := Aside0.mk ((by rw [hg]; exact (below_size HB.out) : w.heap.size ≤ gb236))
  have n7_ := Aside0.mk ((by rw [hg]; exact (below_size HB.out) : w.heap.size ≤ gb236))
  have n8_ := Aside0.mk ((by rw [hg]; exact Nat.ne_of_lt (blk_lt (g := gb226) (o := .cells #[.slice none 0 0, .slice none 0 0, .slice none 0 0, .slice none 0 0] 79 (0, 0)) BK226.out) : gb226 ≠ gb236))
  have n9_ := Aside0.mk ((by rw [hg]; exact Nat.ne_of_gt (blk_lt (g := gb226) (o := .cells #[.slice none 0 0, .slice none 0 0, .slice none 0 0, .slice none 0 0] 79 (0, 0)) BK226.out) : gb236 ≠ gb226))
  clear HO229
  clear HO232
  clear HO235
  clear BK226
  clear HB
  have HO229 := n0_
  have HO232 := n1_
  have HO235 := n2_
  have BK226 := n3_
  have HB := n4_
  have BK236 := n5_
  have GW236 := n6_
  have GE236 := n7_
  have NB226_236 := n8_
  have NB236_226 := n9_
  clear n0_ n1_ n2_ n3_ n4_ n5_ n6_ n7_ n8_ n9_
  clear hb hbox hg
  refine hK.out _ _ trivial (fun hHeld => ?_)
  clear hK K
  exact norm_ (by simp only [putAll, Act.put, List.setIfInBounds_toArray, List.set_cons_zero, List.set_cons_succ]; try rfl) (hJ1_3_5_7 (.slice Ao24 y227.length co24, .slice Ao23 y230.length co23, .slice Ao22 y233.length co22, gb236) _ ⟨HO229.out, HO232.out, HO235.out, BK226.out, BK236.out, GW236.out, GE236.out, NB226_236.out, NB236_226.out, HB.out⟩)

end Go.Proofs.Ytoodiahlofeikaa.PFnExactCountBest
