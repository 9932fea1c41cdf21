/- Written by a program of this session (wip/xprint) out of Lean's own print of the given functions: each function as a plain Lean function, and the proof that the call answers it. -/
import Derived.Test.YtajmlbpchfakcaaDoorProg
import Derived.Below
import Derived.Deep.Draws
import Derived.Deep.AppendLies
import Derived.Maps.AppendAt
import Derived.OwnWalk
import Derived.Laws.BytesArg
import Derived.Laws.MakeOwn
import Derived.Laws.OwnMore
import Derived.Deep.OwnRows
import Derived.Tactics
import Derived.Lib.ConvBytes
import Derived.Laws.Slices
import Derived.WalkKit
import Derived.KernelRfl
import Derived.RowKit3
import Derived.Deep.LoopGhost
import Derived.Deep.QuietTactic
import Derived.BigQuiet
import Derived.WideLaws
import Derived.Deep.DeepCutAuto
import Derived.Deep.CutBlock
import Derived.Deep.RegionHeld3
import Derived.Laws.Rows
import Derived.Lib.AppendStr
import Derived.ArgAppend
import Derived.Laws.IdiomCopy
import Derived.OrdersHeld
import Derived.Laws.BitsLemmas
import Derived.RowKit
import Derived.Shelf.Strconv.ErrVar
import Derived.Shelf.Strconv.Atoi
import Derived.Shelf.Strconv.Itoa3
import Derived.Lib.AppendIntMem
import Derived.Lib.LaidTab
import Derived.Shelf.Lay
import Derived.Test.YtajmlbpchfakcaaDoorWWords
import Derived.Test.YtajmlbpchfakcaaDoorWLast
import Derived.Test.YtajmlbpchfakcaaDoorWTab
import Derived.Test.YtajmlbpchfakcaaDoorWFour
import Derived.Test.YtajmlbpchfakcaaDoorWQPut
import Derived.Test.YtajmlbpchfakcaaDoorWApart
import Derived.Test.YtajmlbpchfakcaaDoorWArr
import Derived.Test.YtajmlbpchfakcaaDoorWZeros
import Derived.Test.YtajmlbpchfakcaaDoorWFoot
import Derived.Test.YtajmlbpchfakcaaDoorWKept
import Derived.Test.YtajmlbpchfakcaaDoorWShare
import Derived.Test.YtajmlbpchfakcaaDoorWN
import Derived.Test.YtajmlbpchfakcaaDoorWFootNe
import Derived.Test.YtajmlbpchfakcaaDoorWAt
import Derived.Test.YtajmlbpchfakcaaDoorWEqStruct
import Derived.Test.YtajmlbpchfakcaaDoorWRepsOne
import Derived.Test.YtajmlbpchfakcaaDoorWInv
import Derived.Test.YtajmlbpchfakcaaDoorWInvWords
import Derived.Test.YtajmlbpchfakcaaDoorWGuard
import Derived.Test.YtajmlbpchfakcaaDoorWNEv
import Derived.Test.YtajmlbpchfakcaaDoorWMore
namespace Go.Proofs.YtajmlbpchfakcaaDoor.PFnExactParseInt
open Go.RowKit Go.Proofs.YtajmlbpchfakcaaDoorW.PrintWords Go.Proofs.YtajmlbpchfakcaaDoorW.PrintLast Go.Proofs.YtajmlbpchfakcaaDoorW.PrintMore
attribute [local go_sem] max2_int min2_int max_two min_two max_three min_three max_four min_four   -- for this text's walks alone
set_option linter.unusedVariables false
set_option linter.unusedSimpArgs false



def errW : Option Int → Value
  | none => .nilIface
  | some c => .iface 0 (.int .i64 c)
theorem errW_none : errW none = .nilIface := rfl
theorem errW_some (c : Int) : errW (some c) = .iface 0 (.int .i64 c) := rfl

-- the values' own types

theorem xreads_strs {w : World} {a : Option Addr} {len cap : Nat} {zs : List ByteArray} (h : (a = none ∧ len = 0 ∧ cap = 0 ∧ zs = []) ∨ ∃ x, a = some x ∧ len ≤ cap ∧ cap ≤ maxLen ∧ zs.length = cap ∧ (∀ i, i < zs.length → w.cell? (x.add i) = some (.string (zs.getD i ByteArray.empty))) ∧ ∀ n ∈ zs, n.size ≤ maxLen) :
    ∃ l : List ByteArray, len = l.length ∧ ReadsOf Value.string ByteArray.empty w a l.length l ∧ l.length ≤ maxLen ∧ (∀ x ∈ l, x.size ≤ maxLen) ∧ l.length ≤ cap := by
  rcases h with ⟨rfl, rfl, rfl, rfl⟩ | ⟨x, rfl, hl, hm, hz, hc, hw⟩
  · exact ⟨[], rfl, ⟨rfl, by simp, fun h => absurd h (by simp)⟩, Nat.zero_le _, fun x hx => by simp at hx, Nat.le_refl _⟩
  · have e : (zs.take len).length = len := by simp; omega
    have hm' : len ≤ maxLen := Nat.le_trans hl hm
    refine ⟨zs.take len, e.symm, ⟨rfl, by rw [e]; simpa [maxLen] using hm', fun _ => ⟨x, rfl, fun j hj => ?_⟩⟩, by rw [e]; exact hm', fun y hy => hw y (List.mem_of_mem_take hy), by rw [e]; exact hl⟩
    rw [e] at hj
    rw [hc j (by omega)]
    simp [List.getD, List.getElem?_take, hj]

/-- What the program's text lays in the table math/bits.deBruijn32tab. -/
def xtab6 : List Int := [0, 1, 28, 2, 29, 14, 24, 3, 30, 22, 20, 15, 25, 17, 4, 8, 31, 27, 13, 23, 21, 19, 16, 7, 26, 12, 18, 6, 11, 5, 10, 9]
/-- What the program's text lays in the table math/bits.deBruijn64tab. -/
def xtab7 : List Int := [0, 1, 56, 2, 57, 49, 28, 3, 61, 58, 42, 50, 38, 29, 17, 4, 62, 47, 59, 36, 45, 43, 51, 22, 53, 39, 33, 30, 24, 18, 12, 5, 63, 55, 48, 27, 60, 41, 37, 16, 46, 35, 44, 21, 52, 32, 23, 11, 54, 26, 40, 15, 34, 20, 31, 10, 25, 14, 19, 9, 13, 8, 7, 6]
/-- What the program's text lays in the table internal/strconv.uint64pow10. -/
def xtab3 : List Int := [1, 10, 100, 1000, 10000, 100000, 1000000, 10000000, 100000000, 1000000000, 10000000000, 100000000000, 1000000000000, 10000000000000, 100000000000000, 1000000000000000, 10000000000000000, 100000000000000000, 1000000000000000000, 10000000000000000000]
/-- The library's table of the powers of ten holds them. -/
def XPow (w : World) : Prop := Lib.TabIs Tryd.prog w "internal/strconv.uint64pow10" .u64 Lib.pow10Tab
theorem XPow.below {w w1 : World} (h : XPow w) (hb : Below w.heap.size w w1) : XPow w1 := by
  unfold XPow Lib.TabIs World.var? at *
  cases hg : Tryd.prog.globalNamed "internal/strconv.uint64pow10" with
  | none => rw [hg] at h; exact absurd h (by simp)
  | some g =>
    rw [hg] at h
    simp only [Option.bind_some] at h ⊢
    cases ho : w.heap[g]? with
    | none => rw [ho] at h; simp at h
    | some q => rw [blk_below ho hb]; rw [ho] at h; exact h
/-- That, and strconv.ErrSyntax holds an error or nil. -/
def XTab (w : World) : Prop := XPow w ∧ ∃ ev : Value, w.cell? ⟨0, 0, none⟩ = some ev ∧ (ev = .nilIface ∨ ∃ te pe, ev = .iface te pe)
theorem XTab.below {w w1 : World} (h : XTab w) (hb : Below w.heap.size w w1) : XTab w1 := ⟨h.1.below hb, h.2.elim fun m hm => ⟨m, pw_cell_below hb hm.1, hm.2⟩⟩
theorem XTab.drewN {w : World} (h : XTab w) (n : Nat) : XTab (w.drewN n) := h.below (pw_below_drewN (Below.refl _ _) n)
theorem XTab.drew {w : World} (h : XTab w) : XTab w.drew := h.below (below_drew1 (Below.refl _ _))
theorem XTab.alloc {w : World} (h : XTab w) (o : Obj) : XTab (w.alloc o) := h.below (below_alloc (Below.refl _ _) o)
end Go.Proofs.YtajmlbpchfakcaaDoor.PFnExactParseInt
