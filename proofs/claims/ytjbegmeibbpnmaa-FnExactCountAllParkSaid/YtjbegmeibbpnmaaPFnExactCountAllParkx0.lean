/- Written by a program of this session (wip/xprint) out of Lean's own print of the given functions: each function as a plain Lean function, and the proof that the call answers it. -/
import Derived.Test.YtjbegmeibbpnmaaProg
import Derived.Below
import Derived.Deep.Draws
import Derived.Deep.AppendLies
import Derived.Maps.AppendAt
import Derived.OwnWalk
import Derived.Laws.BytesArg
import Derived.Laws.MakeOwn
import Derived.Laws.OwnMore
import Derived.Deep.OwnRows
import Derived.Tactics
import Derived.Lib.ConvBytes
import Derived.Laws.Slices
import Derived.WalkKit
import Derived.KernelRfl
import Derived.RowKit3
import Derived.Deep.LoopGhost
import Derived.Deep.QuietTactic
import Derived.BigQuiet
import Derived.WideLaws
import Derived.Deep.DeepCutAuto
import Derived.Deep.CutBlock
import Derived.Deep.RegionHeld3
import Derived.Laws.Rows
import Derived.Lib.AppendStr
import Derived.ArgAppend
import Derived.Laws.IdiomCopy
import Derived.OrdersHeld
import Derived.Laws.BitsLemmas
import Derived.RowKit
import Derived.Maps.RangeWalk
import Derived.Maps.OwnOps
import Derived.Maps.OwnSet
import Derived.Maps.Ext
import Derived.Test.YtjbegmeibbpnmaaWWords
import Derived.Test.YtjbegmeibbpnmaaWLast
import Derived.Test.YtjbegmeibbpnmaaWTab
import Derived.Test.YtjbegmeibbpnmaaWFour
import Derived.Test.YtjbegmeibbpnmaaWQPut
import Derived.Test.YtjbegmeibbpnmaaWApart
import Derived.Test.YtjbegmeibbpnmaaWArr
import Derived.Test.YtjbegmeibbpnmaaWZeros
import Derived.Test.YtjbegmeibbpnmaaWFoot
import Derived.Test.YtjbegmeibbpnmaaWKept
import Derived.Test.YtjbegmeibbpnmaaWShare
import Derived.Test.YtjbegmeibbpnmaaWN
import Derived.Test.YtjbegmeibbpnmaaWFootNe
import Derived.Test.YtjbegmeibbpnmaaWAt
import Derived.Test.YtjbegmeibbpnmaaWEqStruct
import Derived.Test.YtjbegmeibbpnmaaWRepsOne
import Derived.Test.YtjbegmeibbpnmaaWInv
import Derived.Test.YtjbegmeibbpnmaaWInvWords
import Derived.Test.YtjbegmeibbpnmaaWGuard
import Derived.Test.YtjbegmeibbpnmaaWNEv
import Derived.Test.YtjbegmeibbpnmaaWMore
namespace Go.Proofs.Ytjbegmeibbpnmaa.PFnExactCountAllPark
open Go.RowKit Go.Proofs.YtjbegmeibbpnmaaW.PrintWords Go.Proofs.YtjbegmeibbpnmaaW.PrintLast Go.Proofs.YtjbegmeibbpnmaaW.PrintMore
attribute [local go_sem] max2_int min2_int max_two min_two max_three min_three max_four min_four   -- for this text's walks alone
set_option linter.unusedVariables false
set_option linter.unusedSimpArgs false



def errW : Option Int → Value
  | none => .nilIface
  | some c => .iface 0 (.int .i64 c)
theorem errW_none : errW none = .nilIface := rfl
theorem errW_some (c : Int) : errW (some c) = .iface 0 (.int .i64 c) := rfl

theorem info3 : (Try.prog.info? 3).map (fun i => (i.zero, i.size, i.bytes)) = some (some (.int .i64 0), 1, 8) := by kernel_rfl
-- the values' own types

theorem xreads_strs {w : World} {a : Option Addr} {len cap : Nat} {zs : List ByteArray} (h : (a = none ∧ len = 0 ∧ cap = 0 ∧ zs = []) ∨ ∃ x, a = some x ∧ len ≤ cap ∧ cap ≤ maxLen ∧ zs.length = cap ∧ (∀ i, i < zs.length → w.cell? (x.add i) = some (.string (zs.getD i ByteArray.empty))) ∧ ∀ n ∈ zs, n.size ≤ maxLen) :
    ∃ l : List ByteArray, len = l.length ∧ ReadsOf Value.string ByteArray.empty w a l.length l ∧ l.length ≤ maxLen ∧ (∀ x ∈ l, x.size ≤ maxLen) ∧ l.length ≤ cap := by
  rcases h with ⟨rfl, rfl, rfl, rfl⟩ | ⟨x, rfl, hl, hm, hz, hc, hw⟩
  · exact ⟨[], rfl, ⟨rfl, by simp, fun h => absurd h (by simp)⟩, Nat.zero_le _, fun x hx => by simp at hx, Nat.le_refl _⟩
  · have e : (zs.take len).length = len := by simp; omega
    have hm' : len ≤ maxLen := Nat.le_trans hl hm
    refine ⟨zs.take len, e.symm, ⟨rfl, by rw [e]; simpa [maxLen] using hm', fun _ => ⟨x, rfl, fun j hj => ?_⟩⟩, by rw [e]; exact hm', fun y hy => hw y (List.mem_of_mem_take hy), by rw [e]; exact hl⟩
    rw [e] at hj
    rw [hc j (by omega)]
    simp [List.getD, List.getElem?_take, hj]

end Go.Proofs.Ytjbegmeibbpnmaa.PFnExactCountAllPark
